/-
  No cell of these rows narrows 'for every input' (looked for: loops, veiled, ifaces, maps, wideKeys, modest, calm, conditions, laid).
  DERIVED. THE GIVEN ROWS OF THIS SEAT. 6 by the template 'for every input the law returns true; each argument reads behind the call as it read before'; 0 by the template 'total and deterministic' (their statements: YtomnhkliimkmgaaTotals.lean).
  GIVEN WITH THE SEED: the statements are not yours to turn. If you find one false, say at which input.
  Laid BY PROGRAM, IN A SANDBOX (cutbox-rows.mjs): the forced cells as the released guide's own fill.sh prints them over the translation 763181d22c7a9151… (all of the seat's roots in one cut). By AI agents, Wed Nov 11 2026. No macro, syntax, notation, axiom, sorry.
-/
import Derived.Test.YtomnhkliimkmgaaChecked
import GoSem.Claim
import GoSem.ClaimJoined
import GoSem.ClaimMapViews
import Derived.JoinedTies
import Derived.KernelRfl
namespace Go.Proofs.Ytomnhkliimkmgaa
/- THE CELL 'sum', in the pinned program and in every row, IS THE sha256 OF THE DUMP (.gsa) THAT YtomnhkliimkmgaaProg.lean LOADS. Nothing in Lean hashes anything: it is a label: what it is worth is what the hold of that sum in a sandbox is worth. -/
noncomputable def Try.pinned : Pinned := { name := "ytomnhkliimkmgaa", sum := "763181d22c7a915190578d71429a772e9a6199c22b01c1100dc91506e9d290be", checked := Try.checked }
namespace Rows
def none {H : Type} : Left H := { results := [], args := [] }

/-- 'whorllaw14.SkewInts': WHATEVER THE INPUT: true; the input reads as it did. -/
def skewIntsSpec : ChangeSpec := { name := "skewInts", fn := fun _ => fun
  | [d1, d2] => { results := [.lit (.bool true)], args := [d1, d2] }
  | _ => none }
def skewIntsRow : OpenClaim := { program := "ytomnhkliimkmgaa", sum := "763181d22c7a915190578d71429a772e9a6199c22b01c1100dc91506e9d290be", func := "whorl/whorllaw14.SkewInts", spec := "skewInts", recurses := true, apart := false }
def SkewIntsSaid : Prop := skewIntsRow.holds Try.pinned (OpenSpec.ofChange skewIntsSpec)

/-- ITS FALSE NEIGHBOUR: 'it returns false'. Refute it at one input. -/
def skewIntsWrong : ChangeSpec := { name := "skewInts", fn := fun _ => fun
  | [d1, d2] => { results := [.lit (.bool false)], args := [d1, d2] }
  | _ => none }
def SkewIntsWrongFalsely : Prop := skewIntsRow.holds Try.pinned (OpenSpec.ofChange skewIntsWrong)

/-- 'whorllaw14.SkewBytes': WHATEVER THE INPUT: true; the input reads as it did. -/
def skewBytesSpec : ChangeSpec := { name := "skewBytes", fn := fun _ => fun
  | [d] => { results := [.lit (.bool true)], args := [d] }
  | _ => none }
def skewBytesRow : OpenClaim := { program := "ytomnhkliimkmgaa", sum := "763181d22c7a915190578d71429a772e9a6199c22b01c1100dc91506e9d290be", func := "whorl/whorllaw14.SkewBytes", spec := "skewBytes", recurses := true, apart := false }
def SkewBytesSaid : Prop := skewBytesRow.holds Try.pinned (OpenSpec.ofChange skewBytesSpec)

/-- ITS FALSE NEIGHBOUR: 'it returns false'. Refute it at one input. -/
def skewBytesWrong : ChangeSpec := { name := "skewBytes", fn := fun _ => fun
  | [d] => { results := [.lit (.bool false)], args := [d] }
  | _ => none }
def SkewBytesWrongFalsely : Prop := skewBytesRow.holds Try.pinned (OpenSpec.ofChange skewBytesWrong)

/-- 'whorllaw14.SkewRuns': WHATEVER THE INPUT: true; the input reads as it did. -/
def skewRunsSpec : ChangeSpec := { name := "skewRuns", fn := fun _ => fun
  | [d1, d2, d3] => { results := [.lit (.bool true)], args := [d1, d2, d3] }
  | _ => none }
def skewRunsRow : OpenClaim := { program := "ytomnhkliimkmgaa", sum := "763181d22c7a915190578d71429a772e9a6199c22b01c1100dc91506e9d290be", func := "whorl/whorllaw14.SkewRuns", spec := "skewRuns", recurses := true, apart := false }
def SkewRunsSaid : Prop := skewRunsRow.holds Try.pinned (OpenSpec.ofChange skewRunsSpec)

/-- ITS FALSE NEIGHBOUR: 'it returns false'. Refute it at one input. -/
def skewRunsWrong : ChangeSpec := { name := "skewRuns", fn := fun _ => fun
  | [d1, d2, d3] => { results := [.lit (.bool false)], args := [d1, d2, d3] }
  | _ => none }
def SkewRunsWrongFalsely : Prop := skewRunsRow.holds Try.pinned (OpenSpec.ofChange skewRunsWrong)

/-- 'whorllaw14.SkewLong': WHATEVER THE INPUT: true; the input reads as it did. -/
def skewLongSpec : ChangeSpec := { name := "skewLong", fn := fun _ => fun
  | [d] => { results := [.lit (.bool true)], args := [d] }
  | _ => none }
def skewLongRow : OpenClaim := { program := "ytomnhkliimkmgaa", sum := "763181d22c7a915190578d71429a772e9a6199c22b01c1100dc91506e9d290be", func := "whorl/whorllaw14.SkewLong", spec := "skewLong", recurses := true, apart := false }
def SkewLongSaid : Prop := skewLongRow.holds Try.pinned (OpenSpec.ofChange skewLongSpec)

/-- ITS FALSE NEIGHBOUR: 'it returns false'. Refute it at one input. -/
def skewLongWrong : ChangeSpec := { name := "skewLong", fn := fun _ => fun
  | [d] => { results := [.lit (.bool false)], args := [d] }
  | _ => none }
def SkewLongWrongFalsely : Prop := skewLongRow.holds Try.pinned (OpenSpec.ofChange skewLongWrong)

/-- 'whorllaw14.SkewSample': WHATEVER THE INPUT: true; the input reads as it did. -/
def skewSampleSpec : ChangeSpec := { name := "skewSample", fn := fun _ => fun
  | [d] => { results := [.lit (.bool true)], args := [d] }
  | _ => none }
def skewSampleRow : OpenClaim := { program := "ytomnhkliimkmgaa", sum := "763181d22c7a915190578d71429a772e9a6199c22b01c1100dc91506e9d290be", func := "whorl/whorllaw14.SkewSample", spec := "skewSample", recurses := true, apart := false }
def SkewSampleSaid : Prop := skewSampleRow.holds Try.pinned (OpenSpec.ofChange skewSampleSpec)

/-- ITS FALSE NEIGHBOUR: 'it returns false'. Refute it at one input. -/
def skewSampleWrong : ChangeSpec := { name := "skewSample", fn := fun _ => fun
  | [d] => { results := [.lit (.bool false)], args := [d] }
  | _ => none }
def SkewSampleWrongFalsely : Prop := skewSampleRow.holds Try.pinned (OpenSpec.ofChange skewSampleWrong)

/-- 'whorllaw14.SkewSpread': WHATEVER THE INPUT: true; the input reads as it did. -/
def skewSpreadSpec : ChangeSpec := { name := "skewSpread", fn := fun _ => fun
  | [d1, d2, d3] => { results := [.lit (.bool true)], args := [d1, d2, d3] }
  | _ => none }
def skewSpreadRow : OpenClaim := { program := "ytomnhkliimkmgaa", sum := "763181d22c7a915190578d71429a772e9a6199c22b01c1100dc91506e9d290be", func := "whorl/whorllaw14.SkewSpread", spec := "skewSpread", recurses := true, apart := false }
def SkewSpreadSaid : Prop := skewSpreadRow.holds Try.pinned (OpenSpec.ofChange skewSpreadSpec)

/-- ITS FALSE NEIGHBOUR: 'it returns false'. Refute it at one input. -/
def skewSpreadWrong : ChangeSpec := { name := "skewSpread", fn := fun _ => fun
  | [d1, d2, d3] => { results := [.lit (.bool false)], args := [d1, d2, d3] }
  | _ => none }
def SkewSpreadWrongFalsely : Prop := skewSpreadRow.holds Try.pinned (OpenSpec.ofChange skewSpreadWrong)

/- THE SECOND FORM. 'bulk': how many values and letters a reading holds, each counted each time it is reached (what is shared counts as often as it is met; a slice's spare places count too). A statement '..UptoSaid' is the law's where the arguments, and the package variables that the reading takes, are together of bulk at most 1048576: NARROWER than '..Said'. Prove '..Said' where nothing that the law and all that it calls make is longer than what came in: it says more and counts as full. Else prove '..UptoSaid'. A law counts once. -/
mutual
def uptoBulk {H : Type} : DataW H → Nat
  | .lit (.string bytes) => bytes.length + 1
  | .lit _ => 1
  | .nil => 1
  | .ptr d => uptoBulk d + 1
  | .slice elems spare => uptoBulkAll elems + uptoBulkAll spare + 1
  | .agg parts => uptoBulkAll parts + 1
  | .iface _ d => uptoBulk d + 1
  | .map entries => uptoBulkEntries entries + 1
  | .held _ => 1
def uptoBulkAll {H : Type} : List (DataW H) → Nat
  | [] => 0
  | d :: r => uptoBulk d + uptoBulkAll r
def uptoBulkEntries {H : Type} : List (Lit × DataW H) → Nat
  | [] => 0
  | x :: r => uptoBulkEntry x + uptoBulkEntries r
def uptoBulkEntry {H : Type} : Lit × DataW H → Nat
  | (.string bytes, d) => bytes.length + uptoBulk d + 1
  | (_, d) => uptoBulk d + 1
 end
def uptoSmall : (H : Type) → List (DataW H) → Bool := fun _ ds => decide (uptoBulkAll ds ≤ 1048576)
def OpenSpec.upto (s : _root_.Go.ChangeSpec) : _root_.Go.OpenSpec := { _root_.Go.OpenSpec.ofChange s with cond := some uptoSmall }

/-- 'whorllaw14.SkewInts', WHERE WHAT IT READS IS OF BULK AT MOST 1048576: true; the input reads as it did. -/
def skewIntsUptoRow : OpenClaim := { program := "ytomnhkliimkmgaa", sum := "763181d22c7a915190578d71429a772e9a6199c22b01c1100dc91506e9d290be", func := "whorl/whorllaw14.SkewInts", spec := "skewInts", recurses := true, apart := false, narrowed := true }
def SkewIntsUptoSaid : Prop := skewIntsUptoRow.holds Try.pinned (OpenSpec.upto skewIntsSpec)

/-- 'whorllaw14.SkewBytes', WHERE WHAT IT READS IS OF BULK AT MOST 1048576: true; the input reads as it did. -/
def skewBytesUptoRow : OpenClaim := { program := "ytomnhkliimkmgaa", sum := "763181d22c7a915190578d71429a772e9a6199c22b01c1100dc91506e9d290be", func := "whorl/whorllaw14.SkewBytes", spec := "skewBytes", recurses := true, apart := false, narrowed := true }
def SkewBytesUptoSaid : Prop := skewBytesUptoRow.holds Try.pinned (OpenSpec.upto skewBytesSpec)

/-- 'whorllaw14.SkewRuns', WHERE WHAT IT READS IS OF BULK AT MOST 1048576: true; the input reads as it did. -/
def skewRunsUptoRow : OpenClaim := { program := "ytomnhkliimkmgaa", sum := "763181d22c7a915190578d71429a772e9a6199c22b01c1100dc91506e9d290be", func := "whorl/whorllaw14.SkewRuns", spec := "skewRuns", recurses := true, apart := false, narrowed := true }
def SkewRunsUptoSaid : Prop := skewRunsUptoRow.holds Try.pinned (OpenSpec.upto skewRunsSpec)

/-- 'whorllaw14.SkewLong', WHERE WHAT IT READS IS OF BULK AT MOST 1048576: true; the input reads as it did. -/
def skewLongUptoRow : OpenClaim := { program := "ytomnhkliimkmgaa", sum := "763181d22c7a915190578d71429a772e9a6199c22b01c1100dc91506e9d290be", func := "whorl/whorllaw14.SkewLong", spec := "skewLong", recurses := true, apart := false, narrowed := true }
def SkewLongUptoSaid : Prop := skewLongUptoRow.holds Try.pinned (OpenSpec.upto skewLongSpec)

/-- 'whorllaw14.SkewSample', WHERE WHAT IT READS IS OF BULK AT MOST 1048576: true; the input reads as it did. -/
def skewSampleUptoRow : OpenClaim := { program := "ytomnhkliimkmgaa", sum := "763181d22c7a915190578d71429a772e9a6199c22b01c1100dc91506e9d290be", func := "whorl/whorllaw14.SkewSample", spec := "skewSample", recurses := true, apart := false, narrowed := true }
def SkewSampleUptoSaid : Prop := skewSampleUptoRow.holds Try.pinned (OpenSpec.upto skewSampleSpec)

/-- 'whorllaw14.SkewSpread', WHERE WHAT IT READS IS OF BULK AT MOST 1048576: true; the input reads as it did. -/
def skewSpreadUptoRow : OpenClaim := { program := "ytomnhkliimkmgaa", sum := "763181d22c7a915190578d71429a772e9a6199c22b01c1100dc91506e9d290be", func := "whorl/whorllaw14.SkewSpread", spec := "skewSpread", recurses := true, apart := false, narrowed := true }
def SkewSpreadUptoSaid : Prop := skewSpreadUptoRow.holds Try.pinned (OpenSpec.upto skewSpreadSpec)

end Rows
end Go.Proofs.Ytomnhkliimkmgaa
