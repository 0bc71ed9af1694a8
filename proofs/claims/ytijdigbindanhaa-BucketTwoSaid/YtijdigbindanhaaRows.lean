/-
  No cell of these rows narrows 'for every input' (looked for: loops, veiled, ifaces, maps, wideKeys, modest, calm, conditions, laid).
  DERIVED. THE GIVEN ROWS OF THIS SEAT. 4 by the template 'for every input the law returns true; each argument reads behind the call as it read before'; 0 by the template 'total and deterministic' (their statements: YtijdigbindanhaaTotals.lean).
  GIVEN WITH THE SEED: the statements are not yours to turn. If you find one false, say at which input.
  Laid BY PROGRAM, IN A SANDBOX (cutbox-rows.mjs): the forced cells as the released guide's own fill.sh prints them over the translation 7f05a41083ee72be… (all of the seat's roots in one cut). By AI agents, Wed Nov 11 2026. No macro, syntax, notation, axiom, sorry.
-/
import Derived.Test.YtijdigbindanhaaChecked
import GoSem.Claim
import GoSem.ClaimJoined
import GoSem.ClaimMapViews
import Derived.JoinedTies
import Derived.KernelRfl
namespace Go.Proofs.Ytijdigbindanhaa
/- THE CELL 'sum', in the pinned program and in every row, IS THE sha256 OF THE DUMP (.gsa) THAT YtijdigbindanhaaProg.lean LOADS. Nothing in Lean hashes anything: it is a label: what it is worth is what the hold of that sum in a sandbox is worth. -/
noncomputable def Try.pinned : Pinned := { name := "ytijdigbindanhaa", sum := "7f05a41083ee72be5f70cdb2c0345034138d93b1e7592adb5f70c755cd7a240a", checked := Try.checked }
namespace Rows
def none {H : Type} : Left H := { results := [], args := [] }

/-- 'whorllaw10.BucketTells': WHATEVER THE INPUT: true; the input reads as it did. -/
def bucketTellsSpec : ChangeSpec := { name := "bucketTells", fn := fun _ => fun
  | [d1, d2, d3] => { results := [.lit (.bool true)], args := [d1, d2, d3] }
  | _ => none }
def bucketTellsRow : OpenClaim := { program := "ytijdigbindanhaa", sum := "7f05a41083ee72be5f70cdb2c0345034138d93b1e7592adb5f70c755cd7a240a", func := "whorl/whorllaw10.BucketTells", spec := "bucketTells", apart := false }
def BucketTellsSaid : Prop := bucketTellsRow.holds Try.pinned (OpenSpec.ofChange bucketTellsSpec)

/-- ITS FALSE NEIGHBOUR: 'it returns false'. Refute it at one input. -/
def bucketTellsWrong : ChangeSpec := { name := "bucketTells", fn := fun _ => fun
  | [d1, d2, d3] => { results := [.lit (.bool false)], args := [d1, d2, d3] }
  | _ => none }
def BucketTellsWrongFalsely : Prop := bucketTellsRow.holds Try.pinned (OpenSpec.ofChange bucketTellsWrong)

/-- 'whorllaw10.BucketStarts': WHATEVER THE INPUT: true; the input reads as it did. -/
def bucketStartsSpec : ChangeSpec := { name := "bucketStarts", fn := fun _ => fun
  | [d] => { results := [.lit (.bool true)], args := [d] }
  | _ => none }
def bucketStartsRow : OpenClaim := { program := "ytijdigbindanhaa", sum := "7f05a41083ee72be5f70cdb2c0345034138d93b1e7592adb5f70c755cd7a240a", func := "whorl/whorllaw10.BucketStarts", spec := "bucketStarts", apart := false }
def BucketStartsSaid : Prop := bucketStartsRow.holds Try.pinned (OpenSpec.ofChange bucketStartsSpec)

/-- ITS FALSE NEIGHBOUR: 'it returns false'. Refute it at one input. -/
def bucketStartsWrong : ChangeSpec := { name := "bucketStarts", fn := fun _ => fun
  | [d] => { results := [.lit (.bool false)], args := [d] }
  | _ => none }
def BucketStartsWrongFalsely : Prop := bucketStartsRow.holds Try.pinned (OpenSpec.ofChange bucketStartsWrong)

/-- 'whorllaw10.BucketTwo': WHATEVER THE INPUT: true; the input reads as it did. -/
def bucketTwoSpec : ChangeSpec := { name := "bucketTwo", fn := fun _ => fun
  | [d1, d2] => { results := [.lit (.bool true)], args := [d1, d2] }
  | _ => none }
def bucketTwoRow : OpenClaim := { program := "ytijdigbindanhaa", sum := "7f05a41083ee72be5f70cdb2c0345034138d93b1e7592adb5f70c755cd7a240a", func := "whorl/whorllaw10.BucketTwo", spec := "bucketTwo", apart := false }
def BucketTwoSaid : Prop := bucketTwoRow.holds Try.pinned (OpenSpec.ofChange bucketTwoSpec)

/-- ITS FALSE NEIGHBOUR: 'it returns false'. Refute it at one input. -/
def bucketTwoWrong : ChangeSpec := { name := "bucketTwo", fn := fun _ => fun
  | [d1, d2] => { results := [.lit (.bool false)], args := [d1, d2] }
  | _ => none }
def BucketTwoWrongFalsely : Prop := bucketTwoRow.holds Try.pinned (OpenSpec.ofChange bucketTwoWrong)

/-- 'whorllaw10.BucketAll': WHATEVER THE INPUT: true; the input reads as it did. -/
def bucketAllSpec : ChangeSpec := { name := "bucketAll", fn := fun _ => fun
  | [d1, d2] => { results := [.lit (.bool true)], args := [d1, d2] }
  | _ => none }
def bucketAllRow : OpenClaim := { program := "ytijdigbindanhaa", sum := "7f05a41083ee72be5f70cdb2c0345034138d93b1e7592adb5f70c755cd7a240a", func := "whorl/whorllaw10.BucketAll", spec := "bucketAll", apart := false }
def BucketAllSaid : Prop := bucketAllRow.holds Try.pinned (OpenSpec.ofChange bucketAllSpec)

/-- ITS FALSE NEIGHBOUR: 'it returns false'. Refute it at one input. -/
def bucketAllWrong : ChangeSpec := { name := "bucketAll", fn := fun _ => fun
  | [d1, d2] => { results := [.lit (.bool false)], args := [d1, d2] }
  | _ => none }
def BucketAllWrongFalsely : Prop := bucketAllRow.holds Try.pinned (OpenSpec.ofChange bucketAllWrong)

/- THE SECOND FORM. 'bulk': how many values and letters a reading holds, each counted each time it is reached (what is shared counts as often as it is met; a slice's spare places count too). A statement '..UptoSaid' is the law's where the arguments, and the package variables that the reading takes, are together of bulk at most 1048576: NARROWER than '..Said'. Prove '..Said' where nothing that the law and all that it calls make is longer than what came in: it says more and counts as full. Else prove '..UptoSaid'. A law counts once. -/
mutual
def uptoBulk {H : Type} : DataW H → Nat
  | .lit (.string bytes) => bytes.length + 1
  | .lit _ => 1
  | .nil => 1
  | .ptr d => uptoBulk d + 1
  | .slice elems spare => uptoBulkAll elems + uptoBulkAll spare + 1
  | .agg parts => uptoBulkAll parts + 1
  | .iface _ d => uptoBulk d + 1
  | .map entries => uptoBulkEntries entries + 1
  | .held _ => 1
def uptoBulkAll {H : Type} : List (DataW H) → Nat
  | [] => 0
  | d :: r => uptoBulk d + uptoBulkAll r
def uptoBulkEntries {H : Type} : List (Lit × DataW H) → Nat
  | [] => 0
  | x :: r => uptoBulkEntry x + uptoBulkEntries r
def uptoBulkEntry {H : Type} : Lit × DataW H → Nat
  | (.string bytes, d) => bytes.length + uptoBulk d + 1
  | (_, d) => uptoBulk d + 1
 end
def uptoSmall : (H : Type) → List (DataW H) → Bool := fun _ ds => decide (uptoBulkAll ds ≤ 1048576)
def OpenSpec.upto (s : _root_.Go.ChangeSpec) : _root_.Go.OpenSpec := { _root_.Go.OpenSpec.ofChange s with cond := some uptoSmall }

/-- 'whorllaw10.BucketTells', WHERE WHAT IT READS IS OF BULK AT MOST 1048576: true; the input reads as it did. -/
def bucketTellsUptoRow : OpenClaim := { program := "ytijdigbindanhaa", sum := "7f05a41083ee72be5f70cdb2c0345034138d93b1e7592adb5f70c755cd7a240a", func := "whorl/whorllaw10.BucketTells", spec := "bucketTells", apart := false, narrowed := true }
def BucketTellsUptoSaid : Prop := bucketTellsUptoRow.holds Try.pinned (OpenSpec.upto bucketTellsSpec)

/-- 'whorllaw10.BucketStarts', WHERE WHAT IT READS IS OF BULK AT MOST 1048576: true; the input reads as it did. -/
def bucketStartsUptoRow : OpenClaim := { program := "ytijdigbindanhaa", sum := "7f05a41083ee72be5f70cdb2c0345034138d93b1e7592adb5f70c755cd7a240a", func := "whorl/whorllaw10.BucketStarts", spec := "bucketStarts", apart := false, narrowed := true }
def BucketStartsUptoSaid : Prop := bucketStartsUptoRow.holds Try.pinned (OpenSpec.upto bucketStartsSpec)

/-- 'whorllaw10.BucketTwo', WHERE WHAT IT READS IS OF BULK AT MOST 1048576: true; the input reads as it did. -/
def bucketTwoUptoRow : OpenClaim := { program := "ytijdigbindanhaa", sum := "7f05a41083ee72be5f70cdb2c0345034138d93b1e7592adb5f70c755cd7a240a", func := "whorl/whorllaw10.BucketTwo", spec := "bucketTwo", apart := false, narrowed := true }
def BucketTwoUptoSaid : Prop := bucketTwoUptoRow.holds Try.pinned (OpenSpec.upto bucketTwoSpec)

/-- 'whorllaw10.BucketAll', WHERE WHAT IT READS IS OF BULK AT MOST 1048576: true; the input reads as it did. -/
def bucketAllUptoRow : OpenClaim := { program := "ytijdigbindanhaa", sum := "7f05a41083ee72be5f70cdb2c0345034138d93b1e7592adb5f70c755cd7a240a", func := "whorl/whorllaw10.BucketAll", spec := "bucketAll", apart := false, narrowed := true }
def BucketAllUptoSaid : Prop := bucketAllUptoRow.holds Try.pinned (OpenSpec.upto bucketAllSpec)

end Rows
end Go.Proofs.Ytijdigbindanhaa
