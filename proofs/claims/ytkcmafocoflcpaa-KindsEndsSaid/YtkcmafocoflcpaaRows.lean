/-
  No cell of these rows narrows 'for every input' (looked for: loops, veiled, ifaces, maps, wideKeys, modest, calm, conditions, laid).
  DERIVED. THE GIVEN ROWS OF THIS SEAT. 4 by the template 'for every input the law returns true; each argument reads behind the call as it read before'; 0 by the template 'total and deterministic' (their statements: YtkcmafocoflcpaaTotals.lean).
  GIVEN WITH THE SEED: the statements are not yours to turn. If you find one false, say at which input.
  Laid BY PROGRAM, IN A SANDBOX (cutbox-rows.mjs): the forced cells as the released guide's own fill.sh prints them over the translation a73132290c70508f… (all of the seat's roots in one cut). By AI agents, Wed Nov 11 2026. No macro, syntax, notation, axiom, sorry.
-/
import Derived.Test.YtkcmafocoflcpaaChecked
import GoSem.Claim
import GoSem.ClaimJoined
import GoSem.ClaimMapViews
import Derived.JoinedTies
import Derived.KernelRfl
namespace Go.Proofs.Ytkcmafocoflcpaa
/- THE CELL 'sum', in the pinned program and in every row, IS THE sha256 OF THE DUMP (.gsa) THAT YtkcmafocoflcpaaProg.lean LOADS. Nothing in Lean hashes anything: it is a label: what it is worth is what the hold of that sum in a sandbox is worth. -/
noncomputable def Try.pinned : Pinned := { name := "ytkcmafocoflcpaa", sum := "a73132290c70508fbf9e46e00b2300e6ac3c7789fe4a4e076033ce4a27590cfa", checked := Try.checked }
namespace Rows
def none {H : Type} : Left H := { results := [], args := [] }

/-- 'whorllaw11.KindsTells': WHATEVER THE INPUT: true; the input reads as it did. -/
def kindsTellsSpec : ChangeSpec := { name := "kindsTells", fn := fun _ => fun
  | [d] => { results := [.lit (.bool true)], args := [d] }
  | _ => none }
def kindsTellsRow : OpenClaim := { program := "ytkcmafocoflcpaa", sum := "a73132290c70508fbf9e46e00b2300e6ac3c7789fe4a4e076033ce4a27590cfa", func := "whorl/whorllaw11.KindsTells", spec := "kindsTells", apart := false }
def KindsTellsSaid : Prop := kindsTellsRow.holds Try.pinned (OpenSpec.ofChange kindsTellsSpec)

/-- ITS FALSE NEIGHBOUR: 'it returns false'. Refute it at one input. -/
def kindsTellsWrong : ChangeSpec := { name := "kindsTells", fn := fun _ => fun
  | [d] => { results := [.lit (.bool false)], args := [d] }
  | _ => none }
def KindsTellsWrongFalsely : Prop := kindsTellsRow.holds Try.pinned (OpenSpec.ofChange kindsTellsWrong)

/-- 'whorllaw11.KindsNext': WHATEVER THE INPUT: true; the input reads as it did. -/
def kindsNextSpec : ChangeSpec := { name := "kindsNext", fn := fun _ => fun
  | [d] => { results := [.lit (.bool true)], args := [d] }
  | _ => none }
def kindsNextRow : OpenClaim := { program := "ytkcmafocoflcpaa", sum := "a73132290c70508fbf9e46e00b2300e6ac3c7789fe4a4e076033ce4a27590cfa", func := "whorl/whorllaw11.KindsNext", spec := "kindsNext", apart := false }
def KindsNextSaid : Prop := kindsNextRow.holds Try.pinned (OpenSpec.ofChange kindsNextSpec)

/-- ITS FALSE NEIGHBOUR: 'it returns false'. Refute it at one input. -/
def kindsNextWrong : ChangeSpec := { name := "kindsNext", fn := fun _ => fun
  | [d] => { results := [.lit (.bool false)], args := [d] }
  | _ => none }
def KindsNextWrongFalsely : Prop := kindsNextRow.holds Try.pinned (OpenSpec.ofChange kindsNextWrong)

/-- 'whorllaw11.KindsApart': WHATEVER THE INPUT: true; the input reads as it did. -/
def kindsApartSpec : ChangeSpec := { name := "kindsApart", fn := fun _ => fun
  | [d] => { results := [.lit (.bool true)], args := [d] }
  | _ => none }
def kindsApartRow : OpenClaim := { program := "ytkcmafocoflcpaa", sum := "a73132290c70508fbf9e46e00b2300e6ac3c7789fe4a4e076033ce4a27590cfa", func := "whorl/whorllaw11.KindsApart", spec := "kindsApart", apart := false }
def KindsApartSaid : Prop := kindsApartRow.holds Try.pinned (OpenSpec.ofChange kindsApartSpec)

/-- ITS FALSE NEIGHBOUR: 'it returns false'. Refute it at one input. -/
def kindsApartWrong : ChangeSpec := { name := "kindsApart", fn := fun _ => fun
  | [d] => { results := [.lit (.bool false)], args := [d] }
  | _ => none }
def KindsApartWrongFalsely : Prop := kindsApartRow.holds Try.pinned (OpenSpec.ofChange kindsApartWrong)

/-- 'whorllaw11.KindsEnds': WHATEVER THE INPUT: true; the input reads as it did. -/
def kindsEndsSpec : ChangeSpec := { name := "kindsEnds", fn := fun _ => fun
  | [d1, d2, d3] => { results := [.lit (.bool true)], args := [d1, d2, d3] }
  | _ => none }
def kindsEndsRow : OpenClaim := { program := "ytkcmafocoflcpaa", sum := "a73132290c70508fbf9e46e00b2300e6ac3c7789fe4a4e076033ce4a27590cfa", func := "whorl/whorllaw11.KindsEnds", spec := "kindsEnds", apart := false }
def KindsEndsSaid : Prop := kindsEndsRow.holds Try.pinned (OpenSpec.ofChange kindsEndsSpec)

/-- ITS FALSE NEIGHBOUR: 'it returns false'. Refute it at one input. -/
def kindsEndsWrong : ChangeSpec := { name := "kindsEnds", fn := fun _ => fun
  | [d1, d2, d3] => { results := [.lit (.bool false)], args := [d1, d2, d3] }
  | _ => none }
def KindsEndsWrongFalsely : Prop := kindsEndsRow.holds Try.pinned (OpenSpec.ofChange kindsEndsWrong)

/- THE SECOND FORM. 'bulk': how many values and letters a reading holds, each counted each time it is reached (what is shared counts as often as it is met; a slice's spare places count too). A statement '..UptoSaid' is the law's where the arguments, and the package variables that the reading takes, are together of bulk at most 1048576: NARROWER than '..Said'. Prove '..Said' where nothing that the law and all that it calls make is longer than what came in: it says more and counts as full. Else prove '..UptoSaid'. A law counts once. -/
mutual
def uptoBulk {H : Type} : DataW H → Nat
  | .lit (.string bytes) => bytes.length + 1
  | .lit _ => 1
  | .nil => 1
  | .ptr d => uptoBulk d + 1
  | .slice elems spare => uptoBulkAll elems + uptoBulkAll spare + 1
  | .agg parts => uptoBulkAll parts + 1
  | .iface _ d => uptoBulk d + 1
  | .map entries => uptoBulkEntries entries + 1
  | .held _ => 1
def uptoBulkAll {H : Type} : List (DataW H) → Nat
  | [] => 0
  | d :: r => uptoBulk d + uptoBulkAll r
def uptoBulkEntries {H : Type} : List (Lit × DataW H) → Nat
  | [] => 0
  | x :: r => uptoBulkEntry x + uptoBulkEntries r
def uptoBulkEntry {H : Type} : Lit × DataW H → Nat
  | (.string bytes, d) => bytes.length + uptoBulk d + 1
  | (_, d) => uptoBulk d + 1
 end
def uptoSmall : (H : Type) → List (DataW H) → Bool := fun _ ds => decide (uptoBulkAll ds ≤ 1048576)
def OpenSpec.upto (s : _root_.Go.ChangeSpec) : _root_.Go.OpenSpec := { _root_.Go.OpenSpec.ofChange s with cond := some uptoSmall }

/-- 'whorllaw11.KindsTells', WHERE WHAT IT READS IS OF BULK AT MOST 1048576: true; the input reads as it did. -/
def kindsTellsUptoRow : OpenClaim := { program := "ytkcmafocoflcpaa", sum := "a73132290c70508fbf9e46e00b2300e6ac3c7789fe4a4e076033ce4a27590cfa", func := "whorl/whorllaw11.KindsTells", spec := "kindsTells", apart := false, narrowed := true }
def KindsTellsUptoSaid : Prop := kindsTellsUptoRow.holds Try.pinned (OpenSpec.upto kindsTellsSpec)

/-- 'whorllaw11.KindsNext', WHERE WHAT IT READS IS OF BULK AT MOST 1048576: true; the input reads as it did. -/
def kindsNextUptoRow : OpenClaim := { program := "ytkcmafocoflcpaa", sum := "a73132290c70508fbf9e46e00b2300e6ac3c7789fe4a4e076033ce4a27590cfa", func := "whorl/whorllaw11.KindsNext", spec := "kindsNext", apart := false, narrowed := true }
def KindsNextUptoSaid : Prop := kindsNextUptoRow.holds Try.pinned (OpenSpec.upto kindsNextSpec)

/-- 'whorllaw11.KindsApart', WHERE WHAT IT READS IS OF BULK AT MOST 1048576: true; the input reads as it did. -/
def kindsApartUptoRow : OpenClaim := { program := "ytkcmafocoflcpaa", sum := "a73132290c70508fbf9e46e00b2300e6ac3c7789fe4a4e076033ce4a27590cfa", func := "whorl/whorllaw11.KindsApart", spec := "kindsApart", apart := false, narrowed := true }
def KindsApartUptoSaid : Prop := kindsApartUptoRow.holds Try.pinned (OpenSpec.upto kindsApartSpec)

/-- 'whorllaw11.KindsEnds', WHERE WHAT IT READS IS OF BULK AT MOST 1048576: true; the input reads as it did. -/
def kindsEndsUptoRow : OpenClaim := { program := "ytkcmafocoflcpaa", sum := "a73132290c70508fbf9e46e00b2300e6ac3c7789fe4a4e076033ce4a27590cfa", func := "whorl/whorllaw11.KindsEnds", spec := "kindsEnds", apart := false, narrowed := true }
def KindsEndsUptoSaid : Prop := kindsEndsUptoRow.holds Try.pinned (OpenSpec.upto kindsEndsSpec)

end Rows
end Go.Proofs.Ytkcmafocoflcpaa
