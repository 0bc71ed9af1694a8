/-
  No cell of these rows narrows 'for every input' (looked for: loops, veiled, ifaces, maps, wideKeys, modest, calm, conditions, laid).
  DERIVED. THE GIVEN ROWS OF THIS SEAT. 4 by the template 'for every input the law returns true; each argument reads behind the call as it read before'; 0 by the template 'total and deterministic' (their statements: YtedbajpmndbilaaTotals.lean).
  GIVEN WITH THE SEED: the statements are not yours to turn. If you find one false, say at which input.
  Laid BY PROGRAM, IN A SANDBOX (cutbox-rows.mjs): the forced cells as the released guide's own fill.sh prints them over the translation a4acff2d865b4b52… (all of the seat's roots in one cut). By AI agents, Wed Nov 11 2026. No macro, syntax, notation, axiom, sorry.
-/
import Derived.Test.YtedbajpmndbilaaChecked
import GoSem.Claim
import GoSem.ClaimJoined
import GoSem.ClaimMapViews
import Derived.JoinedTies
import Derived.KernelRfl
namespace Go.Proofs.Ytedbajpmndbilaa
/- THE CELL 'sum', in the pinned program and in every row, IS THE sha256 OF THE DUMP (.gsa) THAT YtedbajpmndbilaaProg.lean LOADS. Nothing in Lean hashes anything: it is a label: what it is worth is what the hold of that sum in a sandbox is worth. -/
noncomputable def Try.pinned : Pinned := { name := "ytedbajpmndbilaa", sum := "a4acff2d865b4b5257c7ca520c2436220f2f06d20bb2a6ae2e1ce32a7e7309fa", checked := Try.checked }
namespace Rows
def none {H : Type} : Left H := { results := [], args := [] }

/-- 'whorllaw4.LexCompares': WHATEVER THE INPUT: true; the input reads as it did. -/
def lexComparesSpec : ChangeSpec := { name := "lexCompares", fn := fun _ => fun
  | [d1, d2, d3] => { results := [.lit (.bool true)], args := [d1, d2, d3] }
  | _ => none }
def lexComparesRow : OpenClaim := { program := "ytedbajpmndbilaa", sum := "a4acff2d865b4b5257c7ca520c2436220f2f06d20bb2a6ae2e1ce32a7e7309fa", func := "whorl/whorllaw4.LexCompares", spec := "lexCompares", inPlace := ["internal/bytealg.Compare"], apart := false }
def LexComparesSaid : Prop := lexComparesRow.holds Try.pinned (OpenSpec.ofChange lexComparesSpec)

/-- ITS FALSE NEIGHBOUR: 'it returns false'. Refute it at one input. -/
def lexComparesWrong : ChangeSpec := { name := "lexCompares", fn := fun _ => fun
  | [d1, d2, d3] => { results := [.lit (.bool false)], args := [d1, d2, d3] }
  | _ => none }
def LexComparesWrongFalsely : Prop := lexComparesRow.holds Try.pinned (OpenSpec.ofChange lexComparesWrong)

/-- 'whorllaw4.LexOrder': WHATEVER THE INPUT: true; the input reads as it did. -/
def lexOrderSpec : ChangeSpec := { name := "lexOrder", fn := fun _ => fun
  | [d1, d2, d3, d4] => { results := [.lit (.bool true)], args := [d1, d2, d3, d4] }
  | _ => none }
def lexOrderRow : OpenClaim := { program := "ytedbajpmndbilaa", sum := "a4acff2d865b4b5257c7ca520c2436220f2f06d20bb2a6ae2e1ce32a7e7309fa", func := "whorl/whorllaw4.LexOrder", spec := "lexOrder", inPlace := ["internal/bytealg.Compare"], apart := false }
def LexOrderSaid : Prop := lexOrderRow.holds Try.pinned (OpenSpec.ofChange lexOrderSpec)

/-- ITS FALSE NEIGHBOUR: 'it returns false'. Refute it at one input. -/
def lexOrderWrong : ChangeSpec := { name := "lexOrder", fn := fun _ => fun
  | [d1, d2, d3, d4] => { results := [.lit (.bool false)], args := [d1, d2, d3, d4] }
  | _ => none }
def LexOrderWrongFalsely : Prop := lexOrderRow.holds Try.pinned (OpenSpec.ofChange lexOrderWrong)

/-- 'whorllaw4.LexNext': WHATEVER THE INPUT: true; the input reads as it did. -/
def lexNextSpec : ChangeSpec := { name := "lexNext", fn := fun _ => fun
  | [d1, d2, d3] => { results := [.lit (.bool true)], args := [d1, d2, d3] }
  | _ => none }
def lexNextRow : OpenClaim := { program := "ytedbajpmndbilaa", sum := "a4acff2d865b4b5257c7ca520c2436220f2f06d20bb2a6ae2e1ce32a7e7309fa", func := "whorl/whorllaw4.LexNext", spec := "lexNext", inPlace := ["internal/bytealg.Compare"], apart := false }
def LexNextSaid : Prop := lexNextRow.holds Try.pinned (OpenSpec.ofChange lexNextSpec)

/-- ITS FALSE NEIGHBOUR: 'it returns false'. Refute it at one input. -/
def lexNextWrong : ChangeSpec := { name := "lexNext", fn := fun _ => fun
  | [d1, d2, d3] => { results := [.lit (.bool false)], args := [d1, d2, d3] }
  | _ => none }
def LexNextWrongFalsely : Prop := lexNextRow.holds Try.pinned (OpenSpec.ofChange lexNextWrong)

/-- 'whorllaw4.LexTurns': WHATEVER THE INPUT: true; the input reads as it did. -/
def lexTurnsSpec : ChangeSpec := { name := "lexTurns", fn := fun _ => fun
  | [d1, d2, d3] => { results := [.lit (.bool true)], args := [d1, d2, d3] }
  | _ => none }
def lexTurnsRow : OpenClaim := { program := "ytedbajpmndbilaa", sum := "a4acff2d865b4b5257c7ca520c2436220f2f06d20bb2a6ae2e1ce32a7e7309fa", func := "whorl/whorllaw4.LexTurns", spec := "lexTurns", inPlace := ["internal/bytealg.Compare"], apart := false }
def LexTurnsSaid : Prop := lexTurnsRow.holds Try.pinned (OpenSpec.ofChange lexTurnsSpec)

/-- ITS FALSE NEIGHBOUR: 'it returns false'. Refute it at one input. -/
def lexTurnsWrong : ChangeSpec := { name := "lexTurns", fn := fun _ => fun
  | [d1, d2, d3] => { results := [.lit (.bool false)], args := [d1, d2, d3] }
  | _ => none }
def LexTurnsWrongFalsely : Prop := lexTurnsRow.holds Try.pinned (OpenSpec.ofChange lexTurnsWrong)

/- THE SECOND FORM. 'bulk': how many values and letters a reading holds, each counted each time it is reached (what is shared counts as often as it is met; a slice's spare places count too). A statement '..UptoSaid' is the law's where the arguments, and the package variables that the reading takes, are together of bulk at most 1048576: NARROWER than '..Said'. Prove '..Said' where nothing that the law and all that it calls make is longer than what came in: it says more and counts as full. Else prove '..UptoSaid'. A law counts once. -/
mutual
def uptoBulk {H : Type} : DataW H → Nat
  | .lit (.string bytes) => bytes.length + 1
  | .lit _ => 1
  | .nil => 1
  | .ptr d => uptoBulk d + 1
  | .slice elems spare => uptoBulkAll elems + uptoBulkAll spare + 1
  | .agg parts => uptoBulkAll parts + 1
  | .iface _ d => uptoBulk d + 1
  | .map entries => uptoBulkEntries entries + 1
  | .held _ => 1
def uptoBulkAll {H : Type} : List (DataW H) → Nat
  | [] => 0
  | d :: r => uptoBulk d + uptoBulkAll r
def uptoBulkEntries {H : Type} : List (Lit × DataW H) → Nat
  | [] => 0
  | x :: r => uptoBulkEntry x + uptoBulkEntries r
def uptoBulkEntry {H : Type} : Lit × DataW H → Nat
  | (.string bytes, d) => bytes.length + uptoBulk d + 1
  | (_, d) => uptoBulk d + 1
 end
def uptoSmall : (H : Type) → List (DataW H) → Bool := fun _ ds => decide (uptoBulkAll ds ≤ 1048576)
def OpenSpec.upto (s : _root_.Go.ChangeSpec) : _root_.Go.OpenSpec := { _root_.Go.OpenSpec.ofChange s with cond := some uptoSmall }

/-- 'whorllaw4.LexCompares', WHERE WHAT IT READS IS OF BULK AT MOST 1048576: true; the input reads as it did. -/
def lexComparesUptoRow : OpenClaim := { program := "ytedbajpmndbilaa", sum := "a4acff2d865b4b5257c7ca520c2436220f2f06d20bb2a6ae2e1ce32a7e7309fa", func := "whorl/whorllaw4.LexCompares", spec := "lexCompares", inPlace := ["internal/bytealg.Compare"], apart := false, narrowed := true }
def LexComparesUptoSaid : Prop := lexComparesUptoRow.holds Try.pinned (OpenSpec.upto lexComparesSpec)

/-- 'whorllaw4.LexOrder', WHERE WHAT IT READS IS OF BULK AT MOST 1048576: true; the input reads as it did. -/
def lexOrderUptoRow : OpenClaim := { program := "ytedbajpmndbilaa", sum := "a4acff2d865b4b5257c7ca520c2436220f2f06d20bb2a6ae2e1ce32a7e7309fa", func := "whorl/whorllaw4.LexOrder", spec := "lexOrder", inPlace := ["internal/bytealg.Compare"], apart := false, narrowed := true }
def LexOrderUptoSaid : Prop := lexOrderUptoRow.holds Try.pinned (OpenSpec.upto lexOrderSpec)

/-- 'whorllaw4.LexNext', WHERE WHAT IT READS IS OF BULK AT MOST 1048576: true; the input reads as it did. -/
def lexNextUptoRow : OpenClaim := { program := "ytedbajpmndbilaa", sum := "a4acff2d865b4b5257c7ca520c2436220f2f06d20bb2a6ae2e1ce32a7e7309fa", func := "whorl/whorllaw4.LexNext", spec := "lexNext", inPlace := ["internal/bytealg.Compare"], apart := false, narrowed := true }
def LexNextUptoSaid : Prop := lexNextUptoRow.holds Try.pinned (OpenSpec.upto lexNextSpec)

/-- 'whorllaw4.LexTurns', WHERE WHAT IT READS IS OF BULK AT MOST 1048576: true; the input reads as it did. -/
def lexTurnsUptoRow : OpenClaim := { program := "ytedbajpmndbilaa", sum := "a4acff2d865b4b5257c7ca520c2436220f2f06d20bb2a6ae2e1ce32a7e7309fa", func := "whorl/whorllaw4.LexTurns", spec := "lexTurns", inPlace := ["internal/bytealg.Compare"], apart := false, narrowed := true }
def LexTurnsUptoSaid : Prop := lexTurnsUptoRow.holds Try.pinned (OpenSpec.upto lexTurnsSpec)

end Rows
end Go.Proofs.Ytedbajpmndbilaa
