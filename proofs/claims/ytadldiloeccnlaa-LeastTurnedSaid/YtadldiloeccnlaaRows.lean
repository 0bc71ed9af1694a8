/-
  No cell of these rows narrows 'for every input' (looked for: loops, veiled, ifaces, maps, wideKeys, modest, calm, conditions, laid).
  DERIVED. THE GIVEN ROWS OF THIS SEAT. 4 by the template 'for every input the law returns true; each argument reads behind the call as it read before'; 0 by the template 'total and deterministic' (their statements: YtadldiloeccnlaaTotals.lean).
  GIVEN WITH THE SEED: the statements are not yours to turn. If you find one false, say at which input.
  Laid BY PROGRAM, IN A SANDBOX (cutbox-rows.mjs): the forced cells as the released guide's own fill.sh prints them over the translation f487389fba0b71ff… (all of the seat's roots in one cut). By AI agents, Wed Nov 11 2026. No macro, syntax, notation, axiom, sorry.
-/
import Derived.Test.YtadldiloeccnlaaChecked
import GoSem.Claim
import GoSem.ClaimJoined
import GoSem.ClaimMapViews
import Derived.JoinedTies
import Derived.KernelRfl
namespace Go.Proofs.Ytadldiloeccnlaa
/- THE CELL 'sum', in the pinned program and in every row, IS THE sha256 OF THE DUMP (.gsa) THAT YtadldiloeccnlaaProg.lean LOADS. Nothing in Lean hashes anything: it is a label: what it is worth is what the hold of that sum in a sandbox is worth. -/
noncomputable def Try.pinned : Pinned := { name := "ytadldiloeccnlaa", sum := "f487389fba0b71ff16ba8a27361c90270720ae148fc5fc106ea25ff0ca5e31bb", checked := Try.checked }
namespace Rows
def none {H : Type} : Left H := { results := [], args := [] }

/-- 'whorllaw6.LeastTells': WHATEVER THE INPUT: true; the input reads as it did. -/
def leastTellsSpec : ChangeSpec := { name := "leastTells", fn := fun _ => fun
  | [d] => { results := [.lit (.bool true)], args := [d] }
  | _ => none }
def leastTellsRow : OpenClaim := { program := "ytadldiloeccnlaa", sum := "f487389fba0b71ff16ba8a27361c90270720ae148fc5fc106ea25ff0ca5e31bb", func := "whorl/whorllaw6.LeastTells", spec := "leastTells", apart := false }
def LeastTellsSaid : Prop := leastTellsRow.holds Try.pinned (OpenSpec.ofChange leastTellsSpec)

/-- ITS FALSE NEIGHBOUR: 'it returns false'. Refute it at one input. -/
def leastTellsWrong : ChangeSpec := { name := "leastTells", fn := fun _ => fun
  | [d] => { results := [.lit (.bool false)], args := [d] }
  | _ => none }
def LeastTellsWrongFalsely : Prop := leastTellsRow.holds Try.pinned (OpenSpec.ofChange leastTellsWrong)

/-- 'whorllaw6.LeastTurned': WHATEVER THE INPUT: true; the input reads as it did. -/
def leastTurnedSpec : ChangeSpec := { name := "leastTurned", fn := fun _ => fun
  | [d1, d2] => { results := [.lit (.bool true)], args := [d1, d2] }
  | _ => none }
def leastTurnedRow : OpenClaim := { program := "ytadldiloeccnlaa", sum := "f487389fba0b71ff16ba8a27361c90270720ae148fc5fc106ea25ff0ca5e31bb", func := "whorl/whorllaw6.LeastTurned", spec := "leastTurned", apart := false }
def LeastTurnedSaid : Prop := leastTurnedRow.holds Try.pinned (OpenSpec.ofChange leastTurnedSpec)

/-- ITS FALSE NEIGHBOUR: 'it returns false'. Refute it at one input. -/
def leastTurnedWrong : ChangeSpec := { name := "leastTurned", fn := fun _ => fun
  | [d1, d2] => { results := [.lit (.bool false)], args := [d1, d2] }
  | _ => none }
def LeastTurnedWrongFalsely : Prop := leastTurnedRow.holds Try.pinned (OpenSpec.ofChange leastTurnedWrong)

/-- 'whorllaw6.LeastNone': WHATEVER THE INPUT: true; the input reads as it did. -/
def leastNoneSpec : ChangeSpec := { name := "leastNone", fn := fun _ => fun
  | [d1, d2] => { results := [.lit (.bool true)], args := [d1, d2] }
  | _ => none }
def leastNoneRow : OpenClaim := { program := "ytadldiloeccnlaa", sum := "f487389fba0b71ff16ba8a27361c90270720ae148fc5fc106ea25ff0ca5e31bb", func := "whorl/whorllaw6.LeastNone", spec := "leastNone", apart := false }
def LeastNoneSaid : Prop := leastNoneRow.holds Try.pinned (OpenSpec.ofChange leastNoneSpec)

/-- ITS FALSE NEIGHBOUR: 'it returns false'. Refute it at one input. -/
def leastNoneWrong : ChangeSpec := { name := "leastNone", fn := fun _ => fun
  | [d1, d2] => { results := [.lit (.bool false)], args := [d1, d2] }
  | _ => none }
def LeastNoneWrongFalsely : Prop := leastNoneRow.holds Try.pinned (OpenSpec.ofChange leastNoneWrong)

/-- 'whorllaw6.LeastRuns': WHATEVER THE INPUT: true; the input reads as it did. -/
def leastRunsSpec : ChangeSpec := { name := "leastRuns", fn := fun _ => fun
  | [d1, d2] => { results := [.lit (.bool true)], args := [d1, d2] }
  | _ => none }
def leastRunsRow : OpenClaim := { program := "ytadldiloeccnlaa", sum := "f487389fba0b71ff16ba8a27361c90270720ae148fc5fc106ea25ff0ca5e31bb", func := "whorl/whorllaw6.LeastRuns", spec := "leastRuns", apart := false }
def LeastRunsSaid : Prop := leastRunsRow.holds Try.pinned (OpenSpec.ofChange leastRunsSpec)

/-- ITS FALSE NEIGHBOUR: 'it returns false'. Refute it at one input. -/
def leastRunsWrong : ChangeSpec := { name := "leastRuns", fn := fun _ => fun
  | [d1, d2] => { results := [.lit (.bool false)], args := [d1, d2] }
  | _ => none }
def LeastRunsWrongFalsely : Prop := leastRunsRow.holds Try.pinned (OpenSpec.ofChange leastRunsWrong)

/- THE SECOND FORM. 'bulk': how many values and letters a reading holds, each counted each time it is reached (what is shared counts as often as it is met; a slice's spare places count too). A statement '..UptoSaid' is the law's where the arguments, and the package variables that the reading takes, are together of bulk at most 1048576: NARROWER than '..Said'. Prove '..Said' where nothing that the law and all that it calls make is longer than what came in: it says more and counts as full. Else prove '..UptoSaid'. A law counts once. -/
mutual
def uptoBulk {H : Type} : DataW H → Nat
  | .lit (.string bytes) => bytes.length + 1
  | .lit _ => 1
  | .nil => 1
  | .ptr d => uptoBulk d + 1
  | .slice elems spare => uptoBulkAll elems + uptoBulkAll spare + 1
  | .agg parts => uptoBulkAll parts + 1
  | .iface _ d => uptoBulk d + 1
  | .map entries => uptoBulkEntries entries + 1
  | .held _ => 1
def uptoBulkAll {H : Type} : List (DataW H) → Nat
  | [] => 0
  | d :: r => uptoBulk d + uptoBulkAll r
def uptoBulkEntries {H : Type} : List (Lit × DataW H) → Nat
  | [] => 0
  | x :: r => uptoBulkEntry x + uptoBulkEntries r
def uptoBulkEntry {H : Type} : Lit × DataW H → Nat
  | (.string bytes, d) => bytes.length + uptoBulk d + 1
  | (_, d) => uptoBulk d + 1
 end
def uptoSmall : (H : Type) → List (DataW H) → Bool := fun _ ds => decide (uptoBulkAll ds ≤ 1048576)
def OpenSpec.upto (s : _root_.Go.ChangeSpec) : _root_.Go.OpenSpec := { _root_.Go.OpenSpec.ofChange s with cond := some uptoSmall }

/-- 'whorllaw6.LeastTells', WHERE WHAT IT READS IS OF BULK AT MOST 1048576: true; the input reads as it did. -/
def leastTellsUptoRow : OpenClaim := { program := "ytadldiloeccnlaa", sum := "f487389fba0b71ff16ba8a27361c90270720ae148fc5fc106ea25ff0ca5e31bb", func := "whorl/whorllaw6.LeastTells", spec := "leastTells", apart := false, narrowed := true }
def LeastTellsUptoSaid : Prop := leastTellsUptoRow.holds Try.pinned (OpenSpec.upto leastTellsSpec)

/-- 'whorllaw6.LeastTurned', WHERE WHAT IT READS IS OF BULK AT MOST 1048576: true; the input reads as it did. -/
def leastTurnedUptoRow : OpenClaim := { program := "ytadldiloeccnlaa", sum := "f487389fba0b71ff16ba8a27361c90270720ae148fc5fc106ea25ff0ca5e31bb", func := "whorl/whorllaw6.LeastTurned", spec := "leastTurned", apart := false, narrowed := true }
def LeastTurnedUptoSaid : Prop := leastTurnedUptoRow.holds Try.pinned (OpenSpec.upto leastTurnedSpec)

/-- 'whorllaw6.LeastNone', WHERE WHAT IT READS IS OF BULK AT MOST 1048576: true; the input reads as it did. -/
def leastNoneUptoRow : OpenClaim := { program := "ytadldiloeccnlaa", sum := "f487389fba0b71ff16ba8a27361c90270720ae148fc5fc106ea25ff0ca5e31bb", func := "whorl/whorllaw6.LeastNone", spec := "leastNone", apart := false, narrowed := true }
def LeastNoneUptoSaid : Prop := leastNoneUptoRow.holds Try.pinned (OpenSpec.upto leastNoneSpec)

/-- 'whorllaw6.LeastRuns', WHERE WHAT IT READS IS OF BULK AT MOST 1048576: true; the input reads as it did. -/
def leastRunsUptoRow : OpenClaim := { program := "ytadldiloeccnlaa", sum := "f487389fba0b71ff16ba8a27361c90270720ae148fc5fc106ea25ff0ca5e31bb", func := "whorl/whorllaw6.LeastRuns", spec := "leastRuns", apart := false, narrowed := true }
def LeastRunsUptoSaid : Prop := leastRunsUptoRow.holds Try.pinned (OpenSpec.upto leastRunsSpec)

end Rows
end Go.Proofs.Ytadldiloeccnlaa
