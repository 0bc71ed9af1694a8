/-
  No cell of these rows narrows 'for every input' (looked for: loops, veiled, ifaces, maps, wideKeys, modest, calm, conditions, laid).
  DERIVED. THE GIVEN ROWS OF THIS SEAT. 4 by the template 'for every input the law returns true; each argument reads behind the call as it read before'; 0 by the template 'total and deterministic' (their statements: YtbhonjcnemndgaaTotals.lean).
  GIVEN WITH THE SEED: the statements are not yours to turn. If you find one false, say at which input.
  Laid BY PROGRAM, IN A SANDBOX (cutbox-rows.mjs): the forced cells as the released guide's own fill.sh prints them over the translation 02392b6b105fea8d… (all of the seat's roots in one cut). By AI agents, Wed Nov 11 2026. No macro, syntax, notation, axiom, sorry.
-/
import Derived.Test.YtbhonjcnemndgaaChecked
import GoSem.Claim
import GoSem.ClaimJoined
import GoSem.ClaimMapViews
import Derived.JoinedTies
import Derived.KernelRfl
namespace Go.Proofs.Ytbhonjcnemndgaa
/- THE CELL 'sum', in the pinned program and in every row, IS THE sha256 OF THE DUMP (.gsa) THAT YtbhonjcnemndgaaProg.lean LOADS. Nothing in Lean hashes anything: it is a label: what it is worth is what the hold of that sum in a sandbox is worth. -/
noncomputable def Try.pinned : Pinned := { name := "ytbhonjcnemndgaa", sum := "02392b6b105fea8d35fb2787c080550d9c243a09646d41ca0ab8958f2e243ba9", checked := Try.checked }
namespace Rows
def none {H : Type} : Left H := { results := [], args := [] }

/-- 'whorllaw7.LyndonTells': WHATEVER THE INPUT: true; the input reads as it did. -/
def lyndonTellsSpec : ChangeSpec := { name := "lyndonTells", fn := fun _ => fun
  | [d] => { results := [.lit (.bool true)], args := [d] }
  | _ => none }
def lyndonTellsRow : OpenClaim := { program := "ytbhonjcnemndgaa", sum := "02392b6b105fea8d35fb2787c080550d9c243a09646d41ca0ab8958f2e243ba9", func := "whorl/whorllaw7.LyndonTells", spec := "lyndonTells", apart := false }
def LyndonTellsSaid : Prop := lyndonTellsRow.holds Try.pinned (OpenSpec.ofChange lyndonTellsSpec)

/-- ITS FALSE NEIGHBOUR: 'it returns false'. Refute it at one input. -/
def lyndonTellsWrong : ChangeSpec := { name := "lyndonTells", fn := fun _ => fun
  | [d] => { results := [.lit (.bool false)], args := [d] }
  | _ => none }
def LyndonTellsWrongFalsely : Prop := lyndonTellsRow.holds Try.pinned (OpenSpec.ofChange lyndonTellsWrong)

/-- 'whorllaw7.LyndonFalls': WHATEVER THE INPUT: true; the input reads as it did. -/
def lyndonFallsSpec : ChangeSpec := { name := "lyndonFalls", fn := fun _ => fun
  | [d] => { results := [.lit (.bool true)], args := [d] }
  | _ => none }
def lyndonFallsRow : OpenClaim := { program := "ytbhonjcnemndgaa", sum := "02392b6b105fea8d35fb2787c080550d9c243a09646d41ca0ab8958f2e243ba9", func := "whorl/whorllaw7.LyndonFalls", spec := "lyndonFalls", apart := false }
def LyndonFallsSaid : Prop := lyndonFallsRow.holds Try.pinned (OpenSpec.ofChange lyndonFallsSpec)

/-- ITS FALSE NEIGHBOUR: 'it returns false'. Refute it at one input. -/
def lyndonFallsWrong : ChangeSpec := { name := "lyndonFalls", fn := fun _ => fun
  | [d] => { results := [.lit (.bool false)], args := [d] }
  | _ => none }
def LyndonFallsWrongFalsely : Prop := lyndonFallsRow.holds Try.pinned (OpenSpec.ofChange lyndonFallsWrong)

/-- 'whorllaw7.LyndonJoin': WHATEVER THE INPUT: true; the input reads as it did. -/
def lyndonJoinSpec : ChangeSpec := { name := "lyndonJoin", fn := fun _ => fun
  | [d1, d2] => { results := [.lit (.bool true)], args := [d1, d2] }
  | _ => none }
def lyndonJoinRow : OpenClaim := { program := "ytbhonjcnemndgaa", sum := "02392b6b105fea8d35fb2787c080550d9c243a09646d41ca0ab8958f2e243ba9", func := "whorl/whorllaw7.LyndonJoin", spec := "lyndonJoin", apart := false }
def LyndonJoinSaid : Prop := lyndonJoinRow.holds Try.pinned (OpenSpec.ofChange lyndonJoinSpec)

/-- ITS FALSE NEIGHBOUR: 'it returns false'. Refute it at one input. -/
def lyndonJoinWrong : ChangeSpec := { name := "lyndonJoin", fn := fun _ => fun
  | [d1, d2] => { results := [.lit (.bool false)], args := [d1, d2] }
  | _ => none }
def LyndonJoinWrongFalsely : Prop := lyndonJoinRow.holds Try.pinned (OpenSpec.ofChange lyndonJoinWrong)

/-- 'whorllaw7.LyndonPowers': WHATEVER THE INPUT: true; the input reads as it did. -/
def lyndonPowersSpec : ChangeSpec := { name := "lyndonPowers", fn := fun _ => fun
  | [d1, d2] => { results := [.lit (.bool true)], args := [d1, d2] }
  | _ => none }
def lyndonPowersRow : OpenClaim := { program := "ytbhonjcnemndgaa", sum := "02392b6b105fea8d35fb2787c080550d9c243a09646d41ca0ab8958f2e243ba9", func := "whorl/whorllaw7.LyndonPowers", spec := "lyndonPowers", apart := false }
def LyndonPowersSaid : Prop := lyndonPowersRow.holds Try.pinned (OpenSpec.ofChange lyndonPowersSpec)

/-- ITS FALSE NEIGHBOUR: 'it returns false'. Refute it at one input. -/
def lyndonPowersWrong : ChangeSpec := { name := "lyndonPowers", fn := fun _ => fun
  | [d1, d2] => { results := [.lit (.bool false)], args := [d1, d2] }
  | _ => none }
def LyndonPowersWrongFalsely : Prop := lyndonPowersRow.holds Try.pinned (OpenSpec.ofChange lyndonPowersWrong)

/- THE SECOND FORM. 'bulk': how many values and letters a reading holds, each counted each time it is reached (what is shared counts as often as it is met; a slice's spare places count too). A statement '..UptoSaid' is the law's where the arguments, and the package variables that the reading takes, are together of bulk at most 1048576: NARROWER than '..Said'. Prove '..Said' where nothing that the law and all that it calls make is longer than what came in: it says more and counts as full. Else prove '..UptoSaid'. A law counts once. -/
mutual
def uptoBulk {H : Type} : DataW H → Nat
  | .lit (.string bytes) => bytes.length + 1
  | .lit _ => 1
  | .nil => 1
  | .ptr d => uptoBulk d + 1
  | .slice elems spare => uptoBulkAll elems + uptoBulkAll spare + 1
  | .agg parts => uptoBulkAll parts + 1
  | .iface _ d => uptoBulk d + 1
  | .map entries => uptoBulkEntries entries + 1
  | .held _ => 1
def uptoBulkAll {H : Type} : List (DataW H) → Nat
  | [] => 0
  | d :: r => uptoBulk d + uptoBulkAll r
def uptoBulkEntries {H : Type} : List (Lit × DataW H) → Nat
  | [] => 0
  | x :: r => uptoBulkEntry x + uptoBulkEntries r
def uptoBulkEntry {H : Type} : Lit × DataW H → Nat
  | (.string bytes, d) => bytes.length + uptoBulk d + 1
  | (_, d) => uptoBulk d + 1
 end
def uptoSmall : (H : Type) → List (DataW H) → Bool := fun _ ds => decide (uptoBulkAll ds ≤ 1048576)
def OpenSpec.upto (s : _root_.Go.ChangeSpec) : _root_.Go.OpenSpec := { _root_.Go.OpenSpec.ofChange s with cond := some uptoSmall }

/-- 'whorllaw7.LyndonTells', WHERE WHAT IT READS IS OF BULK AT MOST 1048576: true; the input reads as it did. -/
def lyndonTellsUptoRow : OpenClaim := { program := "ytbhonjcnemndgaa", sum := "02392b6b105fea8d35fb2787c080550d9c243a09646d41ca0ab8958f2e243ba9", func := "whorl/whorllaw7.LyndonTells", spec := "lyndonTells", apart := false, narrowed := true }
def LyndonTellsUptoSaid : Prop := lyndonTellsUptoRow.holds Try.pinned (OpenSpec.upto lyndonTellsSpec)

/-- 'whorllaw7.LyndonFalls', WHERE WHAT IT READS IS OF BULK AT MOST 1048576: true; the input reads as it did. -/
def lyndonFallsUptoRow : OpenClaim := { program := "ytbhonjcnemndgaa", sum := "02392b6b105fea8d35fb2787c080550d9c243a09646d41ca0ab8958f2e243ba9", func := "whorl/whorllaw7.LyndonFalls", spec := "lyndonFalls", apart := false, narrowed := true }
def LyndonFallsUptoSaid : Prop := lyndonFallsUptoRow.holds Try.pinned (OpenSpec.upto lyndonFallsSpec)

/-- 'whorllaw7.LyndonJoin', WHERE WHAT IT READS IS OF BULK AT MOST 1048576: true; the input reads as it did. -/
def lyndonJoinUptoRow : OpenClaim := { program := "ytbhonjcnemndgaa", sum := "02392b6b105fea8d35fb2787c080550d9c243a09646d41ca0ab8958f2e243ba9", func := "whorl/whorllaw7.LyndonJoin", spec := "lyndonJoin", apart := false, narrowed := true }
def LyndonJoinUptoSaid : Prop := lyndonJoinUptoRow.holds Try.pinned (OpenSpec.upto lyndonJoinSpec)

/-- 'whorllaw7.LyndonPowers', WHERE WHAT IT READS IS OF BULK AT MOST 1048576: true; the input reads as it did. -/
def lyndonPowersUptoRow : OpenClaim := { program := "ytbhonjcnemndgaa", sum := "02392b6b105fea8d35fb2787c080550d9c243a09646d41ca0ab8958f2e243ba9", func := "whorl/whorllaw7.LyndonPowers", spec := "lyndonPowers", apart := false, narrowed := true }
def LyndonPowersUptoSaid : Prop := lyndonPowersUptoRow.holds Try.pinned (OpenSpec.upto lyndonPowersSpec)

end Rows
end Go.Proofs.Ytbhonjcnemndgaa
