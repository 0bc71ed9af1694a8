/-
  No cell of these rows narrows 'for every input' (looked for: loops, veiled, ifaces, maps, wideKeys, modest, calm, conditions, laid).
  DERIVED. THE GIVEN ROWS OF THIS SEAT. 4 by the template 'for every input the law returns true; each argument reads behind the call as it read before'; 0 by the template 'total and deterministic' (their statements: YthdmoeckoblpdaaTotals.lean).
  GIVEN WITH THE SEED: the statements are not yours to turn. If you find one false, say at which input.
  Laid BY PROGRAM, IN A SANDBOX (cutbox-rows.mjs): the forced cells as the released guide's own fill.sh prints them over the translation 73e09ebee40a163f… (all of the seat's roots in one cut). By AI agents, Wed Nov 11 2026. No macro, syntax, notation, axiom, sorry.
-/
import Derived.Test.YthdmoeckoblpdaaChecked
import GoSem.Claim
import GoSem.ClaimJoined
import GoSem.ClaimMapViews
import Derived.JoinedTies
import Derived.KernelRfl
namespace Go.Proofs.Ythdmoeckoblpdaa
/- THE CELL 'sum', in the pinned program and in every row, IS THE sha256 OF THE DUMP (.gsa) THAT YthdmoeckoblpdaaProg.lean LOADS. Nothing in Lean hashes anything: it is a label: what it is worth is what the hold of that sum in a sandbox is worth. -/
noncomputable def Try.pinned : Pinned := { name := "ythdmoeckoblpdaa", sum := "73e09ebee40a163fb53d34db34d9aa580e508f48a4c3ec0c73735fd795e505e4", checked := Try.checked }
namespace Rows
def none {H : Type} : Left H := { results := [], args := [] }

/-- 'whorllaw22.LfTells': WHATEVER THE INPUT: true; the input reads as it did. -/
def lfTellsSpec : ChangeSpec := { name := "lfTells", fn := fun _ => fun
  | [d] => { results := [.lit (.bool true)], args := [d] }
  | _ => none }
def lfTellsRow : OpenClaim := { program := "ythdmoeckoblpdaa", sum := "73e09ebee40a163fb53d34db34d9aa580e508f48a4c3ec0c73735fd795e505e4", func := "whorl/whorllaw22.LfTells", spec := "lfTells", apart := false }
def LfTellsSaid : Prop := lfTellsRow.holds Try.pinned (OpenSpec.ofChange lfTellsSpec)

/-- ITS FALSE NEIGHBOUR: 'it returns false'. Refute it at one input. -/
def lfTellsWrong : ChangeSpec := { name := "lfTells", fn := fun _ => fun
  | [d] => { results := [.lit (.bool false)], args := [d] }
  | _ => none }
def LfTellsWrongFalsely : Prop := lfTellsRow.holds Try.pinned (OpenSpec.ofChange lfTellsWrong)

/-- 'whorllaw22.LfCycles': WHATEVER THE INPUT: true; the input reads as it did. -/
def lfCyclesSpec : ChangeSpec := { name := "lfCycles", fn := fun _ => fun
  | [d] => { results := [.lit (.bool true)], args := [d] }
  | _ => none }
def lfCyclesRow : OpenClaim := { program := "ythdmoeckoblpdaa", sum := "73e09ebee40a163fb53d34db34d9aa580e508f48a4c3ec0c73735fd795e505e4", func := "whorl/whorllaw22.LfCycles", spec := "lfCycles", apart := false }
def LfCyclesSaid : Prop := lfCyclesRow.holds Try.pinned (OpenSpec.ofChange lfCyclesSpec)

/-- ITS FALSE NEIGHBOUR: 'it returns false'. Refute it at one input. -/
def lfCyclesWrong : ChangeSpec := { name := "lfCycles", fn := fun _ => fun
  | [d] => { results := [.lit (.bool false)], args := [d] }
  | _ => none }
def LfCyclesWrongFalsely : Prop := lfCyclesRow.holds Try.pinned (OpenSpec.ofChange lfCyclesWrong)

/-- 'whorllaw22.LfRises': WHATEVER THE INPUT: true; the input reads as it did. -/
def lfRisesSpec : ChangeSpec := { name := "lfRises", fn := fun _ => fun
  | [d1, d2, d3] => { results := [.lit (.bool true)], args := [d1, d2, d3] }
  | _ => none }
def lfRisesRow : OpenClaim := { program := "ythdmoeckoblpdaa", sum := "73e09ebee40a163fb53d34db34d9aa580e508f48a4c3ec0c73735fd795e505e4", func := "whorl/whorllaw22.LfRises", spec := "lfRises", apart := false }
def LfRisesSaid : Prop := lfRisesRow.holds Try.pinned (OpenSpec.ofChange lfRisesSpec)

/-- ITS FALSE NEIGHBOUR: 'it returns false'. Refute it at one input. -/
def lfRisesWrong : ChangeSpec := { name := "lfRises", fn := fun _ => fun
  | [d1, d2, d3] => { results := [.lit (.bool false)], args := [d1, d2, d3] }
  | _ => none }
def LfRisesWrongFalsely : Prop := lfRisesRow.holds Try.pinned (OpenSpec.ofChange lfRisesWrong)

/-- 'whorllaw22.LfWhole': WHATEVER THE INPUT: true; the input reads as it did. -/
def lfWholeSpec : ChangeSpec := { name := "lfWhole", fn := fun _ => fun
  | [d] => { results := [.lit (.bool true)], args := [d] }
  | _ => none }
def lfWholeRow : OpenClaim := { program := "ythdmoeckoblpdaa", sum := "73e09ebee40a163fb53d34db34d9aa580e508f48a4c3ec0c73735fd795e505e4", func := "whorl/whorllaw22.LfWhole", spec := "lfWhole", apart := false }
def LfWholeSaid : Prop := lfWholeRow.holds Try.pinned (OpenSpec.ofChange lfWholeSpec)

/-- ITS FALSE NEIGHBOUR: 'it returns false'. Refute it at one input. -/
def lfWholeWrong : ChangeSpec := { name := "lfWhole", fn := fun _ => fun
  | [d] => { results := [.lit (.bool false)], args := [d] }
  | _ => none }
def LfWholeWrongFalsely : Prop := lfWholeRow.holds Try.pinned (OpenSpec.ofChange lfWholeWrong)

/- THE SECOND FORM. 'bulk': how many values and letters a reading holds, each counted each time it is reached (what is shared counts as often as it is met; a slice's spare places count too). A statement '..UptoSaid' is the law's where the arguments, and the package variables that the reading takes, are together of bulk at most 1048576: NARROWER than '..Said'. Prove '..Said' where nothing that the law and all that it calls make is longer than what came in: it says more and counts as full. Else prove '..UptoSaid'. A law counts once. -/
mutual
def uptoBulk {H : Type} : DataW H → Nat
  | .lit (.string bytes) => bytes.length + 1
  | .lit _ => 1
  | .nil => 1
  | .ptr d => uptoBulk d + 1
  | .slice elems spare => uptoBulkAll elems + uptoBulkAll spare + 1
  | .agg parts => uptoBulkAll parts + 1
  | .iface _ d => uptoBulk d + 1
  | .map entries => uptoBulkEntries entries + 1
  | .held _ => 1
def uptoBulkAll {H : Type} : List (DataW H) → Nat
  | [] => 0
  | d :: r => uptoBulk d + uptoBulkAll r
def uptoBulkEntries {H : Type} : List (Lit × DataW H) → Nat
  | [] => 0
  | x :: r => uptoBulkEntry x + uptoBulkEntries r
def uptoBulkEntry {H : Type} : Lit × DataW H → Nat
  | (.string bytes, d) => bytes.length + uptoBulk d + 1
  | (_, d) => uptoBulk d + 1
 end
def uptoSmall : (H : Type) → List (DataW H) → Bool := fun _ ds => decide (uptoBulkAll ds ≤ 1048576)
def OpenSpec.upto (s : _root_.Go.ChangeSpec) : _root_.Go.OpenSpec := { _root_.Go.OpenSpec.ofChange s with cond := some uptoSmall }

/-- 'whorllaw22.LfTells', WHERE WHAT IT READS IS OF BULK AT MOST 1048576: true; the input reads as it did. -/
def lfTellsUptoRow : OpenClaim := { program := "ythdmoeckoblpdaa", sum := "73e09ebee40a163fb53d34db34d9aa580e508f48a4c3ec0c73735fd795e505e4", func := "whorl/whorllaw22.LfTells", spec := "lfTells", apart := false, narrowed := true }
def LfTellsUptoSaid : Prop := lfTellsUptoRow.holds Try.pinned (OpenSpec.upto lfTellsSpec)

/-- 'whorllaw22.LfCycles', WHERE WHAT IT READS IS OF BULK AT MOST 1048576: true; the input reads as it did. -/
def lfCyclesUptoRow : OpenClaim := { program := "ythdmoeckoblpdaa", sum := "73e09ebee40a163fb53d34db34d9aa580e508f48a4c3ec0c73735fd795e505e4", func := "whorl/whorllaw22.LfCycles", spec := "lfCycles", apart := false, narrowed := true }
def LfCyclesUptoSaid : Prop := lfCyclesUptoRow.holds Try.pinned (OpenSpec.upto lfCyclesSpec)

/-- 'whorllaw22.LfRises', WHERE WHAT IT READS IS OF BULK AT MOST 1048576: true; the input reads as it did. -/
def lfRisesUptoRow : OpenClaim := { program := "ythdmoeckoblpdaa", sum := "73e09ebee40a163fb53d34db34d9aa580e508f48a4c3ec0c73735fd795e505e4", func := "whorl/whorllaw22.LfRises", spec := "lfRises", apart := false, narrowed := true }
def LfRisesUptoSaid : Prop := lfRisesUptoRow.holds Try.pinned (OpenSpec.upto lfRisesSpec)

/-- 'whorllaw22.LfWhole', WHERE WHAT IT READS IS OF BULK AT MOST 1048576: true; the input reads as it did. -/
def lfWholeUptoRow : OpenClaim := { program := "ythdmoeckoblpdaa", sum := "73e09ebee40a163fb53d34db34d9aa580e508f48a4c3ec0c73735fd795e505e4", func := "whorl/whorllaw22.LfWhole", spec := "lfWhole", apart := false, narrowed := true }
def LfWholeUptoSaid : Prop := lfWholeUptoRow.holds Try.pinned (OpenSpec.upto lfWholeSpec)

end Rows
end Go.Proofs.Ythdmoeckoblpdaa
