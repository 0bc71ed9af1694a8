/-
  No cell of these rows narrows 'for every input' (looked for: loops, veiled, ifaces, maps, wideKeys, modest, calm, conditions, laid).
  DERIVED. THE GIVEN ROWS OF THIS SEAT. 3 by the template 'for every input the law returns true; each argument reads behind the call as it read before'; 0 by the template 'total and deterministic' (their statements: YtdidofdhakjbmaaTotals.lean).
  GIVEN WITH THE SEED: the statements are not yours to turn. If you find one false, say at which input.
  Laid BY PROGRAM, IN A SANDBOX (cutbox-rows.mjs): the forced cells as the released guide's own fill.sh prints them over the translation b47b6d9319a4b85a… (all of the seat's roots in one cut). By AI agents, Wed Nov 11 2026. No macro, syntax, notation, axiom, sorry.
-/
import Derived.Test.YtdidofdhakjbmaaChecked
import GoSem.Claim
import GoSem.ClaimJoined
import GoSem.ClaimMapViews
import Derived.JoinedTies
import Derived.KernelRfl
namespace Go.Proofs.Ytdidofdhakjbmaa
/- THE CELL 'sum', in the pinned program and in every row, IS THE sha256 OF THE DUMP (.gsa) THAT YtdidofdhakjbmaaProg.lean LOADS. Nothing in Lean hashes anything: it is a label: what it is worth is what the hold of that sum in a sandbox is worth. -/
noncomputable def Try.pinned : Pinned := { name := "ytdidofdhakjbmaa", sum := "b47b6d9319a4b85ab26c74e1b98c58befd9292fc57dae2b3fc67c5ce2b9b6c9d", checked := Try.checked }
namespace Rows
def none {H : Type} : Left H := { results := [], args := [] }

/-- 'whorllaw16.RankTells': WHATEVER THE INPUT: true; the input reads as it did. -/
def rankTellsSpec : ChangeSpec := { name := "rankTells", fn := fun _ => fun
  | [d] => { results := [.lit (.bool true)], args := [d] }
  | _ => none }
def rankTellsRow : OpenClaim := { program := "ytdidofdhakjbmaa", sum := "b47b6d9319a4b85ab26c74e1b98c58befd9292fc57dae2b3fc67c5ce2b9b6c9d", func := "whorl/whorllaw16.RankTells", spec := "rankTells", apart := false }
def RankTellsSaid : Prop := rankTellsRow.holds Try.pinned (OpenSpec.ofChange rankTellsSpec)

/-- ITS FALSE NEIGHBOUR: 'it returns false'. Refute it at one input. -/
def rankTellsWrong : ChangeSpec := { name := "rankTells", fn := fun _ => fun
  | [d] => { results := [.lit (.bool false)], args := [d] }
  | _ => none }
def RankTellsWrongFalsely : Prop := rankTellsRow.holds Try.pinned (OpenSpec.ofChange rankTellsWrong)

/-- 'whorllaw16.RankTwice': WHATEVER THE INPUT: true; the input reads as it did. -/
def rankTwiceSpec : ChangeSpec := { name := "rankTwice", fn := fun _ => fun
  | [d] => { results := [.lit (.bool true)], args := [d] }
  | _ => none }
def rankTwiceRow : OpenClaim := { program := "ytdidofdhakjbmaa", sum := "b47b6d9319a4b85ab26c74e1b98c58befd9292fc57dae2b3fc67c5ce2b9b6c9d", func := "whorl/whorllaw16.RankTwice", spec := "rankTwice", apart := false }
def RankTwiceSaid : Prop := rankTwiceRow.holds Try.pinned (OpenSpec.ofChange rankTwiceSpec)

/-- ITS FALSE NEIGHBOUR: 'it returns false'. Refute it at one input. -/
def rankTwiceWrong : ChangeSpec := { name := "rankTwice", fn := fun _ => fun
  | [d] => { results := [.lit (.bool false)], args := [d] }
  | _ => none }
def RankTwiceWrongFalsely : Prop := rankTwiceRow.holds Try.pinned (OpenSpec.ofChange rankTwiceWrong)

/-- 'whorllaw16.RankOdd': WHATEVER THE INPUT: true; the input reads as it did. -/
def rankOddSpec : ChangeSpec := { name := "rankOdd", fn := fun _ => fun
  | [d1, d2, d3] => { results := [.lit (.bool true)], args := [d1, d2, d3] }
  | _ => none }
def rankOddRow : OpenClaim := { program := "ytdidofdhakjbmaa", sum := "b47b6d9319a4b85ab26c74e1b98c58befd9292fc57dae2b3fc67c5ce2b9b6c9d", func := "whorl/whorllaw16.RankOdd", spec := "rankOdd", apart := false }
def RankOddSaid : Prop := rankOddRow.holds Try.pinned (OpenSpec.ofChange rankOddSpec)

/-- ITS FALSE NEIGHBOUR: 'it returns false'. Refute it at one input. -/
def rankOddWrong : ChangeSpec := { name := "rankOdd", fn := fun _ => fun
  | [d1, d2, d3] => { results := [.lit (.bool false)], args := [d1, d2, d3] }
  | _ => none }
def RankOddWrongFalsely : Prop := rankOddRow.holds Try.pinned (OpenSpec.ofChange rankOddWrong)

/- THE SECOND FORM. 'bulk': how many values and letters a reading holds, each counted each time it is reached (what is shared counts as often as it is met; a slice's spare places count too). A statement '..UptoSaid' is the law's where the arguments, and the package variables that the reading takes, are together of bulk at most 1048576: NARROWER than '..Said'. Prove '..Said' where nothing that the law and all that it calls make is longer than what came in: it says more and counts as full. Else prove '..UptoSaid'. A law counts once. -/
mutual
def uptoBulk {H : Type} : DataW H → Nat
  | .lit (.string bytes) => bytes.length + 1
  | .lit _ => 1
  | .nil => 1
  | .ptr d => uptoBulk d + 1
  | .slice elems spare => uptoBulkAll elems + uptoBulkAll spare + 1
  | .agg parts => uptoBulkAll parts + 1
  | .iface _ d => uptoBulk d + 1
  | .map entries => uptoBulkEntries entries + 1
  | .held _ => 1
def uptoBulkAll {H : Type} : List (DataW H) → Nat
  | [] => 0
  | d :: r => uptoBulk d + uptoBulkAll r
def uptoBulkEntries {H : Type} : List (Lit × DataW H) → Nat
  | [] => 0
  | x :: r => uptoBulkEntry x + uptoBulkEntries r
def uptoBulkEntry {H : Type} : Lit × DataW H → Nat
  | (.string bytes, d) => bytes.length + uptoBulk d + 1
  | (_, d) => uptoBulk d + 1
 end
def uptoSmall : (H : Type) → List (DataW H) → Bool := fun _ ds => decide (uptoBulkAll ds ≤ 1048576)
def OpenSpec.upto (s : _root_.Go.ChangeSpec) : _root_.Go.OpenSpec := { _root_.Go.OpenSpec.ofChange s with cond := some uptoSmall }

/-- 'whorllaw16.RankTells', WHERE WHAT IT READS IS OF BULK AT MOST 1048576: true; the input reads as it did. -/
def rankTellsUptoRow : OpenClaim := { program := "ytdidofdhakjbmaa", sum := "b47b6d9319a4b85ab26c74e1b98c58befd9292fc57dae2b3fc67c5ce2b9b6c9d", func := "whorl/whorllaw16.RankTells", spec := "rankTells", apart := false, narrowed := true }
def RankTellsUptoSaid : Prop := rankTellsUptoRow.holds Try.pinned (OpenSpec.upto rankTellsSpec)

/-- 'whorllaw16.RankTwice', WHERE WHAT IT READS IS OF BULK AT MOST 1048576: true; the input reads as it did. -/
def rankTwiceUptoRow : OpenClaim := { program := "ytdidofdhakjbmaa", sum := "b47b6d9319a4b85ab26c74e1b98c58befd9292fc57dae2b3fc67c5ce2b9b6c9d", func := "whorl/whorllaw16.RankTwice", spec := "rankTwice", apart := false, narrowed := true }
def RankTwiceUptoSaid : Prop := rankTwiceUptoRow.holds Try.pinned (OpenSpec.upto rankTwiceSpec)

/-- 'whorllaw16.RankOdd', WHERE WHAT IT READS IS OF BULK AT MOST 1048576: true; the input reads as it did. -/
def rankOddUptoRow : OpenClaim := { program := "ytdidofdhakjbmaa", sum := "b47b6d9319a4b85ab26c74e1b98c58befd9292fc57dae2b3fc67c5ce2b9b6c9d", func := "whorl/whorllaw16.RankOdd", spec := "rankOdd", apart := false, narrowed := true }
def RankOddUptoSaid : Prop := rankOddUptoRow.holds Try.pinned (OpenSpec.upto rankOddSpec)

end Rows
end Go.Proofs.Ytdidofdhakjbmaa
