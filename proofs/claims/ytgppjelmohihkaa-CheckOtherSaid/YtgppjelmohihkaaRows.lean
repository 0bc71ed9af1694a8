/-
  No cell of these rows narrows 'for every input' (looked for: loops, veiled, ifaces, maps, wideKeys, modest, calm, conditions, laid).
  DERIVED. THE GIVEN ROWS OF THIS SEAT. 4 by the template 'for every input the law returns true; each argument reads behind the call as it read before'; 0 by the template 'total and deterministic' (their statements: YtgppjelmohihkaaTotals.lean).
  GIVEN WITH THE SEED: the statements are not yours to turn. If you find one false, say at which input.
  Laid BY PROGRAM, IN A SANDBOX (cutbox-rows.mjs): the forced cells as the released guide's own fill.sh prints them over the translation 878347f7f1d6faee… (all of the seat's roots in one cut). By AI agents, Wed Nov 11 2026. No macro, syntax, notation, axiom, sorry.
-/
import Derived.Test.YtgppjelmohihkaaChecked
import GoSem.Claim
import GoSem.ClaimJoined
import GoSem.ClaimMapViews
import Derived.JoinedTies
import Derived.KernelRfl
namespace Go.Proofs.Ytgppjelmohihkaa
/- THE CELL 'sum', in the pinned program and in every row, IS THE sha256 OF THE DUMP (.gsa) THAT YtgppjelmohihkaaProg.lean LOADS. Nothing in Lean hashes anything: it is a label: what it is worth is what the hold of that sum in a sandbox is worth. -/
noncomputable def Try.pinned : Pinned := { name := "ytgppjelmohihkaa", sum := "878347f7f1d6faeed0d21d60787e683bfdb7e5ffcde599161cbd26f88cd6769e", checked := Try.checked }
namespace Rows
def none {H : Type} : Left H := { results := [], args := [] }

/-- 'whorllaw19.CheckTells': WHATEVER THE INPUT: true; the input reads as it did. -/
def checkTellsSpec : ChangeSpec := { name := "checkTells", fn := fun _ => fun
  | [d1, d2, d3] => { results := [.lit (.bool true)], args := [d1, d2, d3] }
  | _ => none }
def checkTellsRow : OpenClaim := { program := "ytgppjelmohihkaa", sum := "878347f7f1d6faeed0d21d60787e683bfdb7e5ffcde599161cbd26f88cd6769e", func := "whorl/whorllaw19.CheckTells", spec := "checkTells", apart := false }
def CheckTellsSaid : Prop := checkTellsRow.holds Try.pinned (OpenSpec.ofChange checkTellsSpec)

/-- ITS FALSE NEIGHBOUR: 'it returns false'. Refute it at one input. -/
def checkTellsWrong : ChangeSpec := { name := "checkTells", fn := fun _ => fun
  | [d1, d2, d3] => { results := [.lit (.bool false)], args := [d1, d2, d3] }
  | _ => none }
def CheckTellsWrongFalsely : Prop := checkTellsRow.holds Try.pinned (OpenSpec.ofChange checkTellsWrong)

/-- 'whorllaw19.CheckRight': WHATEVER THE INPUT: true; the input reads as it did. -/
def checkRightSpec : ChangeSpec := { name := "checkRight", fn := fun _ => fun
  | [d1, d2, d3] => { results := [.lit (.bool true)], args := [d1, d2, d3] }
  | _ => none }
def checkRightRow : OpenClaim := { program := "ytgppjelmohihkaa", sum := "878347f7f1d6faeed0d21d60787e683bfdb7e5ffcde599161cbd26f88cd6769e", func := "whorl/whorllaw19.CheckRight", spec := "checkRight", apart := false }
def CheckRightSaid : Prop := checkRightRow.holds Try.pinned (OpenSpec.ofChange checkRightSpec)

/-- ITS FALSE NEIGHBOUR: 'it returns false'. Refute it at one input. -/
def checkRightWrong : ChangeSpec := { name := "checkRight", fn := fun _ => fun
  | [d1, d2, d3] => { results := [.lit (.bool false)], args := [d1, d2, d3] }
  | _ => none }
def CheckRightWrongFalsely : Prop := checkRightRow.holds Try.pinned (OpenSpec.ofChange checkRightWrong)

/-- 'whorllaw19.CheckOther': WHATEVER THE INPUT: true; the input reads as it did. -/
def checkOtherSpec : ChangeSpec := { name := "checkOther", fn := fun _ => fun
  | [d1, d2, d3] => { results := [.lit (.bool true)], args := [d1, d2, d3] }
  | _ => none }
def checkOtherRow : OpenClaim := { program := "ytgppjelmohihkaa", sum := "878347f7f1d6faeed0d21d60787e683bfdb7e5ffcde599161cbd26f88cd6769e", func := "whorl/whorllaw19.CheckOther", spec := "checkOther", apart := false }
def CheckOtherSaid : Prop := checkOtherRow.holds Try.pinned (OpenSpec.ofChange checkOtherSpec)

/-- ITS FALSE NEIGHBOUR: 'it returns false'. Refute it at one input. -/
def checkOtherWrong : ChangeSpec := { name := "checkOther", fn := fun _ => fun
  | [d1, d2, d3] => { results := [.lit (.bool false)], args := [d1, d2, d3] }
  | _ => none }
def CheckOtherWrongFalsely : Prop := checkOtherRow.holds Try.pinned (OpenSpec.ofChange checkOtherWrong)

/-- 'whorllaw19.CheckText': WHATEVER THE INPUT: true; the input reads as it did. -/
def checkTextSpec : ChangeSpec := { name := "checkText", fn := fun _ => fun
  | [d1, d2] => { results := [.lit (.bool true)], args := [d1, d2] }
  | _ => none }
def checkTextRow : OpenClaim := { program := "ytgppjelmohihkaa", sum := "878347f7f1d6faeed0d21d60787e683bfdb7e5ffcde599161cbd26f88cd6769e", func := "whorl/whorllaw19.CheckText", spec := "checkText", apart := false }
def CheckTextSaid : Prop := checkTextRow.holds Try.pinned (OpenSpec.ofChange checkTextSpec)

/-- ITS FALSE NEIGHBOUR: 'it returns false'. Refute it at one input. -/
def checkTextWrong : ChangeSpec := { name := "checkText", fn := fun _ => fun
  | [d1, d2] => { results := [.lit (.bool false)], args := [d1, d2] }
  | _ => none }
def CheckTextWrongFalsely : Prop := checkTextRow.holds Try.pinned (OpenSpec.ofChange checkTextWrong)

/- THE SECOND FORM. 'bulk': how many values and letters a reading holds, each counted each time it is reached (what is shared counts as often as it is met; a slice's spare places count too). A statement '..UptoSaid' is the law's where the arguments, and the package variables that the reading takes, are together of bulk at most 1048576: NARROWER than '..Said'. Prove '..Said' where nothing that the law and all that it calls make is longer than what came in: it says more and counts as full. Else prove '..UptoSaid'. A law counts once. -/
mutual
def uptoBulk {H : Type} : DataW H → Nat
  | .lit (.string bytes) => bytes.length + 1
  | .lit _ => 1
  | .nil => 1
  | .ptr d => uptoBulk d + 1
  | .slice elems spare => uptoBulkAll elems + uptoBulkAll spare + 1
  | .agg parts => uptoBulkAll parts + 1
  | .iface _ d => uptoBulk d + 1
  | .map entries => uptoBulkEntries entries + 1
  | .held _ => 1
def uptoBulkAll {H : Type} : List (DataW H) → Nat
  | [] => 0
  | d :: r => uptoBulk d + uptoBulkAll r
def uptoBulkEntries {H : Type} : List (Lit × DataW H) → Nat
  | [] => 0
  | x :: r => uptoBulkEntry x + uptoBulkEntries r
def uptoBulkEntry {H : Type} : Lit × DataW H → Nat
  | (.string bytes, d) => bytes.length + uptoBulk d + 1
  | (_, d) => uptoBulk d + 1
 end
def uptoSmall : (H : Type) → List (DataW H) → Bool := fun _ ds => decide (uptoBulkAll ds ≤ 1048576)
def OpenSpec.upto (s : _root_.Go.ChangeSpec) : _root_.Go.OpenSpec := { _root_.Go.OpenSpec.ofChange s with cond := some uptoSmall }

/-- 'whorllaw19.CheckTells', WHERE WHAT IT READS IS OF BULK AT MOST 1048576: true; the input reads as it did. -/
def checkTellsUptoRow : OpenClaim := { program := "ytgppjelmohihkaa", sum := "878347f7f1d6faeed0d21d60787e683bfdb7e5ffcde599161cbd26f88cd6769e", func := "whorl/whorllaw19.CheckTells", spec := "checkTells", apart := false, narrowed := true }
def CheckTellsUptoSaid : Prop := checkTellsUptoRow.holds Try.pinned (OpenSpec.upto checkTellsSpec)

/-- 'whorllaw19.CheckRight', WHERE WHAT IT READS IS OF BULK AT MOST 1048576: true; the input reads as it did. -/
def checkRightUptoRow : OpenClaim := { program := "ytgppjelmohihkaa", sum := "878347f7f1d6faeed0d21d60787e683bfdb7e5ffcde599161cbd26f88cd6769e", func := "whorl/whorllaw19.CheckRight", spec := "checkRight", apart := false, narrowed := true }
def CheckRightUptoSaid : Prop := checkRightUptoRow.holds Try.pinned (OpenSpec.upto checkRightSpec)

/-- 'whorllaw19.CheckOther', WHERE WHAT IT READS IS OF BULK AT MOST 1048576: true; the input reads as it did. -/
def checkOtherUptoRow : OpenClaim := { program := "ytgppjelmohihkaa", sum := "878347f7f1d6faeed0d21d60787e683bfdb7e5ffcde599161cbd26f88cd6769e", func := "whorl/whorllaw19.CheckOther", spec := "checkOther", apart := false, narrowed := true }
def CheckOtherUptoSaid : Prop := checkOtherUptoRow.holds Try.pinned (OpenSpec.upto checkOtherSpec)

/-- 'whorllaw19.CheckText', WHERE WHAT IT READS IS OF BULK AT MOST 1048576: true; the input reads as it did. -/
def checkTextUptoRow : OpenClaim := { program := "ytgppjelmohihkaa", sum := "878347f7f1d6faeed0d21d60787e683bfdb7e5ffcde599161cbd26f88cd6769e", func := "whorl/whorllaw19.CheckText", spec := "checkText", apart := false, narrowed := true }
def CheckTextUptoSaid : Prop := checkTextUptoRow.holds Try.pinned (OpenSpec.upto checkTextSpec)

end Rows
end Go.Proofs.Ytgppjelmohihkaa
