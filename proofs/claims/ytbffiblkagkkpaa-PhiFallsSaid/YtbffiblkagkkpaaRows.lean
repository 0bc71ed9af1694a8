/-
  No cell of these rows narrows 'for every input' (looked for: loops, veiled, ifaces, maps, wideKeys, modest, calm, conditions, laid).
  DERIVED. THE GIVEN ROWS OF THIS SEAT. 3 by the template 'for every input the law returns true; each argument reads behind the call as it read before'; 0 by the template 'total and deterministic' (their statements: YtbffiblkagkkpaaTotals.lean).
  GIVEN WITH THE SEED: the statements are not yours to turn. If you find one false, say at which input.
  Laid BY PROGRAM, IN A SANDBOX (cutbox-rows.mjs): the forced cells as the released guide's own fill.sh prints them over the translation 551f2ee77575751a… (all of the seat's roots in one cut). By AI agents, Wed Nov 11 2026. No macro, syntax, notation, axiom, sorry.
-/
import Derived.Test.YtbffiblkagkkpaaChecked
import GoSem.Claim
import GoSem.ClaimJoined
import GoSem.ClaimMapViews
import Derived.JoinedTies
import Derived.KernelRfl
namespace Go.Proofs.Ytbffiblkagkkpaa
/- THE CELL 'sum', in the pinned program and in every row, IS THE sha256 OF THE DUMP (.gsa) THAT YtbffiblkagkkpaaProg.lean LOADS. Nothing in Lean hashes anything: it is a label: what it is worth is what the hold of that sum in a sandbox is worth. -/
noncomputable def Try.pinned : Pinned := { name := "ytbffiblkagkkpaa", sum := "551f2ee77575751a5123e2e70c4a6dee3d9f2e34d866cfcc33d1ad1c67bc278d", checked := Try.checked }
namespace Rows
def none {H : Type} : Left H := { results := [], args := [] }

/-- 'whorllaw18.PhiAhead': WHATEVER THE INPUT: true; the input reads as it did. -/
def phiAheadSpec : ChangeSpec := { name := "phiAhead", fn := fun _ => fun
  | [d] => { results := [.lit (.bool true)], args := [d] }
  | _ => none }
def phiAheadRow : OpenClaim := { program := "ytbffiblkagkkpaa", sum := "551f2ee77575751a5123e2e70c4a6dee3d9f2e34d866cfcc33d1ad1c67bc278d", func := "whorl/whorllaw18.PhiAhead", spec := "phiAhead", apart := false }
def PhiAheadSaid : Prop := phiAheadRow.holds Try.pinned (OpenSpec.ofChange phiAheadSpec)

/-- ITS FALSE NEIGHBOUR: 'it returns false'. Refute it at one input. -/
def phiAheadWrong : ChangeSpec := { name := "phiAhead", fn := fun _ => fun
  | [d] => { results := [.lit (.bool false)], args := [d] }
  | _ => none }
def PhiAheadWrongFalsely : Prop := phiAheadRow.holds Try.pinned (OpenSpec.ofChange phiAheadWrong)

/-- 'whorllaw18.PhiTells': WHATEVER THE INPUT: true; the input reads as it did. -/
def phiTellsSpec : ChangeSpec := { name := "phiTells", fn := fun _ => fun
  | [d1, d2] => { results := [.lit (.bool true)], args := [d1, d2] }
  | _ => none }
def phiTellsRow : OpenClaim := { program := "ytbffiblkagkkpaa", sum := "551f2ee77575751a5123e2e70c4a6dee3d9f2e34d866cfcc33d1ad1c67bc278d", func := "whorl/whorllaw18.PhiTells", spec := "phiTells", apart := false }
def PhiTellsSaid : Prop := phiTellsRow.holds Try.pinned (OpenSpec.ofChange phiTellsSpec)

/-- ITS FALSE NEIGHBOUR: 'it returns false'. Refute it at one input. -/
def phiTellsWrong : ChangeSpec := { name := "phiTells", fn := fun _ => fun
  | [d1, d2] => { results := [.lit (.bool false)], args := [d1, d2] }
  | _ => none }
def PhiTellsWrongFalsely : Prop := phiTellsRow.holds Try.pinned (OpenSpec.ofChange phiTellsWrong)

/-- 'whorllaw18.PhiFalls': WHATEVER THE INPUT: true; the input reads as it did. -/
def phiFallsSpec : ChangeSpec := { name := "phiFalls", fn := fun _ => fun
  | [d] => { results := [.lit (.bool true)], args := [d] }
  | _ => none }
def phiFallsRow : OpenClaim := { program := "ytbffiblkagkkpaa", sum := "551f2ee77575751a5123e2e70c4a6dee3d9f2e34d866cfcc33d1ad1c67bc278d", func := "whorl/whorllaw18.PhiFalls", spec := "phiFalls", apart := false }
def PhiFallsSaid : Prop := phiFallsRow.holds Try.pinned (OpenSpec.ofChange phiFallsSpec)

/-- ITS FALSE NEIGHBOUR: 'it returns false'. Refute it at one input. -/
def phiFallsWrong : ChangeSpec := { name := "phiFalls", fn := fun _ => fun
  | [d] => { results := [.lit (.bool false)], args := [d] }
  | _ => none }
def PhiFallsWrongFalsely : Prop := phiFallsRow.holds Try.pinned (OpenSpec.ofChange phiFallsWrong)

/- THE SECOND FORM. 'bulk': how many values and letters a reading holds, each counted each time it is reached (what is shared counts as often as it is met; a slice's spare places count too). A statement '..UptoSaid' is the law's where the arguments, and the package variables that the reading takes, are together of bulk at most 1048576: NARROWER than '..Said'. Prove '..Said' where nothing that the law and all that it calls make is longer than what came in: it says more and counts as full. Else prove '..UptoSaid'. A law counts once. -/
mutual
def uptoBulk {H : Type} : DataW H → Nat
  | .lit (.string bytes) => bytes.length + 1
  | .lit _ => 1
  | .nil => 1
  | .ptr d => uptoBulk d + 1
  | .slice elems spare => uptoBulkAll elems + uptoBulkAll spare + 1
  | .agg parts => uptoBulkAll parts + 1
  | .iface _ d => uptoBulk d + 1
  | .map entries => uptoBulkEntries entries + 1
  | .held _ => 1
def uptoBulkAll {H : Type} : List (DataW H) → Nat
  | [] => 0
  | d :: r => uptoBulk d + uptoBulkAll r
def uptoBulkEntries {H : Type} : List (Lit × DataW H) → Nat
  | [] => 0
  | x :: r => uptoBulkEntry x + uptoBulkEntries r
def uptoBulkEntry {H : Type} : Lit × DataW H → Nat
  | (.string bytes, d) => bytes.length + uptoBulk d + 1
  | (_, d) => uptoBulk d + 1
 end
def uptoSmall : (H : Type) → List (DataW H) → Bool := fun _ ds => decide (uptoBulkAll ds ≤ 1048576)
def OpenSpec.upto (s : _root_.Go.ChangeSpec) : _root_.Go.OpenSpec := { _root_.Go.OpenSpec.ofChange s with cond := some uptoSmall }

/-- 'whorllaw18.PhiAhead', WHERE WHAT IT READS IS OF BULK AT MOST 1048576: true; the input reads as it did. -/
def phiAheadUptoRow : OpenClaim := { program := "ytbffiblkagkkpaa", sum := "551f2ee77575751a5123e2e70c4a6dee3d9f2e34d866cfcc33d1ad1c67bc278d", func := "whorl/whorllaw18.PhiAhead", spec := "phiAhead", apart := false, narrowed := true }
def PhiAheadUptoSaid : Prop := phiAheadUptoRow.holds Try.pinned (OpenSpec.upto phiAheadSpec)

/-- 'whorllaw18.PhiTells', WHERE WHAT IT READS IS OF BULK AT MOST 1048576: true; the input reads as it did. -/
def phiTellsUptoRow : OpenClaim := { program := "ytbffiblkagkkpaa", sum := "551f2ee77575751a5123e2e70c4a6dee3d9f2e34d866cfcc33d1ad1c67bc278d", func := "whorl/whorllaw18.PhiTells", spec := "phiTells", apart := false, narrowed := true }
def PhiTellsUptoSaid : Prop := phiTellsUptoRow.holds Try.pinned (OpenSpec.upto phiTellsSpec)

/-- 'whorllaw18.PhiFalls', WHERE WHAT IT READS IS OF BULK AT MOST 1048576: true; the input reads as it did. -/
def phiFallsUptoRow : OpenClaim := { program := "ytbffiblkagkkpaa", sum := "551f2ee77575751a5123e2e70c4a6dee3d9f2e34d866cfcc33d1ad1c67bc278d", func := "whorl/whorllaw18.PhiFalls", spec := "phiFalls", apart := false, narrowed := true }
def PhiFallsUptoSaid : Prop := phiFallsUptoRow.holds Try.pinned (OpenSpec.upto phiFallsSpec)

end Rows
end Go.Proofs.Ytbffiblkagkkpaa
