/-
  No cell of these rows narrows 'for every input' (looked for: loops, veiled, ifaces, maps, wideKeys, modest, calm, conditions, laid).
  DERIVED. THE GIVEN ROWS OF THIS SEAT. 3 by the template 'for every input the law returns true; each argument reads behind the call as it read before'; 0 by the template 'total and deterministic' (their statements: YtpfdjjakfgacpaaTotals.lean).
  GIVEN WITH THE SEED: the statements are not yours to turn. If you find one false, say at which input.
  Laid BY PROGRAM, IN A SANDBOX (cutbox-rows.mjs): the forced cells as the released guide's own fill.sh prints them over the translation 411c6c4ea17e5b7f… (all of the seat's roots in one cut). By AI agents, Wed Nov 11 2026. No macro, syntax, notation, axiom, sorry.
-/
import Derived.Test.YtpfdjjakfgacpaaChecked
import GoSem.Claim
import GoSem.ClaimJoined
import GoSem.ClaimMapViews
import Derived.JoinedTies
import Derived.KernelRfl
namespace Go.Proofs.Ytpfdjjakfgacpaa
/- THE CELL 'sum', in the pinned program and in every row, IS THE sha256 OF THE DUMP (.gsa) THAT YtpfdjjakfgacpaaProg.lean LOADS. Nothing in Lean hashes anything: it is a label: what it is worth is what the hold of that sum in a sandbox is worth. -/
noncomputable def Try.pinned : Pinned := { name := "ytpfdjjakfgacpaa", sum := "411c6c4ea17e5b7f9bb79a06cf143cd7f365586e5a04d53beb22bbc0ac18bcf3", checked := Try.checked }
namespace Rows
def none {H : Type} : Left H := { results := [], args := [] }

/-- 'whorllaw17.KasaiTells': WHATEVER THE INPUT: true; the input reads as it did. -/
def kasaiTellsSpec : ChangeSpec := { name := "kasaiTells", fn := fun _ => fun
  | [d1, d2] => { results := [.lit (.bool true)], args := [d1, d2] }
  | _ => none }
def kasaiTellsRow : OpenClaim := { program := "ytpfdjjakfgacpaa", sum := "411c6c4ea17e5b7f9bb79a06cf143cd7f365586e5a04d53beb22bbc0ac18bcf3", func := "whorl/whorllaw17.KasaiTells", spec := "kasaiTells", apart := false }
def KasaiTellsSaid : Prop := kasaiTellsRow.holds Try.pinned (OpenSpec.ofChange kasaiTellsSpec)

/-- ITS FALSE NEIGHBOUR: 'it returns false'. Refute it at one input. -/
def kasaiTellsWrong : ChangeSpec := { name := "kasaiTells", fn := fun _ => fun
  | [d1, d2] => { results := [.lit (.bool false)], args := [d1, d2] }
  | _ => none }
def KasaiTellsWrongFalsely : Prop := kasaiTellsRow.holds Try.pinned (OpenSpec.ofChange kasaiTellsWrong)

/-- 'whorllaw17.KasaiOrder': WHATEVER THE INPUT: true; the input reads as it did. -/
def kasaiOrderSpec : ChangeSpec := { name := "kasaiOrder", fn := fun _ => fun
  | [d] => { results := [.lit (.bool true)], args := [d] }
  | _ => none }
def kasaiOrderRow : OpenClaim := { program := "ytpfdjjakfgacpaa", sum := "411c6c4ea17e5b7f9bb79a06cf143cd7f365586e5a04d53beb22bbc0ac18bcf3", func := "whorl/whorllaw17.KasaiOrder", spec := "kasaiOrder", apart := false }
def KasaiOrderSaid : Prop := kasaiOrderRow.holds Try.pinned (OpenSpec.ofChange kasaiOrderSpec)

/-- ITS FALSE NEIGHBOUR: 'it returns false'. Refute it at one input. -/
def kasaiOrderWrong : ChangeSpec := { name := "kasaiOrder", fn := fun _ => fun
  | [d] => { results := [.lit (.bool false)], args := [d] }
  | _ => none }
def KasaiOrderWrongFalsely : Prop := kasaiOrderRow.holds Try.pinned (OpenSpec.ofChange kasaiOrderWrong)

/-- 'whorllaw17.KasaiRuns': WHATEVER THE INPUT: true; the input reads as it did. -/
def kasaiRunsSpec : ChangeSpec := { name := "kasaiRuns", fn := fun _ => fun
  | [d1, d2] => { results := [.lit (.bool true)], args := [d1, d2] }
  | _ => none }
def kasaiRunsRow : OpenClaim := { program := "ytpfdjjakfgacpaa", sum := "411c6c4ea17e5b7f9bb79a06cf143cd7f365586e5a04d53beb22bbc0ac18bcf3", func := "whorl/whorllaw17.KasaiRuns", spec := "kasaiRuns", apart := false }
def KasaiRunsSaid : Prop := kasaiRunsRow.holds Try.pinned (OpenSpec.ofChange kasaiRunsSpec)

/-- ITS FALSE NEIGHBOUR: 'it returns false'. Refute it at one input. -/
def kasaiRunsWrong : ChangeSpec := { name := "kasaiRuns", fn := fun _ => fun
  | [d1, d2] => { results := [.lit (.bool false)], args := [d1, d2] }
  | _ => none }
def KasaiRunsWrongFalsely : Prop := kasaiRunsRow.holds Try.pinned (OpenSpec.ofChange kasaiRunsWrong)

/- THE SECOND FORM. 'bulk': how many values and letters a reading holds, each counted each time it is reached (what is shared counts as often as it is met; a slice's spare places count too). A statement '..UptoSaid' is the law's where the arguments, and the package variables that the reading takes, are together of bulk at most 1048576: NARROWER than '..Said'. Prove '..Said' where nothing that the law and all that it calls make is longer than what came in: it says more and counts as full. Else prove '..UptoSaid'. A law counts once. -/
mutual
def uptoBulk {H : Type} : DataW H → Nat
  | .lit (.string bytes) => bytes.length + 1
  | .lit _ => 1
  | .nil => 1
  | .ptr d => uptoBulk d + 1
  | .slice elems spare => uptoBulkAll elems + uptoBulkAll spare + 1
  | .agg parts => uptoBulkAll parts + 1
  | .iface _ d => uptoBulk d + 1
  | .map entries => uptoBulkEntries entries + 1
  | .held _ => 1
def uptoBulkAll {H : Type} : List (DataW H) → Nat
  | [] => 0
  | d :: r => uptoBulk d + uptoBulkAll r
def uptoBulkEntries {H : Type} : List (Lit × DataW H) → Nat
  | [] => 0
  | x :: r => uptoBulkEntry x + uptoBulkEntries r
def uptoBulkEntry {H : Type} : Lit × DataW H → Nat
  | (.string bytes, d) => bytes.length + uptoBulk d + 1
  | (_, d) => uptoBulk d + 1
 end
def uptoSmall : (H : Type) → List (DataW H) → Bool := fun _ ds => decide (uptoBulkAll ds ≤ 1048576)
def OpenSpec.upto (s : _root_.Go.ChangeSpec) : _root_.Go.OpenSpec := { _root_.Go.OpenSpec.ofChange s with cond := some uptoSmall }

/-- 'whorllaw17.KasaiTells', WHERE WHAT IT READS IS OF BULK AT MOST 1048576: true; the input reads as it did. -/
def kasaiTellsUptoRow : OpenClaim := { program := "ytpfdjjakfgacpaa", sum := "411c6c4ea17e5b7f9bb79a06cf143cd7f365586e5a04d53beb22bbc0ac18bcf3", func := "whorl/whorllaw17.KasaiTells", spec := "kasaiTells", apart := false, narrowed := true }
def KasaiTellsUptoSaid : Prop := kasaiTellsUptoRow.holds Try.pinned (OpenSpec.upto kasaiTellsSpec)

/-- 'whorllaw17.KasaiOrder', WHERE WHAT IT READS IS OF BULK AT MOST 1048576: true; the input reads as it did. -/
def kasaiOrderUptoRow : OpenClaim := { program := "ytpfdjjakfgacpaa", sum := "411c6c4ea17e5b7f9bb79a06cf143cd7f365586e5a04d53beb22bbc0ac18bcf3", func := "whorl/whorllaw17.KasaiOrder", spec := "kasaiOrder", apart := false, narrowed := true }
def KasaiOrderUptoSaid : Prop := kasaiOrderUptoRow.holds Try.pinned (OpenSpec.upto kasaiOrderSpec)

/-- 'whorllaw17.KasaiRuns', WHERE WHAT IT READS IS OF BULK AT MOST 1048576: true; the input reads as it did. -/
def kasaiRunsUptoRow : OpenClaim := { program := "ytpfdjjakfgacpaa", sum := "411c6c4ea17e5b7f9bb79a06cf143cd7f365586e5a04d53beb22bbc0ac18bcf3", func := "whorl/whorllaw17.KasaiRuns", spec := "kasaiRuns", apart := false, narrowed := true }
def KasaiRunsUptoSaid : Prop := kasaiRunsUptoRow.holds Try.pinned (OpenSpec.upto kasaiRunsSpec)

end Rows
end Go.Proofs.Ytpfdjjakfgacpaa
