/-
  No cell of these rows narrows 'for every input' (looked for: loops, veiled, ifaces, maps, wideKeys, modest, calm, conditions, laid).
  DERIVED. THE GIVEN ROWS OF THIS SEAT. 3 by the template 'for every input the law returns true; each argument reads behind the call as it read before'; 0 by the template 'total and deterministic' (their statements: YtbbpplnnegdenaaGreatTotals.lean).
  GIVEN WITH THE SEED: the statements are not yours to turn. If you find one false, say at which input.
  Laid BY PROGRAM, IN A SANDBOX (cutbox-rows.mjs): the forced cells as the released guide's own fill.sh prints them over the translation af6990dc2c0b81b4… (all of the seat's roots in one cut). By AI agents, Wed Nov 11 2026. No macro, syntax, notation, axiom, sorry.
-/
import Derived.Test.YtbbpplnnegdenaaGreatChecked
import GoSem.Claim
import GoSem.ClaimJoined
import GoSem.ClaimMapViews
import Derived.JoinedTies
import Derived.KernelRfl
namespace Go.Proofs.YtbbpplnnegdenaaGreat
/- THE CELL 'sum', in the pinned program and in every row, IS THE sha256 OF THE DUMP (.gsa) THAT YtbbpplnnegdenaaGreatProg.lean LOADS. Nothing in Lean hashes anything: it is a label: what it is worth is what the hold of that sum in a sandbox is worth. -/
noncomputable def Tryz.pinned : Pinned := { name := "ytbbpplnnegdenaagreat", sum := "af6990dc2c0b81b48a4ede032a1f5c7af11fbebd87ee69b583db6f1145678a81", checked := Tryz.checked }
namespace Rows
def none {H : Type} : Left H := { results := [], args := [] }

/-- 'whorltop.TopPipe': WHATEVER THE INPUT: true; the input reads as it did. -/
def topPipeSpec : ChangeSpec := { name := "topPipe", fn := fun _ => fun
  | [d1, d2, d3] => { results := [.lit (.bool true)], args := [d1, d2, d3] }
  | _ => none }
def topPipeRow : OpenClaim := { program := "ytbbpplnnegdenaagreat", sum := "af6990dc2c0b81b48a4ede032a1f5c7af11fbebd87ee69b583db6f1145678a81", func := "whorl/whorltop.TopPipe", spec := "topPipe", inPlace := ["internal/bytealg.IndexByte", "sync/atomic.AddInt64"], unfollowed := true, recurses := true, apart := false }
def TopPipeSaid : Prop := topPipeRow.holds Tryz.pinned (OpenSpec.ofChange topPipeSpec)

/-- ITS FALSE NEIGHBOUR: 'it returns false'. Refute it at one input. -/
def topPipeWrong : ChangeSpec := { name := "topPipe", fn := fun _ => fun
  | [d1, d2, d3] => { results := [.lit (.bool false)], args := [d1, d2, d3] }
  | _ => none }
def TopPipeWrongFalsely : Prop := topPipeRow.holds Tryz.pinned (OpenSpec.ofChange topPipeWrong)

/-- 'whorltop.TopBij': WHATEVER THE INPUT: true; the input reads as it did. -/
def topBijSpec : ChangeSpec := { name := "topBij", fn := fun _ => fun
  | [d] => { results := [.lit (.bool true)], args := [d] }
  | _ => none }
def topBijRow : OpenClaim := { program := "ytbbpplnnegdenaagreat", sum := "af6990dc2c0b81b48a4ede032a1f5c7af11fbebd87ee69b583db6f1145678a81", func := "whorl/whorltop.TopBij", spec := "topBij", inPlace := ["sync/atomic.AddInt64"], unfollowed := true, recurses := true, apart := false }
def TopBijSaid : Prop := topBijRow.holds Tryz.pinned (OpenSpec.ofChange topBijSpec)

/-- ITS FALSE NEIGHBOUR: 'it returns false'. Refute it at one input. -/
def topBijWrong : ChangeSpec := { name := "topBij", fn := fun _ => fun
  | [d] => { results := [.lit (.bool false)], args := [d] }
  | _ => none }
def TopBijWrongFalsely : Prop := topBijRow.holds Tryz.pinned (OpenSpec.ofChange topBijWrong)

/-- 'whorltop.TopTurns': WHATEVER THE INPUT: true; the input reads as it did. -/
def topTurnsSpec : ChangeSpec := { name := "topTurns", fn := fun _ => fun
  | [d] => { results := [.lit (.bool true)], args := [d] }
  | _ => none }
def topTurnsRow : OpenClaim := { program := "ytbbpplnnegdenaagreat", sum := "af6990dc2c0b81b48a4ede032a1f5c7af11fbebd87ee69b583db6f1145678a81", func := "whorl/whorltop.TopTurns", spec := "topTurns", inPlace := ["sync/atomic.AddInt64"], unfollowed := true, recurses := true, apart := false }
def TopTurnsSaid : Prop := topTurnsRow.holds Tryz.pinned (OpenSpec.ofChange topTurnsSpec)

/-- ITS FALSE NEIGHBOUR: 'it returns false'. Refute it at one input. -/
def topTurnsWrong : ChangeSpec := { name := "topTurns", fn := fun _ => fun
  | [d] => { results := [.lit (.bool false)], args := [d] }
  | _ => none }
def TopTurnsWrongFalsely : Prop := topTurnsRow.holds Tryz.pinned (OpenSpec.ofChange topTurnsWrong)

/- THE SECOND FORM. 'bulk': how many values and letters a reading holds, each counted each time it is reached (what is shared counts as often as it is met; a slice's spare places count too). A statement '..UptoSaid' is the law's where the arguments, and the package variables that the reading takes, are together of bulk at most 1048576: NARROWER than '..Said'. Prove '..Said' where nothing that the law and all that it calls make is longer than what came in: it says more and counts as full. Else prove '..UptoSaid'. A law counts once. -/
mutual
def uptoBulk {H : Type} : DataW H → Nat
  | .lit (.string bytes) => bytes.length + 1
  | .lit _ => 1
  | .nil => 1
  | .ptr d => uptoBulk d + 1
  | .slice elems spare => uptoBulkAll elems + uptoBulkAll spare + 1
  | .agg parts => uptoBulkAll parts + 1
  | .iface _ d => uptoBulk d + 1
  | .map entries => uptoBulkEntries entries + 1
  | .held _ => 1
def uptoBulkAll {H : Type} : List (DataW H) → Nat
  | [] => 0
  | d :: r => uptoBulk d + uptoBulkAll r
def uptoBulkEntries {H : Type} : List (Lit × DataW H) → Nat
  | [] => 0
  | x :: r => uptoBulkEntry x + uptoBulkEntries r
def uptoBulkEntry {H : Type} : Lit × DataW H → Nat
  | (.string bytes, d) => bytes.length + uptoBulk d + 1
  | (_, d) => uptoBulk d + 1
 end
def uptoSmall : (H : Type) → List (DataW H) → Bool := fun _ ds => decide (uptoBulkAll ds ≤ 1048576)
def OpenSpec.upto (s : _root_.Go.ChangeSpec) : _root_.Go.OpenSpec := { _root_.Go.OpenSpec.ofChange s with cond := some uptoSmall }

/-- 'whorltop.TopPipe', WHERE WHAT IT READS IS OF BULK AT MOST 1048576: true; the input reads as it did. -/
def topPipeUptoRow : OpenClaim := { program := "ytbbpplnnegdenaagreat", sum := "af6990dc2c0b81b48a4ede032a1f5c7af11fbebd87ee69b583db6f1145678a81", func := "whorl/whorltop.TopPipe", spec := "topPipe", inPlace := ["internal/bytealg.IndexByte", "sync/atomic.AddInt64"], unfollowed := true, recurses := true, apart := false, narrowed := true }
def TopPipeUptoSaid : Prop := topPipeUptoRow.holds Tryz.pinned (OpenSpec.upto topPipeSpec)

/-- 'whorltop.TopBij', WHERE WHAT IT READS IS OF BULK AT MOST 1048576: true; the input reads as it did. -/
def topBijUptoRow : OpenClaim := { program := "ytbbpplnnegdenaagreat", sum := "af6990dc2c0b81b48a4ede032a1f5c7af11fbebd87ee69b583db6f1145678a81", func := "whorl/whorltop.TopBij", spec := "topBij", inPlace := ["sync/atomic.AddInt64"], unfollowed := true, recurses := true, apart := false, narrowed := true }
def TopBijUptoSaid : Prop := topBijUptoRow.holds Tryz.pinned (OpenSpec.upto topBijSpec)

/-- 'whorltop.TopTurns', WHERE WHAT IT READS IS OF BULK AT MOST 1048576: true; the input reads as it did. -/
def topTurnsUptoRow : OpenClaim := { program := "ytbbpplnnegdenaagreat", sum := "af6990dc2c0b81b48a4ede032a1f5c7af11fbebd87ee69b583db6f1145678a81", func := "whorl/whorltop.TopTurns", spec := "topTurns", inPlace := ["sync/atomic.AddInt64"], unfollowed := true, recurses := true, apart := false, narrowed := true }
def TopTurnsUptoSaid : Prop := topTurnsUptoRow.holds Tryz.pinned (OpenSpec.upto topTurnsSpec)

end Rows
end Go.Proofs.YtbbpplnnegdenaaGreat
