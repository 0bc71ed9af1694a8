/- Words for the walks that were laid by hand: what a literal's row reads as, with or without the mark of a constant string's bytes. -/
import Derived.Test.YtbhonjcnemndgaaWMore
import Derived.Test.YtbhonjcnemndgaaWWords
import Derived.Lib.SlBytesConst
set_option linter.unusedVariables false
set_option linter.unusedSimpArgs false
namespace Go.Proofs.Ytbhonjcnemndgaa
open Go.RowKit Go.Proofs.YtbhonjcnemndgaaW.PrintWords Go.Proofs.YtbhonjcnemndgaaW.PrintLast Go.Proofs.YtbhonjcnemndgaaW.PrintMore
/-- A literal's row reads as its numbers, with the mark of a constant string's bytes or without. -/
theorem lit_reads (kd : IntKind) (W : World) (e : TypeId) (xs : List Int) (fr : Nat × Nat) (hn : xs.length ≤ 9223372036854775807) {C : Array Value} (hC : (xs.map (Value.int kd)).toArray = C) :
    Kd.C (Kd.int kd) (W.alloc (.cells C e fr)) (some ⟨W.heap.size, 0, none⟩) xs.length xs := by
  subst hC
  refine Kd.C_of_reads (h1 := fun _ => rfl) (d := 0) ⟨rfl, hn, fun _ => ⟨_, rfl, fun j hj => ?_⟩⟩
  rw [add_plain, World.cell?_alloc_mark]
  simp [List.getD_eq_getElem?_getD, List.getElem?_eq_getElem hj]
theorem nil_reads (kd : IntKind) (W : World) : Kd.C (Kd.int kd) W none ([] : List Int).length [] :=
  Kd.C_of_reads (h1 := fun _ => rfl) (d := 0) ⟨rfl, by decide, fun h => absurd h (by decide)⟩
end Go.Proofs.Ytbhonjcnemndgaa
