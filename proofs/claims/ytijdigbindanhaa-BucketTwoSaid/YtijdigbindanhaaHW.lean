/- Words for the walks that were laid by hand: what a literal's row reads as, with or without the mark of a constant string's bytes. -/
import Derived.Test.YtijdigbindanhaaWMore
import Derived.Test.YtijdigbindanhaaWWords
import Derived.Lib.SlBytesConst
import Derived.Lib.BytesEntry
import Derived.Laws.Externs
set_option linter.unusedVariables false
set_option linter.unusedSimpArgs false
namespace Go.Proofs.Ytijdigbindanhaa
open Go.RowKit Go.Proofs.YtijdigbindanhaaW.PrintWords Go.Proofs.YtijdigbindanhaaW.PrintLast Go.Proofs.YtijdigbindanhaaW.PrintMore
/-- A literal's row reads as its numbers, with the mark of a constant string's bytes or without. -/
theorem lit_reads (kd : IntKind) (W : World) (e : TypeId) (xs : List Int) (fr : Nat × Nat) (hn : xs.length ≤ 9223372036854775807) {C : Array Value} (hC : (xs.map (Value.int kd)).toArray = C) :
    Kd.C (Kd.int kd) (W.alloc (.cells C e fr)) (some ⟨W.heap.size, 0, none⟩) xs.length xs := by
  subst hC
  refine Kd.C_of_reads (h1 := fun _ => rfl) (d := 0) ⟨rfl, hn, fun _ => ⟨_, rfl, fun j hj => ?_⟩⟩
  rw [add_plain, World.cell?_alloc_mark]
  simp [List.getD_eq_getElem?_getD, List.getElem?_eq_getElem hj]
theorem nil_reads (kd : IntKind) (W : World) : Kd.C (Kd.int kd) W none ([] : List Int).length [] :=
  Kd.C_of_reads (h1 := fun _ => rfl) (d := 0) ⟨rfl, by decide, fun h => absurd h (by decide)⟩
/-- Two rows' literal. -/
theorem rows_reads2 (kd : IntKind) (e0 : Nat) (W : World) (e : TypeId) (fr : Nat × Nat) {A1 A2 : Option Addr} {c1 c2 : Nat} {x1 x2 : List Int} (h1 : Kd.C (Kd.int kd) W A1 x1.length x1) (hc1 : x1.length ≤ c1) (h2 : Kd.C (Kd.int kd) W A2 x2.length x2) (hc2 : x2.length ≤ c2) {C : Array Value}
    (hC : #[.slice A1 x1.length c1, .slice A2 x2.length c2] = C) : Kd.C (Kd.slice e0 (Kd.int kd)) (W.alloc (.cells C e fr)) (some ⟨W.heap.size, 0, none⟩) 2 [x1, x2] := by
  subst hC
  refine ⟨rfl, by decide, fun _ => ⟨_, rfl, fun j p hj => ?_⟩⟩
  have hb : Below W.heap.size W (W.alloc (.cells #[.slice A1 x1.length c1, .slice A2 x2.length c2] e fr)) := below_alloc (Below.refl _ _) _
  match j, hj with
  | 0, hj =>
    obtain rfl : x1 = p := by simpa using hj
    refine ⟨[.slice A1 x1.length c1], rfl, ⟨A1, c1, rfl, hc1, Kd.C_below h1 hb⟩, fun i u hu => ?_⟩
    match i, hu with
    | 0, hu =>
      obtain rfl : Value.slice A1 x1.length c1 = u := by simpa using hu
      rw [add_plain, World.cell?_alloc_mark]; rfl
    | i + 1, hu => simp at hu
  | 1, hj =>
    obtain rfl : x2 = p := by simpa using hj
    refine ⟨[.slice A2 x2.length c2], rfl, ⟨A2, c2, rfl, hc2, Kd.C_below h2 hb⟩, fun i u hu => ?_⟩
    match i, hu with
    | 0, hu =>
      obtain rfl : Value.slice A2 x2.length c2 = u := by simpa using hu
      rw [add_plain, World.cell?_alloc_mark]; rfl
    | i + 1, hu => simp at hu
  | j + 2, hj => simp at hj
/-- A literal's row, as one that may share memory. -/
theorem lit_V (kd : IntKind) (W : World) (e e' base : Nat) (xs : List Int) (fr : Nat × Nat) (hn : xs.length ≤ 9223372036854775807) {C : Array Value} (hC : (xs.map (Value.int kd)).toArray = C) :
    Kd.V (Kd.int kd) e' (W.alloc (.cells C e fr)) base (fun _ => True) (.slice (some ⟨W.heap.size, 0, none⟩) xs.length xs.length) xs := by
  refine Kd.V_mk (Nat.le_refl _) (fun W' h' => ?_)
  have hk := h' W.heap.size trivial (show W.heap.size < (W.heap.push _).size by rw [Array.size_push]; omega)
  have hcell : ∀ j, W'.cell? ⟨W.heap.size, j, none⟩ = (W.alloc (.cells C e fr)).cell? ⟨W.heap.size, j, none⟩ := fun j => by
    simp only [World.cell?, hk]
  subst hC
  refine Kd.C_of_reads (h1 := fun _ => rfl) (d := 0) ⟨rfl, hn, fun _ => ⟨_, rfl, fun j hj => ?_⟩⟩
  rw [add_plain, hcell, World.cell?_alloc_mark]
  simp [List.getD_eq_getElem?_getD, List.getElem?_eq_getElem hj]
end Go.Proofs.Ytijdigbindanhaa
