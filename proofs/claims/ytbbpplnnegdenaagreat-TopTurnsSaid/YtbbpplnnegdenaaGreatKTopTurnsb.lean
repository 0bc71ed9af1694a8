/- Words, functions, walks and plain mathematics for TopTurns, part 2: laid together by a program of this session (pack.py). -/
import Derived.Test.YtbbpplnnegdenaaGreatKTopTurnsa
set_option linter.unusedVariables false
set_option linter.unusedSimpArgs false
set_option maxHeartbeats 8000000
set_option maxRecDepth 100000
section
namespace Go.Proofs.YtbbpplnnegdenaaGreat.MM
open Go.RowKit Go.Proofs.YtbbpplnnegdenaaGreatW.PrintWords
theorem wrap64_id {x : Int} (h0 : -9223372036854775808 ≤ x) (h1 : x < 9223372036854775808) : wrap64 x = x := by
 unfold wrap64; omega
theorem wrap_nat {i n : Nat} (h : i < n) (hn : n ≤ 140737488355328) : wrap64 ((i : Int) + 1) = ((i + 1 : Nat) : Int) := by
 rw [wrap64_id (by omega) (by omega)]; omega
theorem rd_nat (xs : List Int) (i : Nat) : rd xs (i : Int) = xs.getD i 0 := by simp [rd]
theorem rdB_nat (xs : List Bool) (i : Nat) : rdOf false xs (i : Int) = xs.getD i false := by simp [rdOf]
theorem wf_u8 {x : Int} (h : (Go.Lit.int .u8 x).wf = true) : 0 ≤ x ∧ x ≤ 255 := by
 simp only [Go.Lit.wf, Bool.and_eq_true, decide_eq_true_eq] at h
 exact h
theorem Ev.at_ {α : Type} {g : Nat → Option α} {r : α} (k : Nat) (h : ∀ j, g (j + k) = some r) : Ev g r :=
 ⟨k, fun j hj => by obtain ⟨m, rfl⟩ : ∃ m, j = m + k := ⟨j - k, by omega⟩; exact h m⟩
theorem Ev.same {α : Type} {g : Nat → Option α} {r r' : α} (h : Ev g r) (h' : Ev g r') : r = r' := by
 obtain ⟨K, h⟩ := h
 obtain ⟨K', h'⟩ := h'
 have h1 := h (max K K') (by omega)
 rw [h' (max K K') (by omega)] at h1
 exact (Option.some.inj h1).symm
theorem lset_self {α : Type} {l : List α} {i : Nat} {v d : α} (h : i < l.length) : (l.set i v).getD i d = v := by
 rw [List.getD_eq_getElem?_getD, List.getElem?_set_self h]; rfl
theorem lset_ne {α : Type} {l : List α} {i j : Nat} {v d : α} (h : i ≠ j) : (l.set i v).getD j d = l.getD j d := by
 rw [List.getD_eq_getElem?_getD, List.getElem?_set_ne h, ← List.getD_eq_getElem?_getD]
theorem lset {α : Type} {l : List α} {i j : Nat} {v d : α} (h : i < l.length) : (l.set i v).getD j d = if i = j then v else l.getD j d := by
 by_cases e : i = j
 ·subst e; rw [lset_self h, if_pos rfl]
 ·rw [lset_ne e, if_neg e]
theorem getD_replicate {α : Type} {n i : Nat} {v : α} : (List.replicate n v).getD i v = v := by
 rw [List.getD_eq_getElem?_getD, List.getElem?_replicate]; split <;> rfl
theorem take_next {l : List Int} {i : Nat} (h : i < l.length) : l.take (i + 1) = l.take i ++ [l.getD i 0] := by
 rw [List.take_succ_eq_append_getElem h, List.getD_eq_getElem?_getD, List.getElem?_eq_getElem h]; rfl
end Go.Proofs.YtbbpplnnegdenaaGreat.MM
namespace Go.Proofs.YtbbpplnnegdenaaGreat.MM
def cmpL : List Int → List Int → Int
 | [], [] => 0
 | [], _ :: _ => -1
 | _ :: _, [] => 1
 | a :: us, b :: bs => if a < b then -1 else if b < a then 1 else cmpL us bs
theorem cmpL_vals : ∀ a b : List Int, cmpL a b = -1 ∨ cmpL a b = 0 ∨ cmpL a b = 1
 | [], [] => by simp [cmpL]
 | [], _ :: _ => by simp [cmpL]
 | _ :: _, [] => by simp [cmpL]
 | a :: us, b :: bs => by
   have := cmpL_vals us bs
   simp only [cmpL]; split
   ·simp
   ·split <;> simp [*]
theorem cmpL_self : ∀ a : List Int, cmpL a a = 0
 | [] => by simp [cmpL]
 | a :: us => by simp [cmpL, cmpL_self us]
theorem cmpL_anti : ∀ a b : List Int, cmpL b a = - cmpL a b
 | [], [] => by simp [cmpL]
 | [], _ :: _ => by simp [cmpL]
 | _ :: _, [] => by simp [cmpL]
 | a :: us, b :: bs => by
   have := cmpL_anti us bs
   simp only [cmpL]
   by_cases h1 : a < b
   ·have : ¬ b < a := by omega
    simp [*]
   ·by_cases h2 : b < a <;> simp [*]
theorem cmpL_eq : ∀ {a b : List Int}, cmpL a b = 0 → a = b
 | [], [], _ => rfl
 | [], _ :: _, h => by simp [cmpL] at h
 | _ :: _, [], h => by simp [cmpL] at h
 | a :: us, b :: bs, h => by
   simp only [cmpL] at h
   by_cases h1 : a < b
   ·simp [h1] at h
   ·by_cases h2 : b < a
    ·simp [h1, h2] at h
    ·simp [h1, h2] at h
     have := cmpL_eq h
     have : a = b := by omega
     simp [*]
def ltL (a b : List Int) : Prop := cmpL a b = -1
instance (a b : List Int) : Decidable (ltL a b) := by unfold ltL; infer_instance
theorem ltL_irrefl (a : List Int) : ¬ ltL a a := by simp [ltL, cmpL_self]
theorem ltL_trans : ∀ {a b c : List Int}, ltL a b → ltL b c → ltL a c
 | [], [], _, h, _ => by simp [ltL, cmpL] at h
 | _ :: _, [], _, h, _ => by simp [ltL, cmpL] at h
 | [], _ :: _, [], _, h => by simp [ltL, cmpL] at h
 | [], _ :: _, _ :: _, _, _ => by simp [ltL, cmpL]
 | _ :: _, _ :: _, [], _, h => by simp [ltL, cmpL] at h
 | a :: us, b :: bs, c :: cs, h, k => by
   simp only [ltL, cmpL] at h k ⊢
   by_cases h1 : a < b
   ·by_cases k1 : b < c
    ·have : a < c := by omega
     simp [this]
    ·by_cases k2 : c < b
     ·simp [k1, k2] at k
     ·have : a < c := by omega
      simp [this]
   ·by_cases h2 : b < a
    ·simp [h1, h2] at h
    ·have e : a = b := by omega
     subst e
     simp at h
     by_cases k1 : a < c
     ·simp [k1]
     ·by_cases k2 : c < a
      ·simp [k1, k2] at k
      ·simp [k1, k2] at k ⊢
       exact ltL_trans h k
theorem ltL_asymm {a b : List Int} (h : ltL a b) : ¬ ltL b a := fun k => ltL_irrefl a (ltL_trans h k)
theorem ltL_tri (a b : List Int) : ltL a b ∨ a = b ∨ ltL b a := by
 rcases cmpL_vals a b with h | h | h
 ·exact .inl h
 ·exact .inr (.inl (cmpL_eq h))
 ·right; right; unfold ltL; rw [cmpL_anti a b, h]
theorem not_ltL {a b : List Int} : ¬ ltL a b ↔ a = b ∨ ltL b a := by
 constructor
 ·intro h
  rcases ltL_tri a b with k | k | k
  ·exact absurd k h
  ·exact .inl k
  ·exact .inr k
 ·rintro (rfl | h)
  ·exact ltL_irrefl _
  ·exact ltL_asymm h
theorem cmpL_append : ∀ p a b : List Int, cmpL (p ++ a) (p ++ b) = cmpL a b
 | [], _, _ => rfl
 | x :: p, a, b => by simp [cmpL, cmpL_append p a b]
theorem ltL_append {p a b : List Int} : ltL (p ++ a) (p ++ b) ↔ ltL a b := by simp [ltL, cmpL_append]
theorem ltL_nil {a : List Int} : ltL [] a ↔ a ≠ [] := by cases a <;> simp [ltL, cmpL]
theorem not_ltL_nil (a : List Int) : ¬ ltL a [] := by cases a <;> simp [ltL, cmpL]
theorem ltL_iff : ∀ {a b : List Int}, ltL a b ↔ ∃ x, x ≤ a.length ∧ x < b.length ∧ (∀ y, y < x → a[y]? = b[y]?) ∧ (x = a.length ∨ (x < a.length ∧ a.getD x 0 < b.getD x 0))
 | [], [] => by simp [ltL, cmpL]
 | [], b :: bs => by
   constructor
   ·intro _; exact ⟨0, by simp, by simp, fun y h => by omega, .inl rfl⟩
   ·intro _; simp [ltL, cmpL]
 | a :: us, [] => by simp [ltL, cmpL]
 | a :: us, b :: bs => by
   have ih := @ltL_iff us bs
   constructor
   ·intro h
    simp only [ltL, cmpL] at h
    by_cases h1 : a < b
    ·exact ⟨0, by simp, by simp, fun y h => by omega, .inr ⟨by simp, by simpa using h1⟩⟩
    ·by_cases h2 : b < a
     ·simp [h1, h2] at h
     ·simp [h1, h2] at h
      obtain ⟨x, hx1, hx2, hx3, hx4⟩ := ih.1 h
      have e : a = b := by omega
      subst e
      refine ⟨x + 1, by simp; omega, by simp; omega, ?_, ?_⟩
      ·intro y hy
       cases y with
       | zero => simp
       | succ y => simpa using hx3 y (by omega)
      ·rcases hx4 with hx4 | hx4
       ·left; simp [hx4]
       ·right; exact ⟨by simp; omega, by simpa using hx4.2⟩
   ·rintro ⟨x, hx1, hx2, hx3, hx4⟩
    cases x with
    | zero =>
      simp at hx4
      simp [ltL, cmpL, hx4]
    | succ x =>
      have e := hx3 0 (by omega)
      simp at e
      subst e
      have : ltL us bs := ih.2 ⟨x, by simpa using hx1, by simpa using hx2, fun y hy => by simpa using hx3 (y + 1) (by omega), by simpa using hx4⟩
      simp [ltL, cmpL] at this ⊢
      exact this
theorem ltL_mk {a b : List Int} (x : Nat) (h1 : x < a.length) (h2 : x < b.length) (h3 : ∀ y, y < x → a.getD y 0 = b.getD y 0) (h4 : a.getD x 0 < b.getD x 0) : ltL a b := by
 refine ltL_iff.2 ⟨x, by omega, h2, fun y hy => ?_, .inr ⟨h1, h4⟩⟩
 have := h3 y hy
 rw [List.getElem?_eq_getElem (by omega), List.getElem?_eq_getElem (by omega)]
 simp only [List.getD_eq_getElem?_getD, List.getElem?_eq_getElem (show y < a.length by omega), List.getElem?_eq_getElem (show y < b.length by omega)] at this
 simpa using this
theorem ltL_pre {a b : List Int} (h1 : a.length < b.length) (h3 : ∀ y, y < a.length → a.getD y 0 = b.getD y 0) : ltL a b := by
 refine ltL_iff.2 ⟨a.length, by omega, h1, fun y hy => ?_, .inl rfl⟩
 have := h3 y hy
 rw [List.getElem?_eq_getElem (by omega), List.getElem?_eq_getElem (by omega)]
 simp only [List.getD_eq_getElem?_getD, List.getElem?_eq_getElem (show y < a.length by omega), List.getElem?_eq_getElem (show y < b.length by omega)] at this
 simpa using this
end Go.Proofs.YtbbpplnnegdenaaGreat.MM
namespace Go.Proofs.YtbbpplnnegdenaaGreat.MM
theorem pigeon : ∀ (n : Nat) (a : List Int), a.Nodup → (∀ x ∈ a, 0 ≤ x ∧ x < (n : Int)) → a.length ≤ n
 | 0, a, _, h => by
   cases a with
   | nil => simp
   | cons x t => have := h x (by simp); omega
 | n + 1, a, hn, h => by
   have h1 := pigeon n (a.erase (n : Int)) (hn.erase _) (fun x hx => by
    have h2 := h x (List.mem_of_mem_erase hx)
    have h3 : x ≠ (n : Int) := fun e => by subst e; exact (List.Nodup.not_mem_erase hn) hx
    omega)
   by_cases hm : (n : Int) ∈ a
   ·rw [List.length_erase_of_mem hm] at h1; omega
   ·rw [List.erase_of_not_mem hm] at h1; omega
theorem pigeon_all {n : Nat} {a : List Int} (hn : a.Nodup) (h : ∀ x ∈ a, 0 ≤ x ∧ x < (n : Int)) (hl : a.length = n) {v : Int} (h0 : 0 ≤ v) (h1 : v < n) : v ∈ a := by
 by_cases hm : v ∈ a
 ·exact hm
 ·have := pigeon n (v :: a) (List.nodup_cons.2 ⟨hm, hn⟩) (fun x hx => by
   rcases List.mem_cons.1 hx with rfl | hx
   ·exact ⟨h0, h1⟩
   ·exact h x hx)
  simp at this; omega
def isPerm (a : List Int) : Prop := (∀ x ∈ a, 0 ≤ x ∧ x < (a.length : Int)) ∧ a.Nodup
instance (a : List Int) : Decidable (isPerm a) := by unfold isPerm; infer_instance
theorem isPerm.mem {a : List Int} (h : isPerm a) {v : Int} (h0 : 0 ≤ v) (h1 : v < a.length) : v ∈ a := pigeon_all h.2 h.1 rfl h0 h1
def inv (a : List Int) : List Int := (List.range a.length).map (fun (v : Nat) => ((a.idxOf (v : Int) : Nat) : Int))
theorem inv_length (a : List Int) : (inv a).length = a.length := by simp [inv]
theorem inv_get {a : List Int} {v : Nat} (h : v < a.length) : (inv a).getD v 0 = ((a.idxOf (v : Int) : Nat) : Int) := by
 unfold inv
 rw [List.getD_eq_getElem?_getD, List.getElem?_map, List.getElem?_range h]
 rfl
theorem getD_mem {a : List Int} {i : Nat} (h : i < a.length) : a.getD i 0 ∈ a := by
 simp [List.getD_eq_getElem?_getD, h]
theorem getD_inj {a : List Int} (hn : a.Nodup) {i j : Nat} (hi : i < a.length) (hj : j < a.length) (h : a.getD i 0 = a.getD j 0) : i = j := by
 simp only [List.getD_eq_getElem?_getD, List.getElem?_eq_getElem hi, List.getElem?_eq_getElem hj, Option.getD_some] at h
 rcases Nat.lt_trichotomy i j with hlt | heq | hgt
 ·exact absurd h (List.pairwise_iff_getElem.1 hn i j hi hj hlt)
 ·exact heq
 ·exact absurd h.symm (List.pairwise_iff_getElem.1 hn j i hj hi hgt)
theorem idxOf_getD {a : List Int} {x : Int} (h : x ∈ a) : a.getD (a.idxOf x) 0 = x := by
 have h1 := List.idxOf_lt_length_of_mem h
 simp [List.getD_eq_getElem?_getD, List.getElem?_eq_getElem h1]
theorem inv_at {a : List Int} (h : isPerm a) {i : Nat} (hi : i < a.length) : (inv a).getD (a.getD i 0).toNat 0 = i := by
 have hm := h.1 _ (getD_mem hi)
 have e : (((a.getD i 0).toNat : Nat) : Int) = a.getD i 0 := by omega
 rw [inv_get (by omega), e]
 have := getD_inj h.2 (List.idxOf_lt_length_of_mem (getD_mem hi)) hi (idxOf_getD (getD_mem hi))
 rw [this]
theorem at_inv {a : List Int} (h : isPerm a) {v : Nat} (hv : v < a.length) : a.getD ((inv a).getD v 0).toNat 0 = v ∧ 0 ≤ (inv a).getD v 0 ∧ (inv a).getD v 0 < a.length := by
 have hm : (v : Int) ∈ a := h.mem (by omega) (by omega)
 have := List.idxOf_lt_length_of_mem hm
 rw [inv_get hv]
 refine ⟨?_, by omega, by omega⟩
 simpa using idxOf_getD hm
theorem ext_getD {a b : List Int} (hl : a.length = b.length) (h : ∀ i, i < a.length → a.getD i 0 = b.getD i 0) : a = b := by
 apply List.ext_getElem hl
 intro i h1 h2
 have := h i h1
 simpa only [List.getD_eq_getElem?_getD, List.getElem?_eq_getElem h1, List.getElem?_eq_getElem h2, Option.getD_some] using this
theorem isPerm_of {a : List Int} (h : ∀ x ∈ a, 0 ≤ x ∧ x < (a.length : Int)) (f : Int → Nat) (hf : ∀ i, i < a.length → f (a.getD i 0) = i) : isPerm a := by
 refine ⟨h, List.pairwise_iff_getElem.2 fun i j hi hj hij he => ?_⟩
 have e : a.getD i 0 = a.getD j 0 := by simp only [List.getD_eq_getElem?_getD, List.getElem?_eq_getElem hi, List.getElem?_eq_getElem hj, he]
 have := hf i hi
 rw [e, hf j hj] at this
 omega
theorem inv_perm {a : List Int} (h : isPerm a) : isPerm (inv a) := by
 refine isPerm_of (fun x hx => ?_) (fun x => (a.getD x.toNat 0).toNat) (fun i hi => ?_)
 ·rw [inv_length]
  simp only [inv, List.mem_map, List.mem_range] at hx
  obtain ⟨v, hv, rfl⟩ := hx
  have := List.idxOf_lt_length_of_mem (h.mem (v := (v : Int)) (by omega) (by omega))
  omega
 ·rw [inv_length] at hi
  rw [(at_inv h hi).1]; simp
theorem sorted_uniq {α : Type} {R : α → α → Prop} (has : ∀ x y, R x y → ¬ R y x) : ∀ {a b : List α}, a.Pairwise R → b.Pairwise R → (∀ x, x ∈ a ↔ x ∈ b) → a = b
 | [], [], _, _, _ => rfl
 | [], y :: b, _, _, h => by have := (h y).2 (by simp); simp at this
 | x :: a, [], _, _, h => by have := (h x).1 (by simp); simp at this
 | x :: a, y :: b, ha, hb, h => by
   rw [List.pairwise_cons] at ha hb
   have hxy : x = y := by
    rcases List.mem_cons.1 ((h x).1 (by simp)) with e | e
    ·exact e
    ·rcases List.mem_cons.1 ((h y).2 (by simp)) with e2 | e2
     ·exact e2.symm
     ·exact absurd (hb.1 x e) (has _ _ (ha.1 y e2))
   subst hxy
   have hir : ¬ R x x := fun hr => has _ _ hr hr
   congr 1
   refine sorted_uniq has ha.2 hb.2 (fun z => ?_)
   constructor
   ·intro hz
    rcases List.mem_cons.1 ((h z).1 (List.mem_cons_of_mem _ hz)) with e | e
    ·subst e; exact absurd (ha.1 z hz) hir
    ·exact e
   ·intro hz
    rcases List.mem_cons.1 ((h z).2 (List.mem_cons_of_mem _ hz)) with e | e
    ·subst e; exact absurd (hb.1 z hz) hir
    ·exact e
end Go.Proofs.YtbbpplnnegdenaaGreat.MM
namespace Go.Proofs.YtbbpplnnegdenaaGreat.MM
def sufLt (s : List Int) (x y : Int) : Prop := ltL (s.drop x.toNat) (s.drop y.toNat)
def IsSA (s a : List Int) : Prop := a.length = s.length ∧ (∀ x ∈ a, 0 ≤ x ∧ x < (s.length : Int)) ∧ a.Pairwise (sufLt s)
theorem getD_dropI (l : List Int) (i y : Nat) : (l.drop i).getD y 0 = l.getD (i + y) 0 := by
 simp [List.getD_eq_getElem?_getD, List.getElem?_drop]
theorem sufLt_asymm {s : List Int} {x y : Int} (h : sufLt s x y) : ¬ sufLt s y x := ltL_asymm h
theorem IsSA.nodup {s a : List Int} (h : IsSA s a) : a.Nodup := by
 refine List.Pairwise.imp (fun {x y} hxy => ?_) h.2.2
 rintro rfl
 exact ltL_irrefl _ hxy
theorem IsSA.perm {s a : List Int} (h : IsSA s a) : isPerm a := ⟨fun x hx => by rw [h.1]; exact h.2.1 x hx, h.nodup⟩
theorem IsSA.mem {s a : List Int} (h : IsSA s a) (v : Int) : v ∈ a ↔ 0 ≤ v ∧ v < s.length :=
 ⟨fun hv => h.2.1 v hv, fun hv => h.perm.mem hv.1 (by rw [h.1]; exact hv.2)⟩
theorem IsSA.uniq {s a b : List Int} (h : IsSA s a) (k : IsSA s b) : a = b :=
 sorted_uniq (R := sufLt s) (fun _ _ => sufLt_asymm) h.2.2 k.2.2 (fun v => by rw [h.mem, k.mem])
theorem drop_cons_get {s : List Int} {x : Nat} (h : x < s.length) : s.drop x = s.getD x 0 :: s.drop (x + 1) := by
 rw [List.drop_eq_getElem_cons h, List.getD_eq_getElem?_getD, List.getElem?_eq_getElem h]; rfl
theorem sufLt_step {s : List Int} {x y : Nat} (hx : x < s.length) (hy : y < s.length) : sufLt s x y ↔ s.getD x 0 < s.getD y 0 ∨ (s.getD x 0 = s.getD y 0 ∧ sufLt s ((x : Int) + 1) ((y : Int) + 1)) := by
 unfold sufLt
 have e1 : ((x : Int) + 1).toNat = x + 1 := by omega
 have e2 : ((y : Int) + 1).toNat = y + 1 := by omega
 rw [e1, e2]
 simp only [Int.toNat_natCast]
 rw [drop_cons_get hx, drop_cons_get hy]
 unfold ltL
 simp only [cmpL]
 generalize s.getD x 0 = u
 generalize s.getD y 0 = v
 by_cases h1 : u < v
 ·simp [h1]
 ·by_cases h2 : v < u
  ·simp [h1, h2]; omega
  ·have h3 : u = v := by omega
   simp [h3]
theorem sufLt_nil {s : List Int} {x : Int} (h0 : 0 ≤ x) (h : x < s.length) : sufLt s s.length x := by
 unfold sufLt
 have : s.drop (s.length : Int).toNat = [] := by simp
 rw [this]
 refine ltL_nil.2 (fun e => ?_)
 have := congrArg List.length e
 simp at this
 omega
end Go.Proofs.YtbbpplnnegdenaaGreat.MM
namespace Go.Proofs.YtbbpplnnegdenaaGreat.MM
def stab (kf : Int → Int) (o : List Int) : Nat → List Int
 | 0 => []
 | k + 1 => stab kf o k ++ o.filter (fun i => kf i == (k : Int))
theorem filt_next (kf : Int → Int) (k : Nat) : ∀ o : List Int, (o.filter (fun i => decide (0 ≤ kf i ∧ kf i < (k : Int)))).length + (o.filter (fun i => kf i == (k : Int))).length = (o.filter (fun i => decide (0 ≤ kf i ∧ kf i < ((k + 1 : Nat) : Int)))).length
 | [] => by simp
 | x :: t => by
   have ih := filt_next kf k t
   simp only [List.filter_cons]
   by_cases h1 : 0 ≤ kf x ∧ kf x < (k : Int)
   ·rw [if_pos (by simpa using h1), if_neg (by simp; omega), if_pos (by simp; omega)]
    simp only [List.length_cons]; omega
   ·by_cases h2 : kf x = (k : Int)
    ·rw [if_neg (by simp; omega), if_pos (by simpa using h2), if_pos (by simp; omega)]
     simp only [List.length_cons]; omega
    ·rw [if_neg (by simp; omega), if_neg (by simpa using h2), if_neg (by simp; omega)]
     exact ih
theorem stab_len (kf : Int → Int) (o : List Int) : ∀ k, (stab kf o k).length = (o.filter (fun i => decide (0 ≤ kf i ∧ kf i < (k : Int)))).length
 | 0 => by
   simp only [stab, List.length_nil]
   symm
   rw [List.length_eq_zero_iff, List.filter_eq_nil_iff]
   intro a _
   simp
 | k + 1 => by
   rw [stab, List.length_append, stab_len kf o k, filt_next]
theorem stab_all {kf : Int → Int} {o : List Int} {k : Nat} (h : ∀ x ∈ o, 0 ≤ kf x ∧ kf x < (k : Int)) : (stab kf o k).length = o.length := by
 rw [stab_len, List.filter_eq_self.2]
 intro x hx
 simpa using h x hx
theorem stab_mem {kf : Int → Int} {o : List Int} {x : Int} : ∀ {k : Nat}, x ∈ stab kf o k ↔ x ∈ o ∧ 0 ≤ kf x ∧ kf x < (k : Int)
 | 0 => by simp [stab]
 | k + 1 => by
   simp only [stab, List.mem_append, List.mem_filter, stab_mem (k := k), beq_iff_eq]
   constructor
   ·rintro (⟨h1, h2, h3⟩ | ⟨h1, h2⟩)
    ·exact ⟨h1, by omega, by omega⟩
    ·exact ⟨h1, by omega, by omega⟩
   ·rintro ⟨h1, h2, h3⟩
    by_cases h4 : kf x = (k : Int)
    ·exact .inr ⟨h1, h4⟩
    ·exact .inl ⟨h1, h2, by omega⟩
theorem stab_pairwise {kf : Int → Int} {o : List Int} {R : Int → Int → Prop} (h : o.Pairwise R) : ∀ k, (stab kf o k).Pairwise (fun x y => kf x < kf y ∨ (kf x = kf y ∧ R x y))
 | 0 => by simp [stab]
 | k + 1 => by
   simp only [stab]
   rw [List.pairwise_append]
   refine ⟨stab_pairwise h k, ?_, ?_⟩
   ·have := List.Pairwise.filter (fun i => kf i == (k : Int)) h
    refine List.Pairwise.imp_of_mem (fun {a b} ha hb hab => ?_) this
    simp only [List.mem_filter, beq_iff_eq] at ha hb
    exact .inr ⟨by omega, hab⟩
   ·intro a ha b hb
    have := stab_mem.1 ha
    simp only [List.mem_filter, beq_iff_eq] at hb
    left; omega
theorem stab_get {kf : Int → Int} {o : List Int} {c r : Nat} : ∀ {k : Nat}, c < k → r < (o.filter (fun i => kf i == (c : Int))).length →
  (stab kf o k).getD ((stab kf o c).length + r) 0 = (o.filter (fun i => kf i == (c : Int))).getD r 0
 | 0, h, _ => by omega
 | k + 1, h, hr => by
   have hlen : (stab kf o c).length + (o.filter (fun i => kf i == (c : Int))).length ≤ (stab kf o k).length ∨ c = k := by
    by_cases hck : c = k
    ·exact .inr hck
    ·left
     have : ∀ m : Nat, c < m → (stab kf o c).length + (o.filter (fun i => kf i == (c : Int))).length ≤ (stab kf o m).length := by
      intro m
      induction m with
      | zero => intro h; omega
      | succ m ih =>
        intro hm
        simp only [stab, List.length_append]
        by_cases e : c = m
        ·subst e; omega
        ·have := ih (by omega); omega
     exact this k (by omega)
   by_cases hck : c = k
   ·subst hck
    simp only [stab, List.getD_eq_getElem?_getD]
    rw [List.getElem?_append_right (by omega)]
    congr 2; omega
   ·have ih := stab_get (k := k) (c := c) (r := r) (kf := kf) (o := o) (by omega) hr
    rw [← ih]
    simp only [stab, List.getD_eq_getElem?_getD]
    rw [List.getElem?_append_left (by omega)]
theorem stab_place {kf : Int → Int} {o : List Int} {p : Nat} : ∀ {k : Nat}, p < (stab kf o k).length → ∃ c r, c < k ∧ r < (o.filter (fun i => kf i == (c : Int))).length ∧ p = (stab kf o c).length + r
 | 0, h => by simp [stab] at h
 | k + 1, h => by
   by_cases hp : p < (stab kf o k).length
   ·obtain ⟨c, r, h1, h2, h3⟩ := stab_place hp
    exact ⟨c, r, by omega, h2, h3⟩
   ·simp only [stab, List.length_append] at h
    exact ⟨k, p - (stab kf o k).length, by omega, by omega, by omega⟩
theorem stab_ext {kf : Int → Int} {o l : List Int} {k : Nat} (hl : l.length = (stab kf o k).length)
  (h : ∀ c r, c < k → r < (o.filter (fun i => kf i == (c : Int))).length → l.getD ((stab kf o c).length + r) 0 = (o.filter (fun i => kf i == (c : Int))).getD r 0) : l = stab kf o k := by
 refine ext_getD hl (fun i hi => ?_)
 rw [hl] at hi
 obtain ⟨c, r, h1, h2, h3⟩ := stab_place hi
 rw [h3, h c r h1 h2, stab_get h1 h2]
end Go.Proofs.YtbbpplnnegdenaaGreat.MM
namespace Go.Proofs.YtbbpplnnegdenaaGreat.MM
def kcnt (kf : Int → Int) (o : List Int) (c : Nat) : Nat := (o.filter (fun i => kf i == (c : Int))).length
theorem stab_succ_len (kf : Int → Int) (o : List Int) (c : Nat) : (stab kf o (c + 1)).length = (stab kf o c).length + kcnt kf o c := by
 rw [stab, List.length_append]; rfl
theorem stab_mono {kf : Int → Int} {o : List Int} {c : Nat} : ∀ {k : Nat}, c < k → (stab kf o c).length + kcnt kf o c ≤ (stab kf o k).length
 | 0, h => by omega
 | k + 1, h => by
   rw [stab_succ_len]
   by_cases e : c = k
   ·subst e; omega
   ·have := stab_mono (kf := kf) (o := o) (c := c) (k := k) (by omega); omega
theorem kcnt_next {kf : Int → Int} {o : List Int} {i : Nat} (hi : i < o.length) (c : Nat) : kcnt kf (o.take (i + 1)) c = kcnt kf (o.take i) c + if kf (o.getD i 0) = (c : Int) then 1 else 0 := by
 unfold kcnt
 rw [take_next hi, List.filter_append, List.length_append]
 congr 1
 by_cases h : kf (o.getD i 0) = (c : Int)
 ·simp only [List.filter_cons, h, beq_self_eq_true, if_true, List.filter_nil, List.length_singleton]
 ·simp only [List.filter_cons, h, beq_iff_eq, if_false, List.filter_nil, List.length_nil]
theorem kcnt_le {kf : Int → Int} {o : List Int} {c : Nat} : kcnt kf o c ≤ o.length := List.length_filter_le _ _
theorem kcnt_take {kf : Int → Int} {o : List Int} {c : Nat} : ∀ (i : Nat), kcnt kf (o.take i) c ≤ kcnt kf o c := fun i => by
 unfold kcnt
 exact (List.Sublist.filter _ (List.take_sublist i o)).length_le
theorem kcnt_lt {kf : Int → Int} {o : List Int} {i c : Nat} (hi : i < o.length) (h : kf (o.getD i 0) = (c : Int)) : kcnt kf (o.take i) c < kcnt kf o c := by
 have h1 := kcnt_next (kf := kf) hi c
 rw [if_pos h] at h1
 have := kcnt_take (kf := kf) (o := o) (c := c) (i + 1)
 omega
def startsOf (l : List Int) : List Int := (List.range l.length).map (fun (i : Nat) => (l.take i).sum)
theorem startsOf_length (l : List Int) : (startsOf l).length = l.length := by simp [startsOf]
theorem startsOf_get {l : List Int} {i : Nat} (h : i < l.length) : (startsOf l).getD i 0 = (l.take i).sum := by
 unfold startsOf
 rw [List.getD_eq_getElem?_getD, List.getElem?_map, List.getElem?_range h]; rfl
theorem sum_next {l : List Int} {i : Nat} (h : i < l.length) : (l.take (i + 1)).sum = (l.take i).sum + l.getD i 0 := by
 rw [take_next h, List.sum_append]; simp
def cntsOf (kf : Int → Int) (o : List Int) (k : Nat) : List Int := (List.range k).map (fun (c : Nat) => (kcnt kf o c : Int))
theorem cntsOf_length (kf : Int → Int) (o : List Int) (k : Nat) : (cntsOf kf o k).length = k := by simp [cntsOf]
theorem cntsOf_get {kf : Int → Int} {o : List Int} {k c : Nat} (h : c < k) : (cntsOf kf o k).getD c 0 = (kcnt kf o c : Int) := by
 unfold cntsOf
 rw [List.getD_eq_getElem?_getD, List.getElem?_map, List.getElem?_range h]; rfl
theorem cnts_sum {kf : Int → Int} {o : List Int} {k : Nat} : ∀ {c : Nat}, c ≤ k → ((cntsOf kf o k).take c).sum = ((stab kf o c).length : Int)
 | 0, _ => by simp [stab]
 | c + 1, h => by
   rw [sum_next (by rw [cntsOf_length]; omega), cnts_sum (k := k) (by omega), cntsOf_get (by omega), stab_succ_len]; omega
theorem filter_take_get {kf : Int → Int} {o : List Int} {i c r : Nat} (hr : r < kcnt kf (o.take i) c) : ((o.take i).filter (fun i => kf i == (c : Int))).getD r 0 = (o.filter (fun i => kf i == (c : Int))).getD r 0 := by
 unfold kcnt at hr
 conv => rhs; rw [← List.take_append_drop i o, List.filter_append]
 rw [List.getD_eq_getElem?_getD, List.getD_eq_getElem?_getD, List.getElem?_append_left hr]
theorem filter_at {kf : Int → Int} {o : List Int} {i c : Nat} (hi : i < o.length) (h : kf (o.getD i 0) = (c : Int)) : (o.filter (fun i => kf i == (c : Int))).getD (kcnt kf (o.take i) c) 0 = o.getD i 0 := by
 have h1 : kcnt kf (o.take i) c < kcnt kf (o.take (i + 1)) c := by rw [kcnt_next hi, if_pos h]; omega
 rw [← filter_take_get h1, take_next hi, List.filter_append, List.getD_eq_getElem?_getD, List.getElem?_append_right (by unfold kcnt; omega)]
 unfold kcnt
 rw [Nat.sub_self]
 simp only [List.filter_cons, h, beq_self_eq_true, if_true]; rfl
def iota (n : Nat) : List Int := (List.range n).map (fun (i : Nat) => (i : Int))
theorem iota_succ (n : Nat) : iota (n + 1) = iota n ++ [(n : Int)] := by unfold iota; rw [List.range_succ, List.map_append]; rfl
theorem iota_length (n : Nat) : (iota n).length = n := by simp [iota]
theorem iota_mem {n : Nat} {x : Int} : x ∈ iota n ↔ 0 ≤ x ∧ x < n := by
 unfold iota
 rw [List.mem_map]
 constructor
 ·rintro ⟨i, hi, rfl⟩
  rw [List.mem_range] at hi
  omega
 ·intro h
  exact ⟨x.toNat, by rw [List.mem_range]; omega, by omega⟩
theorem iota_rises : ∀ n, (iota n).Pairwise (· < ·)
 | 0 => by simp [iota]
 | n + 1 => by
   rw [iota_succ, List.pairwise_append]
   refine ⟨iota_rises n, by simp, fun x hx y hy => ?_⟩
   rw [iota_mem] at hx
   simp only [List.mem_singleton] at hy
   omega
end Go.Proofs.YtbbpplnnegdenaaGreat.MM
namespace Go.Proofs.YtbbpplnnegdenaaGreat.MM
def isLyn (s : List Int) : Prop := s ≠ [] ∧ ∀ i, 0 < i → i < s.length → ltL s (s.drop i)
theorem getD_drop (l : List Int) (i y : Nat) : (l.drop i).getD y 0 = l.getD (i + y) 0 := by
 simp [List.getD_eq_getElem?_getD, List.getElem?_drop]
theorem getD_take (l : List Int) (m y : Nat) (h : y < m) : (l.take m).getD y 0 = l.getD y 0 := by
 simp [List.getD_eq_getElem?_getD, List.getElem?_take, h]
theorem lyn_grow {t : List Int} {p j : Nat} (hp : 0 < p) (hpj : p ≤ j) (hj : j < t.length) (hper : ∀ x, x < j → t.getD x 0 = t.getD (x % p) 0)
  (hl : isLyn (t.take p)) (hlt : t.getD (j - p) 0 < t.getD j 0) : isLyn (t.take (j + 1)) := by
 refine ⟨by intro h; have := congrArg List.length h; rw [List.length_take] at this; simp only [List.length_nil] at this; omega, fun i hi0 hi => ?_⟩
 rw [List.length_take] at hi
 have hi : i ≤ j := by omega
 have hlen : (t.take (j + 1)).length = j + 1 := by rw [List.length_take]; omega
 have hlend : ((t.take (j + 1)).drop i).length = j + 1 - i := by rw [List.length_drop, hlen]
 have hu : ∀ y, y ≤ j → (t.take (j + 1)).getD y 0 = t.getD y 0 := fun y hy => getD_take _ _ _ (by omega)
 have hv : ∀ y, i + y ≤ j → ((t.take (j + 1)).drop i).getD y 0 = t.getD (i + y) 0 := fun y hy => by rw [getD_drop, hu _ hy]
 have hjp : t.getD (j - p) 0 = t.getD (j % p) 0 := by
  rw [hper (j - p) (by omega)]
  congr 1
  rw [← Nat.mod_eq_sub_mod (by omega)]
 have hr := Nat.mod_lt i hp
 by_cases h0 : i % p = 0
 ·
  have hmod : ∀ y, (i + y) % p = y % p := fun y => by rw [Nat.add_mod, h0]; simp
  refine ltL_mk (j - i) (by omega) (by omega) (fun y hy => ?_) ?_
  ·rw [hu _ (by omega), hv _ (by omega), hper y (by omega), hper (i + y) (by omega), hmod]
  ·rw [hu _ (by omega), hv _ (by omega), show i + (j - i) = j by omega, hper (j - i) (by omega), ← hmod (j - i), show i + (j - i) = j by omega, ← hjp]
   exact hlt
 ·
  have hw := hl.2 (i % p) (by omega) (by rw [List.length_take]; omega)
  obtain ⟨x, hx1, hx2, hx3, hx4⟩ := ltL_iff.1 hw
  rw [List.length_drop, List.length_take] at hx2
  rw [List.length_take] at hx1 hx4
  have hx4 : t.getD x 0 < t.getD (i % p + x) 0 := by
   rcases hx4 with hx4 | hx4
   ·omega
   ·have := hx4.2
    rw [getD_drop, getD_take _ _ _ (by omega), getD_take _ _ _ (by omega)] at this
    exact this
  have hx3 : ∀ y, y < x → t.getD y 0 = t.getD (i % p + y) 0 := fun y hy => by
   have := hx3 y hy
   rw [List.getElem?_drop, List.getElem?_take, List.getElem?_take, if_pos (by omega), if_pos (by omega)] at this
   simp only [List.getD_eq_getElem?_getD, this]
  have hmod : ∀ y, y ≤ x → (i + y) % p = i % p + y := fun y hy => by
   rw [Nat.add_mod, Nat.mod_eq_of_lt (show y < p by omega), Nat.mod_eq_of_lt (by omega)]
  by_cases hij : i + x < j
  ·refine ltL_mk x (by omega) (by omega) (fun y hy => ?_) ?_
   ·rw [hu _ (by omega), hv _ (by omega), hper (i + y) (by omega), hmod y (by omega)]
    exact hx3 y hy
   ·rw [hu _ (by omega), hv _ (by omega), hper (i + x) (by omega), hmod x (by omega)]
    exact hx4
  ·refine ltL_mk (j - i) (by omega) (by omega) (fun y hy => ?_) ?_
   ·rw [hu _ (by omega), hv _ (by omega), hper (i + y) (by omega), hmod y (by omega)]
    exact hx3 y (by omega)
   ·rw [hu _ (by omega), hv _ (by omega), show i + (j - i) = j by omega]
    have e : j % p = i % p + (j - i) := by rw [← hmod (j - i) (by omega)]; congr 1; omega
    rw [hjp, e] at hlt
    by_cases hxe : j - i = x
    ·rw [hxe] at hlt ⊢; omega
    ·rw [hx3 (j - i) (by omega)]; exact hlt
theorem lyn_most {t : List Int} {p j : Nat} (hp : 0 < p) (hpj : p ≤ j) (_hj : j ≤ t.length) (hper : ∀ x, x < j → t.getD x 0 = t.getD (x % p) 0)
  (hend : j = t.length ∨ t.getD j 0 < t.getD (j - p) 0) {m : Nat} (hm : p < m) (hmt : m ≤ t.length) : ¬ isLyn (t.take m) := by
 intro hl
 have hlen : (t.take m).length = m := by rw [List.length_take]; omega
 have hlend : ((t.take m).drop p).length = m - p := by rw [List.length_drop, hlen]
 have hu : ∀ y, y < m → (t.take m).getD y 0 = t.getD y 0 := fun y hy => getD_take _ _ _ (by omega)
 have hv : ∀ y, p + y < m → ((t.take m).drop p).getD y 0 = t.getD (p + y) 0 := fun y hy => by rw [getD_drop, hu _ hy]
 refine ltL_asymm (hl.2 p hp (by omega)) ?_
 by_cases hmj : m ≤ j
 ·refine ltL_pre (by omega) (fun y hy => ?_)
  rw [hu _ (by omega), hv _ (by omega), hper (p + y) (by omega), hper y (by omega)]
  simp
 ·have hend : t.getD j 0 < t.getD (j - p) 0 := by omega
  refine ltL_mk (j - p) (by omega) (by omega) (fun y hy => ?_) ?_
  ·rw [hu _ (by omega), hv _ (by omega), hper (p + y) (by omega), hper y (by omega)]
   simp
  ·rw [hu _ (by omega), hv _ (by omega), show p + (j - p) = j by omega]
   exact hend
inductive Facts : List Int → List Int → Prop
 | nil : Facts [] []
 | cons {t l : List Int} {m : Nat} : m ≤ t.length → isLyn (t.take m) → (∀ m', m < m' → m' ≤ t.length → ¬ isLyn (t.take m')) → Facts (t.drop m) l → Facts t ((m : Int) :: l)
theorem isLyn_take_pos {t : List Int} {m : Nat} (h : isLyn (t.take m)) : 0 < m := by
 rcases Nat.eq_zero_or_pos m with h0 | h0
 ·subst h0; exact absurd rfl h.1
 ·exact h0
theorem Facts.det {t l l' : List Int} (h : Facts t l) (h' : Facts t l') : l = l' := by
 induction h generalizing l' with
 | nil =>
   cases h' with
   | nil => rfl
   | cons a b c d => exact absurd (by simp) b.1
 | @cons t l m a b c d ih =>
   cases h' with
   | nil => exact absurd (by simp) b.1
   | @cons _ l2 m2 a2 b2 c2 d2 =>
     have : m = m2 := by
      rcases Nat.lt_trichotomy m m2 with h | h | h
      ·exact absurd b2 (c _ h a2)
      ·exact h
      ·exact absurd b (c2 _ h a)
     subst this
     rw [ih d2]
theorem Facts.one {t l : List Int} (h : Facts t l) : l.length = 1 ↔ isLyn t := by
 cases h with
 | nil => simp [isLyn]
 | @cons _ l m a b c d =>
   constructor
   ·intro h
    have h : l = [] := by simpa using h
    subst h
    generalize hx : t.drop m = x at d
    cases d
    have : t.length ≤ m := by simpa using hx
    rwa [List.take_of_length_le this] at b
   ·intro h
    have hm : m = t.length := by
     rcases Nat.lt_or_ge m t.length with hlt | hge
     ·exact absurd (by rwa [List.take_of_length_le (Nat.le_refl _)]) (c _ hlt (Nat.le_refl _))
     ·omega
    subst hm
    rw [List.drop_of_length_le (Nat.le_refl _)] at d
    cases d
    ·rfl
    ·rename_i b2 _ _; exact absurd (by simp) b2.1
theorem Facts.sum {t l : List Int} (h : Facts t l) : l.sum = t.length := by
 induction h with
 | nil => rfl
 | @cons t l m a b c d ih => simp only [List.sum_cons, ih, List.length_drop]; omega
theorem Facts.len {t l : List Int} (h : Facts t l) : l.length ≤ t.length := by
 induction h with
 | nil => simp
 | @cons t l m a b c d ih =>
   have := isLyn_take_pos b
   rw [List.length_drop] at ih
   rw [List.length_cons]; omega
theorem lyn_one (c : Int) : isLyn [c] := ⟨by simp, fun i h0 h1 => by simp at h1; omega⟩
theorem lyn_join {u v : List Int} (hu : isLyn u) (hv : isLyn v) (h : ltL u v) : isLyn (u ++ v) := by
 have h1 : ltL (u ++ v) v := by
  obtain ⟨x, hx1, hx2, hx3, hx4⟩ := ltL_iff.1 h
  rcases hx4 with hx4 | hx4
  ·
   subst hx4
   have e : v = u ++ v.drop u.length := by
    conv => lhs; rw [← List.take_append_drop u.length v]
    congr 1
    apply List.ext_getElem?
    intro y
    rw [List.getElem?_take]
    split
    ·rename_i hy; exact (hx3 y hy).symm
    ·rename_i hy; rw [List.getElem?_eq_none (by omega)]
   have hd : ltL v (v.drop u.length) := hv.2 _ (by have := List.length_pos_iff.2 hu.1; omega) hx2
   conv => rhs; rw [e]
   exact ltL_append.2 hd
  ·refine ltL_iff.2 ⟨x, by simp; omega, hx2, fun y hy => ?_, .inr ⟨by simp; omega, ?_⟩⟩
   ·rw [List.getElem?_append_left (by omega)]; exact hx3 y hy
   ·rw [List.getD_eq_getElem?_getD, List.getElem?_append_left (by omega), ← List.getD_eq_getElem?_getD]; exact hx4.2
 refine ⟨by simp [hu.1], fun i hi0 hi => ?_⟩
 rw [List.length_append] at hi
 rcases Nat.lt_trichotomy i u.length with hlt | heq | hgt
 ·rw [List.drop_append_of_le_length (by omega)]
  have hx := hu.2 i hi0 hlt
  obtain ⟨x, hx1, hx2, hx3, hx4⟩ := ltL_iff.1 hx
  rw [List.length_drop] at hx2
  have hx4 : x < u.length ∧ u.getD x 0 < (u.drop i).getD x 0 := by
   rcases hx4 with hx4 | hx4
   ·omega
   ·exact hx4
  refine ltL_iff.2 ⟨x, by simp; omega, by simp; omega, fun y hy => ?_, .inr ⟨by simp; omega, ?_⟩⟩
  ·rw [List.getElem?_append_left (by omega), List.getElem?_append_left (by rw [List.length_drop]; omega)]
   exact hx3 y hy
  ·rw [List.getD_eq_getElem?_getD, List.getD_eq_getElem?_getD, List.getElem?_append_left (by omega), List.getElem?_append_left (by rw [List.length_drop]; omega), ← List.getD_eq_getElem?_getD, ← List.getD_eq_getElem?_getD]
   exact hx4.2
 ·rw [heq, List.drop_left]; exact h1
 ·have e : (u ++ v).drop i = v.drop (i - u.length) := by
   rw [List.drop_append, List.drop_of_length_le (by omega)]; rfl
  rw [e]
  exact ltL_trans h1 (hv.2 _ (by omega) (by omega))
theorem Facts.falls {t l : List Int} {m m2 : Nat} (h : Facts t ((m : Int) :: (m2 : Int) :: l)) : ¬ ltL (t.take m) ((t.drop m).take m2) := by
 intro hlt
 generalize he : ((m : Int) :: (m2 : Int) :: l) = l0 at h
 cases h with
 | nil => simp at he
 | @cons _ l1 n a b c d =>
   simp at he
   obtain ⟨he1, he2⟩ := he
   have : m = n := by omega
   subst this
   subst he2
   generalize he : ((m2 : Int) :: l) = l0 at d
   generalize ht : t.drop m = t1 at d
   cases d with
   | nil => simp at he
   | @cons _ l1 n a2 b2 c2 d2 =>
     simp at he
     obtain ⟨he1, he2⟩ := he
     have : m2 = n := by omega
     subst this
     subst ht
     have hj := lyn_join b b2 hlt
     have hm2 := isLyn_take_pos b2
     rw [List.length_drop] at a2
     refine c (m + m2) (by omega) (by omega) ?_
     rwa [List.take_add]
theorem Facts.pos {t l : List Int} (h : Facts t l) : ∀ x ∈ l, 0 < x := by
 induction h with
 | nil => simp
 | @cons t l m a b c d ih =>
   intro x hx
   rcases List.mem_cons.1 hx with rfl | hx
   ·have := isLyn_take_pos b; omega
   ·exact ih x hx
end Go.Proofs.YtbbpplnnegdenaaGreat.MM
namespace Go.Proofs.YtbbpplnnegdenaaGreat.MM
instance (s : List Int) : Decidable (isLyn s) :=
 decidable_of_iff (s ≠ [] ∧ ∀ i, i < s.length → 0 < i → ltL s (s.drop i)) ⟨fun h => ⟨h.1, fun i h0 h1 => h.2 i h1 h0⟩, fun h => ⟨h.1, fun i h1 h0 => h.2 i h0 h1⟩⟩
end Go.Proofs.YtbbpplnnegdenaaGreat.MM
namespace Go.Proofs.YtbbpplnnegdenaaGreat.MM
def ringF (p : List Int) : Nat → List Bool → Int → List Int → List Bool × List Int
 | 0, seen, _, acc => (seen, acc)
 | f + 1, seen, k, acc => if seen.getD k.toNat false = true then (seen, acc) else ringF p f (seen.set k.toNat true) (p.getD k.toNat 0) (acc ++ [k])
def ringsF (p : List Int) : Nat → Nat → List Bool → List (List Int) → List (List Int)
 | 0, _, _, out => out
 | d + 1, i, seen, out => ringsF p d (i + 1) (ringF p (p.length + 1) seen (i : Int) []).1 (if (ringF p (p.length + 1) seen (i : Int) []).2.length > 0 then out ++ [(ringF p (p.length + 1) seen (i : Int) []).2] else out)
def unseen (seen : List Bool) : Nat := (seen.filter (fun b => !b)).length
theorem unseen_set : ∀ {seen : List Bool} {k : Nat}, k < seen.length → seen.getD k false = false → unseen (seen.set k true) + 1 = unseen seen
 | [], k, h, _ => by simp at h
 | b :: t, 0, _, h => by
   have : b = false := by simpa using h
   subst this
   simp [unseen]
 | b :: t, k + 1, h, h2 => by
   have ih := unseen_set (seen := t) (k := k) (by simpa using h) (by simpa using h2)
   cases b with
   | true => simpa [unseen] using ih
   | false => simp [unseen] at ih ⊢; omega
theorem unseen_le (seen : List Bool) : unseen seen ≤ seen.length := List.length_filter_le _ _
theorem unseen_zero : ∀ {seen : List Bool}, (∀ v, v < seen.length → seen.getD v false = true) → unseen seen = 0
 | [], _ => rfl
 | b :: t, h => by
   have h0 : b = true := by simpa using h 0 (by simp)
   have := unseen_zero (seen := t) (fun v hv => by simpa using h (v + 1) (by simpa using hv))
   subst h0
   simpa [unseen] using this
theorem unseen_new (n : Nat) : unseen (List.replicate n false) = n := by simp [unseen]
def backC (p : List Int) (seen : List Bool) : Prop := ∀ v, v < p.length → seen.getD (p.getD v 0).toNat false = true → seen.getD v false = true
def isRing (p : List Int) (c : List Int) : Prop := c ≠ [] ∧ c.Nodup ∧ (∀ x ∈ c, 0 ≤ x ∧ x < (p.length : Int)) ∧ ∀ j, j < c.length → p.getD (c.getD j 0).toNat 0 = c.getD ((j + 1) % c.length) 0
theorem getD_append_left' {l r : List Int} {i : Nat} (h : i < l.length) : (l ++ r).getD i 0 = l.getD i 0 := by
 rw [List.getD_eq_getElem?_getD, List.getElem?_append_left h, ← List.getD_eq_getElem?_getD]
theorem getD_append_at {l : List Int} {x : Int} : (l ++ [x]).getD l.length 0 = x := by
 rw [List.getD_eq_getElem?_getD, List.getElem?_append_right (Nat.le_refl _)]; simp
theorem ring_go {p : List Int} (hp : isPerm p) {seen0 : List Bool} (hs0 : seen0.length = p.length) (hb : backC p seen0) {i : Nat} (hi : i < p.length) (hun : seen0.getD i false = false) :
  ∀ (f : Nat) (seen : List Bool) (k : Int) (acc : List Int), seen.length = p.length → unseen seen < f → 0 ≤ k → k < p.length → (acc = [] → k = i) → (∀ h : 0 < acc.length, acc.getD 0 0 = i ∧ p.getD (acc.getD (acc.length - 1) 0).toNat 0 = k) →
    (∀ j, j + 1 < acc.length → p.getD (acc.getD j 0).toNat 0 = acc.getD (j + 1) 0) → acc.Nodup → (∀ x ∈ acc, 0 ≤ x ∧ x < (p.length : Int)) → (∀ v, v < p.length → (seen.getD v false = true ↔ seen0.getD v false = true ∨ (v : Int) ∈ acc)) → (∀ x ∈ acc, seen0.getD x.toNat false = false) →
    unseen seen + acc.length = unseen seen0 →
    ∃ seen' c, ringF p f seen k acc = (seen', c) ∧ isRing p c ∧ c.getD 0 0 = i ∧ seen'.length = p.length ∧ (∀ v, v < p.length → (seen'.getD v false = true ↔ seen0.getD v false = true ∨ (v : Int) ∈ c)) ∧ (∀ x ∈ c, seen0.getD x.toNat false = false) ∧ unseen seen' + c.length = unseen seen0 := by
 intro f
 induction f with
 | zero => intro seen k acc _ h; omega
 | succ f ih =>
   intro seen k acc hsl hf hk0 hk1 hke hacc hch hnd hr hsn hdis hcnt
   by_cases hse : seen.getD k.toNat false = true
   ·
    have hne : acc ≠ [] := fun e => by
     have := hke e
     rcases (hsn k.toNat (by omega)).1 hse with h | h
     ·rw [this] at h; simp only [Int.toNat_natCast] at h; rw [hun] at h; cases h
     ·rw [e] at h; simp at h
    have hpos := List.length_pos_iff.2 hne
    obtain ⟨hh, hl⟩ := hacc hpos
    have hlast := getD_mem (a := acc) (i := acc.length - 1) (by omega)
    have hlr := hr _ hlast
    have hkacc : k ∈ acc := by
     rcases (hsn k.toNat (by omega)).1 hse with h | h
     ·exfalso
      have h2 := hb (acc.getD (acc.length - 1) 0).toNat (by omega) (by rw [hl]; exact h)
      rw [hdis _ hlast] at h2
      cases h2
     ·rwa [Int.toNat_of_nonneg hk0] at h
    obtain ⟨j, hj, hje⟩ := List.mem_iff_getElem.1 hkacc
    have hjd : acc.getD j 0 = k := by rw [List.getD_eq_getElem?_getD, List.getElem?_eq_getElem hj]; exact hje
    have hj0 : j = 0 := by
     rcases Nat.eq_zero_or_pos j with h | h
     ·exact h
     ·exfalso
      have h1 := hch (j - 1) (by omega)
      rw [show j - 1 + 1 = j by omega, hjd, ← hl] at h1
      have hm := hr _ (getD_mem (a := acc) (i := j - 1) (by omega))
      have h2 := getD_inj hp.2 (i := (acc.getD (j - 1) 0).toNat) (j := (acc.getD (acc.length - 1) 0).toNat) (by omega) (by omega) h1
      have h3 := getD_inj hnd (i := j - 1) (j := acc.length - 1) (by omega) (by omega) (by omega)
      omega
    subst hj0
    refine ⟨seen, acc, by rw [ringF, if_pos hse], ⟨hne, hnd, hr, fun j hj => ?_⟩, hh, hsl, hsn, hdis, hcnt⟩
    by_cases e : j + 1 < acc.length
    ·rw [Nat.mod_eq_of_lt e]; exact hch j e
    ·rw [show j = acc.length - 1 by omega, show acc.length - 1 + 1 = acc.length by omega, Nat.mod_self, hl, hjd]
   ·have hse' : seen.getD k.toNat false = false := by simpa using hse
    have hkn : k ∉ acc := fun h => hse ((hsn k.toNat (by omega)).2 (.inr (by rwa [Int.toNat_of_nonneg hk0])))
    have hk00 : seen0.getD k.toNat false = false := by
     cases h : seen0.getD k.toNat false with
     | false => rfl
     | true => exact absurd ((hsn k.toNat (by omega)).2 (.inl h)) hse
    have hcs := unseen_set (seen := seen) (k := k.toNat) (by omega) hse'
    have hpk := hp.1 _ (getD_mem (a := p) (i := k.toNat) (by omega))
    obtain ⟨seen', c, h1, h2⟩ := ih (seen.set k.toNat true) (p.getD k.toNat 0) (acc ++ [k]) (by rw [List.length_set, hsl]) (by omega) hpk.1 hpk.2 (fun e => by simp at e) (fun _ => by
      constructor
      ·by_cases e : acc = []
       ·rw [e]; simpa using hke e
       ·rw [getD_append_left' (List.length_pos_iff.2 e)]; exact (hacc (List.length_pos_iff.2 e)).1
      ·rw [List.length_append, List.length_singleton, show acc.length + 1 - 1 = acc.length by omega, getD_append_at]) (fun j hj => by
      rw [List.length_append, List.length_singleton] at hj
      by_cases e : j + 1 < acc.length
      ·rw [getD_append_left' (by omega), getD_append_left' e]; exact hch j e
      ·rw [getD_append_left' (by omega), show j + 1 = acc.length by omega, getD_append_at, show j = acc.length - 1 by omega]
       exact (hacc (by omega)).2) (by
      rw [List.nodup_append]
      exact ⟨hnd, by simp, fun x hx y hy => by rintro rfl; simp only [List.mem_singleton] at hy; subst hy; exact hkn hx⟩) (fun x hx => by
      rcases List.mem_append.1 hx with h | h
      ·exact hr x h
      ·simp only [List.mem_singleton] at h; subst h; exact ⟨hk0, hk1⟩) (fun v hv => by
      rw [lset (by omega)]
      by_cases e : k.toNat = v
      ·rw [if_pos e]
       simp only [true_iff]
       right; rw [List.mem_append, List.mem_singleton]; right; omega
      ·rw [if_neg e, hsn v hv, List.mem_append, List.mem_singleton]
       have : (v : Int) ≠ k := by omega
       simp only [this, or_false]) (fun x hx => by
      rcases List.mem_append.1 hx with h | h
      ·exact hdis x h
      ·simp only [List.mem_singleton] at h; subst h; exact hk00) (by rw [List.length_append, List.length_singleton]; omega)
    exact ⟨seen', c, by rw [ringF, if_neg hse]; exact h1, h2⟩
theorem ring_spec {p : List Int} (hp : isPerm p) {seen0 : List Bool} (hs0 : seen0.length = p.length) (hb : backC p seen0) {i : Nat} (hi : i < p.length) (hun : seen0.getD i false = false) :
  ∃ seen' c, ringF p (p.length + 1) seen0 (i : Int) [] = (seen', c) ∧ isRing p c ∧ c.getD 0 0 = i ∧ seen'.length = p.length ∧ (∀ v, v < p.length → (seen'.getD v false = true ↔ seen0.getD v false = true ∨ (v : Int) ∈ c)) ∧ (∀ x ∈ c, seen0.getD x.toNat false = false) ∧ unseen seen' + c.length = unseen seen0 ∧ backC p seen' := by
 have := unseen_le seen0
 obtain ⟨seen', c, h1, h2, h3, h4, h5, h6, h7⟩ := ring_go hp hs0 hb hi hun (p.length + 1) seen0 (i : Int) [] hs0 (by omega) (by omega) (by omega) (fun _ => rfl) (fun h => absurd h (by simp)) (fun j hj => absurd hj (by simp)) (by simp) (by simp) (by simp) (by simp) (by simp)
 refine ⟨seen', c, h1, h2, h3, h4, h5, h6, h7, fun v hv hs => ?_⟩
 have hpv := hp.1 _ (getD_mem (a := p) (i := v) hv)
 rcases (h5 _ (by omega)).1 hs with h | h
 ·exact (h5 v hv).2 (.inl (hb v hv h))
 ·rw [Int.toNat_of_nonneg hpv.1] at h
  refine (h5 v hv).2 (.inr ?_)
  obtain ⟨j, hj, hje⟩ := List.mem_iff_getElem.1 h
  have hjd : c.getD j 0 = p.getD v 0 := by rw [List.getD_eq_getElem?_getD, List.getElem?_eq_getElem hj]; exact hje
  have hprev : ∃ q, q < c.length ∧ p.getD (c.getD q 0).toNat 0 = c.getD j 0 := by
   rcases Nat.eq_zero_or_pos j with e | e
   ·refine ⟨c.length - 1, by omega, ?_⟩
    rw [h2.2.2.2 (c.length - 1) (by omega), show c.length - 1 + 1 = c.length by omega, Nat.mod_self, e]
   ·refine ⟨j - 1, by omega, ?_⟩
    rw [h2.2.2.2 (j - 1) (by omega), show j - 1 + 1 = j by omega, Nat.mod_eq_of_lt hj]
  obtain ⟨q, hq, hqe⟩ := hprev
  have hqm := getD_mem (a := c) (i := q) hq
  have hqr := h2.2.2.1 _ hqm
  have := getD_inj hp.2 (i := (c.getD q 0).toNat) (j := v) (by omega) hv (by rw [hqe, hjd])
  have e : (v : Int) = c.getD q 0 := by omega
  rw [e]; exact hqm
def goodRings (p : List Int) (out : List (List Int)) (i : Nat) : Prop :=
 (∀ c ∈ out, isRing p c ∧ c.getD 0 0 < i ∧ ∀ x ∈ c, c.getD 0 0 ≤ x) ∧ out.Pairwise (fun c d => c.getD 0 0 < d.getD 0 0)
theorem rings_spec {p : List Int} (hp : isPerm p) : ∀ (d i : Nat) (seen : List Bool) (out : List (List Int)), i + d = p.length → seen.length = p.length → backC p seen → (∀ v, v < i → seen.getD v false = true) → goodRings p out i → (out.map List.length).sum + unseen seen = p.length →
  goodRings p (ringsF p d i seen out) p.length ∧ ((ringsF p d i seen out).map List.length).sum = p.length := by
 intro d
 induction d with
 | zero =>
   intro i seen out hd hs hb hlt hg hsum
   have := unseen_zero (seen := seen) (fun v hv => hlt v (by omega))
   rw [ringsF, show p.length = i by omega]
   exact ⟨hg, by omega⟩
 | succ d ih =>
   intro i seen out hd hs hb hlt hg hsum
   rw [ringsF]
   cases hun : seen.getD i false with
   | true =>
     have e : ringF p (p.length + 1) seen (i : Int) [] = (seen, []) := by rw [ringF, Int.toNat_natCast, if_pos hun]
     rw [e]
     simp only [List.length_nil, Nat.lt_irrefl, gt_iff_lt, if_false]
     refine ih (i + 1) seen out (by omega) hs hb (fun v hv => ?_) ⟨fun c hc => ?_, hg.2⟩ hsum
     ·by_cases e : v = i
      ·rw [e]; exact hun
      ·exact hlt v (by omega)
     ·have := hg.1 c hc
      exact ⟨this.1, by omega, this.2.2⟩
   | false =>
     obtain ⟨seen', c, h1, h2, h3, h4, h5, h6, h7, h8⟩ := ring_spec hp hs hb (i := i) (by omega) hun
     rw [h1]
     have hpos := List.length_pos_iff.2 h2.1
     rw [if_pos hpos]
     have hmin : ∀ x ∈ c, c.getD 0 0 ≤ x := fun x hx => by
      have h9 := h6 x hx
      have h10 := h2.2.2.1 x hx
      rw [h3]
      rcases Int.lt_or_le x i with h | h
      ·have := hlt x.toNat (by omega)
       rw [h9] at this; cases this
      ·exact h
     refine ih (i + 1) seen' (out ++ [c]) (by omega) h4 h8 (fun v hv => ?_) ⟨fun c' hc' => ?_, ?_⟩ (by rw [List.map_append, List.sum_append]; simp only [List.map_cons, List.map_nil, List.sum_cons, List.sum_nil]; omega)
     ·refine (h5 v (by omega)).2 ?_
      by_cases e : v = i
      ·right
       have h9 := getD_mem (a := c) (i := 0) hpos
       rw [h3] at h9; rw [e]; exact h9
      ·exact .inl (hlt v (by omega))
     ·rcases List.mem_append.1 hc' with h | h
      ·have := hg.1 c' h
       exact ⟨this.1, by omega, this.2.2⟩
      ·simp only [List.mem_singleton] at h; subst h
       exact ⟨h2, by omega, hmin⟩
     ·rw [List.pairwise_append]
      refine ⟨hg.2, by simp, fun x hx y hy => ?_⟩
      simp only [List.mem_singleton] at hy; subst hy
      have := (hg.1 x hx).2.1
      omega
def cycOf (p : List Int) : List (List Int) := ringsF p p.length 0 (List.replicate p.length false) []
theorem getD_repB {n v : Nat} : (List.replicate n false).getD v false = false := getD_replicate
theorem cyc_spec {p : List Int} (hp : isPerm p) : goodRings p (cycOf p) p.length ∧ ((cycOf p).map List.length).sum = p.length := by
 refine rings_spec hp p.length 0 _ [] (by omega) (by simp) (fun v hv h => ?_) (fun v hv => by omega) ⟨by simp, by simp⟩ (by simp [unseen_new])
 rw [getD_repB] at h; cases h
end Go.Proofs.YtbbpplnnegdenaaGreat.MM
namespace Go.Proofs.YtbbpplnnegdenaaGreat.MM
def sml (s : List Int) (i : Nat) : Bool := decide (ltL (s.drop i) (s.drop (i + 1)))
theorem sml_last {s : List Int} {i : Nat} (h : s.length ≤ i + 1) : sml s i = false := by
 unfold sml
 rw [List.drop_of_length_le h]
 exact decide_eq_false (not_ltL_nil _)
theorem sml_step {s : List Int} {i : Nat} (h : i + 1 < s.length) : sml s i = (decide (s.getD i 0 < s.getD (i + 1) 0) || (decide (s.getD i 0 = s.getD (i + 1) 0) && sml s (i + 1))) := by
 have := sufLt_step (s := s) (x := i) (y := i + 1) (by omega) h
 unfold sufLt at this
 simp only [Int.toNat_natCast, show ((i : Int) + 1).toNat = i + 1 by omega, show (((i + 1 : Nat) : Int) + 1).toNat = i + 1 + 1 by omega] at this
 unfold sml
 rw [Bool.eq_iff_iff]
 simp only [decide_eq_true_eq, Bool.or_eq_true, Bool.and_eq_true]
 exact this
def smls (s : List Int) : List Bool := (List.range s.length).map (sml s)
theorem smls_length (s : List Int) : (smls s).length = s.length := by simp [smls]
theorem smls_get {s : List Int} {i : Nat} (h : i < s.length) : (smls s).getD i false = sml s i := by
 unfold smls
 rw [List.getD_eq_getElem?_getD, List.getElem?_map, List.getElem?_range h]; rfl
theorem extB {a b : List Bool} (hl : a.length = b.length) (h : ∀ i, i < a.length → a.getD i false = b.getD i false) : a = b := by
 apply List.ext_getElem hl
 intro i h1 h2
 have := h i h1
 simpa only [List.getD_eq_getElem?_getD, List.getElem?_eq_getElem h1, List.getElem?_eq_getElem h2, Option.getD_some] using this
def isFr (s : List Int) (i : Nat) : Bool := decide (0 < i) && sml s i && !sml s (i - 1)
def frs (s : List Int) (m : Nat) : List Int := ((List.range m).filter (isFr s)).map (fun (i : Nat) => (i : Int))
theorem frs_succ (s : List Int) (m : Nat) : frs s (m + 1) = frs s m ++ (if isFr s m = true then [(m : Int)] else []) := by
 unfold frs
 rw [List.range_succ, List.filter_append, List.map_append]
 congr 1
 by_cases h : isFr s m = true
 ·simp [h]
 ·simp [h]
theorem frs_len (s : List Int) (m : Nat) : (frs s m).length ≤ m := by
 unfold frs
 rw [List.length_map]
 have := List.length_filter_le (isFr s) (List.range m)
 simpa using this
theorem frs_mem {s : List Int} {m : Nat} {x : Int} (h : x ∈ frs s m) : ∃ i : Nat, x = i ∧ i < m ∧ 0 < i ∧ sml s i = true ∧ sml s (i - 1) = false := by
 unfold frs at h
 obtain ⟨i, hi, rfl⟩ := List.mem_map.1 h
 rw [List.mem_filter, List.mem_range] at hi
 obtain ⟨h1, h2⟩ := hi
 simp only [isFr, Bool.and_eq_true, decide_eq_true_eq, Bool.not_eq_true'] at h2
 exact ⟨i, rfl, h1, h2.1.1, h2.1.2, h2.2⟩
theorem frs_apart (s : List Int) : ∀ m, (frs s m).Pairwise (fun x y => x + 2 ≤ y)
 | 0 => by simp [frs]
 | m + 1 => by
   rw [frs_succ, List.pairwise_append]
   refine ⟨frs_apart s m, by split <;> simp, fun x hx y hy => ?_⟩
   split at hy
   ·rename_i hf
    simp only [List.mem_singleton] at hy
    subst hy
    obtain ⟨i, rfl, h1, h2, h3, h4⟩ := frs_mem hx
    simp only [isFr, Bool.and_eq_true, decide_eq_true_eq, Bool.not_eq_true'] at hf
    have : i ≠ m - 1 := fun e => by rw [e, hf.2] at h3; cases h3
    omega
   ·simp at hy
theorem pair_getD {R : Int → Int → Prop} {l : List Int} (h : l.Pairwise R) {i j : Nat} (hij : i < j) (hj : j < l.length) : R (l.getD i 0) (l.getD j 0) := by
 have := List.pairwise_iff_getElem.1 h i j (by omega) hj hij
 simpa only [List.getD_eq_getElem?_getD, List.getElem?_eq_getElem hj, List.getElem?_eq_getElem (show i < l.length by omega), Option.getD_some] using this
theorem frs_at {s : List Int} {m i : Nat} (h : i < (frs s m).length) : 1 ≤ (frs s m).getD i 0 ∧ (frs s m).getD i 0 < m ∧ 2 * (i : Int) + 1 ≤ (frs s m).getD i 0 := by
 induction i with
 | zero =>
   obtain ⟨j, h1, h2, h3, _⟩ := frs_mem (getD_mem h)
   omega
 | succ i ih =>
   obtain ⟨j, h1, h2, h3, _⟩ := frs_mem (getD_mem h)
   have := ih (by omega)
   have := pair_getD (frs_apart s m) (show i < i + 1 by omega) h
   omega
theorem frs_half (s : List Int) (m : Nat) : 2 * (frs s m).length ≤ m := by
 rcases Nat.eq_zero_or_pos (frs s m).length with h | h
 ·omega
 ·have := frs_at (s := s) (m := m) (i := (frs s m).length - 1) (by omega)
  omega
end Go.Proofs.YtbbpplnnegdenaaGreat.MM
namespace Go.Proofs.YtbbpplnnegdenaaGreat.MM
def cN (n : Nat) (p : Nat → Bool) : Nat := (List.range n).countP p
theorem cN_succ (n : Nat) (p : Nat → Bool) : cN (n + 1) p = cN n p + if p n = true then 1 else 0 := by
 unfold cN; rw [List.range_succ, List.countP_append, List.countP_singleton]
theorem cN_bound (p : Nat → Bool) : ∀ n, cN n p ≤ n
 | 0 => by simp [cN]
 | n + 1 => by
   have := cN_bound p n
   rw [cN_succ]; split <;> omega
theorem cN_congr {p q : Nat → Bool} : ∀ {n : Nat}, (∀ x, x < n → p x = q x) → cN n p = cN n q
 | 0, _ => rfl
 | n + 1, h => by rw [cN_succ, cN_succ, cN_congr (fun x hx => h x (by omega)), h n (by omega)]
theorem cN_add {p q r : Nat → Bool} : ∀ {n : Nat}, (∀ x, x < n → p x = true → q x = false) → (∀ x, x < n → r x = (p x || q x)) → cN n r = cN n p + cN n q
 | 0, _, _ => rfl
 | n + 1, hd, hr => by
   rw [cN_succ, cN_succ, cN_succ, cN_add (fun x hx => hd x (by omega)) (fun x hx => hr x (by omega)), hr n (by omega)]
   have := hd n (by omega)
   cases hp : p n <;> cases hq : q n <;> simp_all <;> omega
theorem cN_zero {p : Nat → Bool} {n : Nat} (h : ∀ x, x < n → p x = false) : cN n p = 0 := by
 induction n with
 | zero => rfl
 | succ n ih => rw [cN_succ, ih (fun x hx => h x (by omega)), h n (by omega)]; rfl
theorem cN_single {a : Nat} : ∀ {n : Nat}, a < n → cN n (fun x => x == a) = 1
 | n + 1, h => by
   rw [cN_succ]
   by_cases e : a = n
   ·subst e
    rw [cN_zero (fun x hx => by simp; omega)]; simp
   ·rw [cN_single (by omega)]
    simp [show ¬ n = a by omega]
theorem cN_one {p q : Nat → Bool} {a n : Nat} (ha : a < n) (hp : p a = false) (hq : ∀ x, x < n → q x = (p x || x == a)) : cN n q = cN n p + 1 := by
 rw [cN_add (p := p) (q := fun x => x == a) (fun x _ h => ?_) hq, cN_single ha]
 simp only [beq_eq_false_iff_ne]
 intro e; subst e; rw [hp] at h; cases h
theorem cN_le {p q : Nat → Bool} : ∀ {n : Nat}, (∀ x, x < n → p x = true → q x = true) → cN n p ≤ cN n q
 | 0, _ => Nat.le_refl _
 | n + 1, h => by
   have h1 := cN_le (p := p) (q := q) (n := n) (fun x hx => h x (by omega))
   have h2 := h n (by omega)
   rw [cN_succ, cN_succ]
   cases hp : p n
   ·simp; omega
   ·rw [h2 hp]; simp; omega
theorem cN_lt {p q : Nat → Bool} {n a : Nat} (h : ∀ x, x < n → p x = true → q x = true) (ha : a < n) (hp : p a = false) (hq : q a = true) : cN n p < cN n q := by
 have h1 := cN_one (p := p) (q := fun x => p x || x == a) ha hp (fun _ _ => rfl)
 have h2 := cN_le (p := fun x => p x || x == a) (q := q) (n := n) (fun x hx hx2 => by
  simp only [Bool.or_eq_true, beq_iff_eq] at hx2
  rcases hx2 with h3 | rfl
  ·exact h x hx h3
  ·exact hq)
 omega
theorem cN_two {p q r : Nat → Bool} {n : Nat} (hd : ∀ x, x < n → p x = true → q x = false) (hp : ∀ x, x < n → p x = true → r x = true) (hq : ∀ x, x < n → q x = true → r x = true) : cN n p + cN n q ≤ cN n r := by
 rw [← cN_add (r := fun x => p x || q x) hd (fun _ _ => rfl)]
 refine cN_le (fun x hx h => ?_)
 simp only [Bool.or_eq_true] at h
 exact h.elim (hp x hx) (hq x hx)
theorem ltL_cons {a b : Int} {us bs : List Int} : ltL (a :: us) (b :: bs) ↔ a < b ∨ (a = b ∧ ltL us bs) := by
 unfold ltL
 simp only [cmpL]
 by_cases h1 : a < b
 ·simp [h1]
 ·by_cases h2 : b < a
  ·simp [h1, h2]; omega
  ·have : a = b := by omega
   simp [this]
def sN (s : List Int) (i j : Nat) : Prop := ltL (s.drop i) (s.drop j)
theorem sN_step {s : List Int} {i j : Nat} (hi : i < s.length) (hj : j < s.length) : sN s i j ↔ s.getD i 0 < s.getD j 0 ∨ (s.getD i 0 = s.getD j 0 ∧ sN s (i + 1) (j + 1)) := by
 unfold sN; rw [drop_cons_get hi, drop_cons_get hj, ltL_cons]
theorem sN_end {s : List Int} {i j : Nat} (hi : s.length ≤ i) (hj : j < s.length) : sN s i j := by
 unfold sN; rw [List.drop_of_length_le hi]
 refine ltL_nil.2 (fun e => ?_)
 have := congrArg List.length e
 simp at this; omega
theorem sml_fact {s : List Int} {i : Nat} (h : i + 1 < s.length) : sml s i = true ↔ s.getD i 0 < s.getD (i + 1) 0 ∨ (s.getD i 0 = s.getD (i + 1) 0 ∧ sml s (i + 1) = true) := by
 rw [sml_step h]; simp only [Bool.or_eq_true, Bool.and_eq_true, decide_eq_true_eq]
theorem sml_in {s : List Int} {i : Nat} (h : sml s i = true) : i + 1 < s.length := by
 rcases Nat.lt_or_ge (i + 1) s.length with k | k
 ·exact k
 ·rw [sml_last k] at h; cases h
theorem ls_lt {s : List Int} : ∀ (d i j : Nat), s.length - i ≤ d → i < s.length → j < s.length → s.getD i 0 = s.getD j 0 → sml s i = false → sml s j = true → sN s i j := by
 intro d
 induction d with
 | zero => intro i j hd hi; omega
 | succ d ih =>
   intro i j hd hi hj he h1 h2
   have hj1 := sml_in h2
   refine (sN_step hi hj).2 (.inr ⟨he, ?_⟩)
   rcases Nat.lt_or_ge (i + 1) s.length with hi1 | hi1
   ·have q1 := fun h => (Bool.eq_false_iff.1 h1) ((sml_fact hi1).2 h)
    have q2 := (sml_fact hj1).1 h2
    refine (sN_step hi1 hj1).2 ?_
    by_cases e : s.getD (i + 1) 0 < s.getD (j + 1) 0
    ·exact .inl e
    ·have e1 : ¬ s.getD i 0 < s.getD (i + 1) 0 := fun h => q1 (.inl h)
     have e2 : s.getD i 0 = s.getD (i + 1) 0 := by omega
     have e3 : s.getD (i + 1) 0 = s.getD (j + 1) 0 := by omega
     have e4 : sml s (i + 1) = false := by
      rw [Bool.eq_false_iff]; exact fun h => q1 (.inr ⟨e2, h⟩)
     have e5 : sml s (j + 1) = true := by
      rcases q2 with q2 | q2
      ·omega
      ·exact q2.2
     exact (sN_step hi1 hj1).1 (ih (i + 1) (j + 1) (by omega) hi1 hj1 e3 e4 e5)
   ·exact sN_end hi1 hj1
def dbl (s : List Int) (i : Nat) : Int := 2 * s.getD i 0 + (if sml s i = true then 1 else 0)
theorem dbl_eq {s : List Int} {i j : Nat} : dbl s i = dbl s j ↔ s.getD i 0 = s.getD j 0 ∧ sml s i = sml s j := by
 unfold dbl
 cases h1 : sml s i <;> cases h2 : sml s j <;> simp <;> omega
theorem dbl_lt {s : List Int} {i j : Nat} : dbl s i < dbl s j ↔ s.getD i 0 < s.getD j 0 ∨ (s.getD i 0 = s.getD j 0 ∧ sml s i = false ∧ sml s j = true) := by
 unfold dbl
 cases h1 : sml s i <;> cases h2 : sml s j <;> simp <;> omega
theorem dbl_pos {s : List Int} (hs : ∀ x ∈ s, 0 ≤ x) {i : Nat} (h : i < s.length) : 0 ≤ dbl s i := by
 have := hs _ (getD_mem h)
 unfold dbl; split <;> omega
def keyU (s : List Int) (cd : Nat → Int) : Nat → Nat → List Int
 | 0, _ => [-1]
 | d + 1, i => if isFr s i = true then [dbl s i, cd i] else dbl s i :: keyU s cd d (i + 1)
def oKey (s : List Int) (cd : Nat → Int) (i : Nat) : List Int := keyU s cd (s.length - i) i
def kKey (s : List Int) (cd : Nat → Int) (i : Nat) : List Int := dbl s i :: oKey s cd (i + 1)
theorem oKey_end {s : List Int} {cd : Nat → Int} {i : Nat} (h : s.length ≤ i) : oKey s cd i = [-1] := by
 unfold oKey; rw [show s.length - i = 0 by omega]; rfl
theorem oKey_fr {s : List Int} {cd : Nat → Int} {i : Nat} (h : i < s.length) (hf : isFr s i = true) : oKey s cd i = [dbl s i, cd i] := by
 unfold oKey; rw [show s.length - i = (s.length - i - 1) + 1 by omega, keyU, if_pos hf]
theorem oKey_no {s : List Int} {cd : Nat → Int} {i : Nat} (h : i < s.length) (hf : isFr s i = false) : oKey s cd i = kKey s cd i := by
 unfold kKey oKey; rw [show s.length - i = (s.length - (i + 1)) + 1 by omega, keyU, if_neg (by rw [hf]; simp)]
theorem oKey_hd {s : List Int} {cd : Nat → Int} {i : Nat} (h : i < s.length) : ∃ t, oKey s cd i = dbl s i :: t := by
 cases hf : isFr s i
 ·exact ⟨_, oKey_no h hf⟩
 ·exact ⟨_, oKey_fr h hf⟩
theorem fr_succ {s : List Int} {i : Nat} : isFr s (i + 1) = true ↔ sml s (i + 1) = true ∧ sml s i = false := by
 unfold isFr; simp
theorem fr_not {s : List Int} {i : Nat} : isFr s (i + 1) = false ↔ sml s (i + 1) = false ∨ sml s i = true := by
 unfold isFr; cases h1 : sml s (i + 1) <;> cases h2 : sml s i <;> simp [h1, h2]
theorem fr_sml {s : List Int} {i : Nat} (h : isFr s i = true) : sml s i = true := by
 unfold isFr at h; simp only [Bool.and_eq_true] at h; exact h.1.2
theorem fr_in {s : List Int} {i : Nat} (h : isFr s i = true) : i < s.length := by have := sml_in (fr_sml h); omega
theorem key_large {s : List Int} (hs : ∀ x ∈ s, 0 ≤ x) {cd : Nat → Int} : ∀ (d i : Nat), s.length - i ≤ d → i < s.length → sml s i = false → ltL (oKey s cd (i + 1)) (kKey s cd i) := by
 intro d
 induction d with
 | zero => intro i hd hi; omega
 | succ d ih =>
   intro i hd hi h
   have h0 := dbl_pos hs hi
   rcases Nat.lt_or_ge (i + 1) s.length with h1 | h1
   ·have q1 := fun k => (Bool.eq_false_iff.1 h) ((sml_fact h1).2 k)
    have e1 : ¬ s.getD i 0 < s.getD (i + 1) 0 := fun k => q1 (.inl k)
    by_cases e2 : s.getD (i + 1) 0 < s.getD i 0
    ·obtain ⟨t, ht⟩ := oKey_hd (cd := cd) h1
     rw [ht, kKey, ltL_cons, dbl_lt]
     exact .inl (.inl e2)
    ·have e3 : s.getD i 0 = s.getD (i + 1) 0 := by omega
     have e4 : sml s (i + 1) = false := by
      rw [Bool.eq_false_iff]; exact fun k => q1 (.inr ⟨e3, k⟩)
     have e5 := oKey_no (cd := cd) h1 (fr_not.2 (.inl e4))
     have := ih (i + 1) (by omega) h1 e4
     rw [← e5] at this
     rw [e5, kKey, kKey, ltL_cons, dbl_eq]
     exact .inr ⟨⟨e3.symm, by rw [e4, h]⟩, this⟩
   ·rw [oKey_end h1, kKey, ltL_cons]; exact .inl (by omega)
theorem key_small {s : List Int} {cd : Nat → Int} : ∀ (d i : Nat), s.length - i ≤ d → sml s i = true → ltL (kKey s cd i) (kKey s cd (i + 1)) := by
 intro d
 induction d with
 | zero => intro i hd h; have := sml_in h; omega
 | succ d ih =>
   intro i hd h
   have h1 := sml_in h
   rw [kKey, kKey, ltL_cons]
   rcases (sml_fact h1).1 h with h2 | ⟨h2, h3⟩
   ·exact .inl (dbl_lt.2 (.inl h2))
   ·refine .inr ⟨dbl_eq.2 ⟨h2, by rw [h, h3]⟩, ?_⟩
    rw [oKey_no h1 (fr_not.2 (.inr h)), oKey_no (sml_in h3) (fr_not.2 (.inr h3))]
    exact ih (i + 1) (by omega) h3
theorem key_tail {s : List Int} {cd cd' : Nat → Int} {i j : Nat} (hi : i + 1 < s.length) (hj : j + 1 < s.length) (he : sml s i = sml s j) :
  (isFr s (i + 1) = true ∧ isFr s (j + 1) = true ∧ oKey s cd (i + 1) = [dbl s (i + 1), cd (i + 1)] ∧ oKey s cd' (j + 1) = [dbl s (j + 1), cd' (j + 1)]) ∨
  (isFr s (i + 1) = false ∧ isFr s (j + 1) = false ∧ oKey s cd (i + 1) = kKey s cd (i + 1) ∧ oKey s cd' (j + 1) = kKey s cd' (j + 1)) ∨
  (sml s (i + 1) ≠ sml s (j + 1) ∧ ∃ t t', oKey s cd (i + 1) = dbl s (i + 1) :: t ∧ oKey s cd' (j + 1) = dbl s (j + 1) :: t') := by
 cases h1 : isFr s (i + 1) <;> cases h2 : isFr s (j + 1)
 ·exact .inr (.inl ⟨rfl, rfl, oKey_no hi h1, oKey_no hj h2⟩)
 ·refine .inr (.inr ⟨?_, ?_⟩)
  ·have a1 := fr_succ.1 h2
   have a2 := fr_not.1 h1
   rw [a1.1]
   rcases a2 with a2 | a2
   ·rw [a2]; simp
   ·rw [he, a1.2] at a2; cases a2
  ·obtain ⟨t, ht⟩ := oKey_hd (cd := cd) hi
   obtain ⟨t', ht'⟩ := oKey_hd (cd := cd') hj
   exact ⟨t, t', ht, ht'⟩
 ·refine .inr (.inr ⟨?_, ?_⟩)
  ·have a1 := fr_succ.1 h1
   have a2 := fr_not.1 h2
   rw [a1.1]
   rcases a2 with a2 | a2
   ·rw [a2]; simp
   ·rw [← he, a1.2] at a2; cases a2
  ·obtain ⟨t, ht⟩ := oKey_hd (cd := cd) hi
   obtain ⟨t', ht'⟩ := oKey_hd (cd := cd') hj
   exact ⟨t, t', ht, ht'⟩
 ·exact .inl ⟨rfl, rfl, oKey_fr hi h1, oKey_fr hj h2⟩
theorem key_inj {s : List Int} (hs : ∀ x ∈ s, 0 ≤ x) {cd : Nat → Int} (hc : ∀ a b, isFr s a = true → isFr s b = true → cd a = cd b → a = b) :
  ∀ (d i j : Nat), s.length - i ≤ d → i < s.length → j < s.length → kKey s cd i = kKey s cd j → i = j := by
 intro d
 induction d with
 | zero => intro i j hd hi; omega
 | succ d ih =>
   intro i j hd hi hj h
   rw [kKey, kKey] at h
   obtain ⟨h1, h2⟩ := List.cons.inj h
   have h3 := (dbl_eq.1 h1).2
   rcases Nat.lt_or_ge (i + 1) s.length with hi1 | hi1
   ·rcases Nat.lt_or_ge (j + 1) s.length with hj1 | hj1
    ·rcases key_tail (cd := cd) (cd' := cd) hi1 hj1 h3 with ⟨a1, a2, a3, a4⟩ | ⟨a1, a2, a3, a4⟩ | ⟨a1, t, t', a3, a4⟩
     ·rw [a3, a4] at h2
      have := hc _ _ a1 a2 (by simpa using (List.cons.inj h2).2)
      omega
     ·rw [a3, a4] at h2
      have := ih (i + 1) (j + 1) (by omega) hi1 hj1 h2
      omega
     ·rw [a3, a4] at h2
      exact absurd (dbl_eq.1 (List.cons.inj h2).1).2 a1
    ·obtain ⟨t, ht⟩ := oKey_hd (cd := cd) hi1
     rw [oKey_end hj1, ht] at h2
     have := dbl_pos hs hi1
     have := (List.cons.inj h2).1
     omega
   ·rcases Nat.lt_or_ge (j + 1) s.length with hj1 | hj1
    ·obtain ⟨t, ht⟩ := oKey_hd (cd := cd) hj1
     rw [oKey_end hi1, ht] at h2
     have := dbl_pos hs hj1
     have := (List.cons.inj h2).1
     omega
    ·omega
theorem key_suf {s : List Int} (hs : ∀ x ∈ s, 0 ≤ x) {cd : Nat → Int} (hc : ∀ a b, isFr s a = true → isFr s b = true → cd a < cd b → sN s a b) :
  ∀ (d i j : Nat), s.length - i ≤ d → i < s.length → j < s.length → ltL (kKey s cd i) (kKey s cd j) → sN s i j := by
 intro d
 induction d with
 | zero => intro i j hd hi; omega
 | succ d ih =>
   intro i j hd hi hj h
   rw [kKey, kKey, ltL_cons] at h
   rcases h with h | ⟨h1, h2⟩
   ·rcases dbl_lt.1 h with h | ⟨h1, h2, h3⟩
    ·exact (sN_step hi hj).2 (.inl h)
    ·exact ls_lt s.length i j (by omega) hi hj h1 h2 h3
   ·have h3 := dbl_eq.1 h1
    refine (sN_step hi hj).2 (.inr ⟨h3.1, ?_⟩)
    rcases Nat.lt_or_ge (j + 1) s.length with hj1 | hj1
    ·rcases Nat.lt_or_ge (i + 1) s.length with hi1 | hi1
     ·have hd : dbl s (i + 1) < dbl s (j + 1) → sN s (i + 1) (j + 1) := fun h => by
       rcases dbl_lt.1 h with h | ⟨h1, h2, h3⟩
       ·exact (sN_step hi1 hj1).2 (.inl h)
       ·exact ls_lt s.length (i + 1) (j + 1) (by omega) hi1 hj1 h1 h2 h3
      rcases key_tail (cd := cd) (cd' := cd) hi1 hj1 h3.2 with ⟨a1, a2, a3, a4⟩ | ⟨a1, a2, a3, a4⟩ | ⟨a1, t, t', a3, a4⟩
      ·rw [a3, a4, ltL_cons, ltL_cons] at h2
       rcases h2 with h2 | ⟨_, h2 | ⟨_, h2⟩⟩
       ·exact hd h2
       ·exact hc _ _ a1 a2 h2
       ·exact absurd h2 (ltL_irrefl _)
      ·rw [a3, a4] at h2
       exact ih (i + 1) (j + 1) (by omega) hi1 hj1 h2
      ·rw [a3, a4, ltL_cons] at h2
       rcases h2 with h2 | ⟨h2, _⟩
       ·exact hd h2
       ·exact absurd (dbl_eq.1 h2).2 a1
     ·exact sN_end hi1 hj1
    ·exfalso
     rw [oKey_end hj1] at h2
     rcases Nat.lt_or_ge (i + 1) s.length with hi1 | hi1
     ·obtain ⟨t, ht⟩ := oKey_hd (cd := cd) hi1
      have := dbl_pos hs hi1
      rw [ht, ltL_cons] at h2
      rcases h2 with h2 | ⟨h2, _⟩ <;> omega
     ·rw [oKey_end hi1] at h2
      exact ltL_irrefl _ h2
theorem key_weak {s : List Int} (hs : ∀ x ∈ s, 0 ≤ x) {cd : Nat → Int} :
  ∀ (d i j : Nat), s.length - i ≤ d → i < s.length → j < s.length → ltL (kKey s cd i) (kKey s cd j) → ltL (kKey s (fun _ => 0) j) (kKey s (fun _ => 0) i) → False := by
 intro d
 induction d with
 | zero => intro i j hd hi; omega
 | succ d ih =>
   intro i j hd hi hj h k
   rw [kKey, kKey, ltL_cons] at h k
   have h1 : dbl s i = dbl s j := by
    rcases h with h | h
    ·rcases k with k | k <;> omega
    ·exact h.1
   have h2 : ltL (oKey s cd (i + 1)) (oKey s cd (j + 1)) := by
    rcases h with h | h
    ·omega
    ·exact h.2
   have k2 : ltL (oKey s (fun _ => 0) (j + 1)) (oKey s (fun _ => 0) (i + 1)) := by
    rcases k with k | k
    ·omega
    ·exact k.2
   have h3 := dbl_eq.1 h1
   rcases Nat.lt_or_ge (j + 1) s.length with hj1 | hj1
   ·rcases Nat.lt_or_ge (i + 1) s.length with hi1 | hi1
    ·rcases key_tail (cd := cd) (cd' := cd) hi1 hj1 h3.2 with ⟨a1, a2, a3, a4⟩ | ⟨a1, a2, a3, a4⟩ | ⟨a1, t, t', a3, a4⟩
     ·rw [oKey_fr hi1 a1, oKey_fr hj1 a2, ltL_cons, ltL_cons] at k2
      rw [a3, a4, ltL_cons, ltL_cons] at h2
      rcases k2 with k2 | ⟨k2, k3 | k3⟩
      ·rcases h2 with h2 | h2 <;> omega
      ·omega
      ·exact ltL_irrefl _ k3.2
     ·rw [oKey_no hi1 a1, oKey_no hj1 a2] at k2
      rw [a3, a4] at h2
      exact ih (i + 1) (j + 1) (by omega) hi1 hj1 h2 k2
     ·obtain ⟨u, hu⟩ := oKey_hd (cd := fun _ => 0) hi1
      obtain ⟨u', hu'⟩ := oKey_hd (cd := fun _ => 0) hj1
      rw [a3, a4, ltL_cons] at h2
      rw [hu, hu', ltL_cons] at k2
      have : dbl s (i + 1) ≠ dbl s (j + 1) := fun e => a1 (dbl_eq.1 e).2
      rcases h2 with h2 | h2
      ·rcases k2 with k2 | k2 <;> omega
      ·exact this h2.1
    ·obtain ⟨u', hu'⟩ := oKey_hd (cd := fun _ => 0) hj1
     have := dbl_pos hs hj1
     rw [oKey_end hi1, hu', ltL_cons] at k2
     rcases k2 with k2 | ⟨k2, _⟩ <;> omega
   ·rw [oKey_end hj1] at h2
    rcases Nat.lt_or_ge (i + 1) s.length with hi1 | hi1
    ·obtain ⟨t, ht⟩ := oKey_hd (cd := cd) hi1
     have := dbl_pos hs hi1
     rw [ht, ltL_cons] at h2
     rcases h2 with h2 | ⟨h2, _⟩ <;> omega
    ·rw [oKey_end hi1] at h2
     exact ltL_irrefl _ h2
end Go.Proofs.YtbbpplnnegdenaaGreat.MM
namespace Go.Proofs.YtbbpplnnegdenaaGreat.MM
def bN (s : List Int) (c : Int) : Nat := cN s.length (fun x => decide (s.getD x 0 < c))
def eN (s : List Int) (c : Int) : Nat := cN s.length (fun x => decide (s.getD x 0 ≤ c))
def ixK (s : List Int) (cd : Nat → Int) (p : Nat) : Nat := cN s.length (fun x => decide (ltL (kKey s cd x) (kKey s cd p)))
def cdOk (s : List Int) (cd : Nat → Int) : Prop := (∀ x ∈ s, 0 ≤ x) ∧ ∀ a b, isFr s a = true → isFr s b = true → cd a = cd b → a = b
theorem ix_lt {s : List Int} {cd : Nat → Int} {p : Nat} (h : p < s.length) : ixK s cd p < s.length := by
 have h1 := cN_lt (p := fun x => decide (ltL (kKey s cd x) (kKey s cd p))) (q := fun _ => true) (n := s.length) (fun _ _ _ => rfl) h (by simpa using ltL_irrefl _) rfl
 have h2 := cN_bound (fun _ => true) s.length
 unfold ixK; omega
theorem ix_mono {s : List Int} {cd : Nat → Int} {p q : Nat} (hp : p < s.length) (h : ltL (kKey s cd p) (kKey s cd q)) : ixK s cd p < ixK s cd q :=
 cN_lt (fun x _ hx => by simp only [decide_eq_true_eq] at hx ⊢; exact ltL_trans hx h) hp (by simpa using ltL_irrefl _) (by simpa using h)
theorem kKey_tri {s : List Int} {cd : Nat → Int} (hc : cdOk s cd) {p q : Nat} (hp : p < s.length) (hq : q < s.length) : ltL (kKey s cd p) (kKey s cd q) ∨ p = q ∨ ltL (kKey s cd q) (kKey s cd p) := by
 rcases ltL_tri (kKey s cd p) (kKey s cd q) with h | h | h
 ·exact .inl h
 ·exact .inr (.inl (key_inj hc.1 hc.2 s.length p q (by omega) hp hq h))
 ·exact .inr (.inr h)
theorem ix_iff {s : List Int} {cd : Nat → Int} (hc : cdOk s cd) {p q : Nat} (hp : p < s.length) (hq : q < s.length) : ixK s cd p < ixK s cd q ↔ ltL (kKey s cd p) (kKey s cd q) := by
 refine ⟨fun h => ?_, ix_mono hp⟩
 rcases kKey_tri hc hp hq with k | rfl | k
 ·exact k
 ·omega
 ·have := ix_mono hq k; omega
theorem ix_inj {s : List Int} {cd : Nat → Int} (hc : cdOk s cd) {p q : Nat} (hp : p < s.length) (hq : q < s.length) (h : ixK s cd p = ixK s cd q) : p = q := by
 rcases kKey_tri hc hp hq with k | k | k
 ·have := ix_mono hp k; omega
 ·exact k
 ·have := ix_mono hq k; omega
theorem ix_onto {s : List Int} {cd : Nat → Int} (hc : cdOk s cd) {i : Nat} (hi : i < s.length) : ∃ p, p < s.length ∧ ixK s cd p = i := by
 have hl : ((List.range s.length).map (fun (p : Nat) => (ixK s cd p : Int))).length = s.length := by simp
 have hp : isPerm ((List.range s.length).map (fun (p : Nat) => (ixK s cd p : Int))) := by
  refine ⟨fun x hx => ?_, ?_⟩
  ·obtain ⟨p, hp, rfl⟩ := List.mem_map.1 hx
   have := ix_lt (cd := cd) (List.mem_range.1 hp)
   rw [hl]; omega
  ·rw [List.nodup_iff_pairwise_ne, List.pairwise_map]
   refine List.Pairwise.imp_of_mem (fun {a b} ha hb hab he => ?_) (List.nodup_iff_pairwise_ne.1 List.nodup_range)
   exact hab (ix_inj hc (List.mem_range.1 ha) (List.mem_range.1 hb) (by omega))
 obtain ⟨p, hp1, hp2⟩ := List.mem_map.1 (hp.mem (v := (i : Int)) (by omega) (by rw [hl]; omega))
 exact ⟨p, List.mem_range.1 hp1, by omega⟩
def posU (s : List Int) (cd : Nat → Int) (p : Nat) : Nat :=
 if isFr s p = true then eN s (s.getD p 0) - cN s.length (fun x => isFr s x && (decide (s.getD x 0 = s.getD p 0) && decide (cd p ≤ cd x))) else ixK s cd p
theorem pos_no {s : List Int} {cd : Nat → Int} {p : Nat} (h : isFr s p = false) : posU s cd p = ixK s cd p := by
 unfold posU; rw [if_neg (by rw [h]; simp)]
theorem pos_fr {s : List Int} {cd : Nat → Int} {p : Nat} (h : isFr s p = true) : posU s cd p + cN s.length (fun x => isFr s x && (decide (s.getD x 0 = s.getD p 0) && decide (cd p ≤ cd x))) = eN s (s.getD p 0) := by
 have : cN s.length (fun x => isFr s x && (decide (s.getD x 0 = s.getD p 0) && decide (cd p ≤ cd x))) ≤ eN s (s.getD p 0) := cN_le (fun x _ hx => by
  simp only [Bool.and_eq_true, decide_eq_true_eq] at hx ⊢; omega)
 unfold posU; rw [if_pos h]; omega
theorem sml_no {s : List Int} {p : Nat} (h : sml s p = false) : isFr s p = false := by
 unfold isFr; rw [h]; simp
theorem ix_parts {s : List Int} {cd : Nat → Int} {p : Nat} (h : sml s p = false) :
  ixK s cd p = bN s (s.getD p 0) + cN s.length (fun x => !sml s x && (decide (s.getD x 0 = s.getD p 0) && decide (ltL (kKey s cd x) (kKey s cd p)))) := by
 unfold ixK bN
 refine cN_add (fun x _ hx => ?_) (fun x hx => ?_)
 ·simp only [decide_eq_true_eq] at hx
  have : ¬ s.getD x 0 = s.getD p 0 := by omega
  rw [decide_eq_false this]; simp
 ·rw [Bool.eq_iff_iff]
  simp only [Bool.or_eq_true, Bool.and_eq_true, decide_eq_true_eq, Bool.not_eq_true']
  constructor
  ·intro k
   have k2 := k
   rw [kKey, kKey, ltL_cons] at k2
   rcases k2 with k2 | ⟨k2, _⟩
   ·rcases dbl_lt.1 k2 with k3 | ⟨_, _, k3⟩
    ·exact .inl k3
    ·rw [h] at k3; cases k3
   ·have := dbl_eq.1 k2
    exact .inr ⟨by rw [this.2, h], this.1, k⟩
  ·rintro (k | k)
   ·rw [kKey, kKey, ltL_cons]; exact .inl (dbl_lt.2 (.inl k))
   ·exact k.2.2
def nL (s : List Int) (c : Int) : Nat := cN s.length (fun x => !sml s x && decide (s.getD x 0 = c))
def nF (s : List Int) (c : Int) : Nat := cN s.length (fun x => isFr s x && decide (s.getD x 0 = c))
theorem parts_le (s : List Int) (c : Int) : bN s c + nL s c + nF s c ≤ eN s c := by
 have h1 : cN s.length (fun x => decide (s.getD x 0 < c) || (!sml s x && decide (s.getD x 0 = c))) = bN s c + nL s c := cN_add (fun x _ hx => by
  simp only [decide_eq_true_eq] at hx
  have : ¬ s.getD x 0 = c := by omega
  rw [decide_eq_false this]; simp) (fun _ _ => rfl)
 rw [← h1]
 refine cN_two (fun x _ hx => ?_) (fun x _ hx => ?_) (fun x _ hx => ?_)
 ·simp only [Bool.or_eq_true, Bool.and_eq_true, decide_eq_true_eq, Bool.not_eq_true'] at hx
  rcases hx with hx | hx
  ·have : ¬ s.getD x 0 = c := by omega
   rw [decide_eq_false this]; simp
  ·rw [sml_no hx.1]; rfl
 ·simp only [Bool.or_eq_true, Bool.and_eq_true, decide_eq_true_eq, Bool.not_eq_true'] at hx ⊢; omega
 ·simp only [Bool.and_eq_true, decide_eq_true_eq] at hx ⊢; omega
theorem eN_bN {s : List Int} {a b : Int} (h : a < b) : eN s a ≤ bN s b := cN_le (fun x _ hx => by simp only [decide_eq_true_eq] at hx ⊢; omega)
theorem eN_le (s : List Int) (c : Int) : eN s c ≤ s.length := cN_bound _ _
theorem pos_large {s : List Int} {cd : Nat → Int} {p : Nat} (hp : p < s.length) (h : sml s p = false) : bN s (s.getD p 0) ≤ posU s cd p ∧ posU s cd p < bN s (s.getD p 0) + nL s (s.getD p 0) := by
 rw [pos_no (sml_no h), ix_parts h]
 have := cN_lt (p := fun x => !sml s x && (decide (s.getD x 0 = s.getD p 0) && decide (ltL (kKey s cd x) (kKey s cd p)))) (q := fun x => !sml s x && decide (s.getD x 0 = s.getD p 0)) (n := s.length) (a := p) (fun x _ hx => by
  simp only [Bool.and_eq_true, decide_eq_true_eq] at hx ⊢; exact ⟨hx.1, hx.2.1⟩) hp (by simp [ltL_irrefl]) (by simp [h])
 unfold nL; omega
theorem pos_first {s : List Int} {cd : Nat → Int} {p : Nat} (h : isFr s p = true) : eN s (s.getD p 0) ≤ posU s cd p + nF s (s.getD p 0) ∧ posU s cd p < eN s (s.getD p 0) := by
 have h1 := pos_fr (cd := cd) h
 have h2 : cN s.length (fun x => isFr s x && (decide (s.getD x 0 = s.getD p 0) && decide (cd p ≤ cd x))) ≤ nF s (s.getD p 0) := cN_le (fun x _ hx => by
  simp only [Bool.and_eq_true, decide_eq_true_eq] at hx ⊢; exact ⟨hx.1, hx.2.1⟩)
 have h3 := cN_lt (p := fun _ => false) (q := fun x => isFr s x && (decide (s.getD x 0 = s.getD p 0) && decide (cd p ≤ cd x))) (n := s.length) (a := p) (fun _ _ hx => by cases hx) (fr_in h) rfl (by simp [h])
 omega
def inU (s : List Int) (p : Nat) : Prop := sml s p = false ∨ isFr s p = true
theorem inU_next {s : List Int} {p : Nat} (h : sml s p = false) : inU s (p + 1) := by
 cases h1 : sml s (p + 1)
 ·exact .inl h1
 ·exact .inr (fr_succ.2 ⟨h1, h⟩)
theorem pos_lt {s : List Int} {cd : Nat → Int} {p : Nat} (hp : p < s.length) : posU s cd p < s.length := by
 cases h : isFr s p
 ·rw [pos_no h]; exact ix_lt hp
 ·have := (pos_first (cd := cd) h).2
  have := eN_le s (s.getD p 0)
  omega
theorem pos_mono {s : List Int} {cd : Nat → Int} {p q : Nat} (hp : p < s.length) (hq : q < s.length) (up : inU s p) (uq : inU s q) (h : ltL (oKey s cd p) (oKey s cd q)) : posU s cd p < posU s cd q := by
 cases h1 : isFr s p <;> cases h2 : isFr s q
 ·rw [pos_no h1, pos_no h2]
  rw [oKey_no hp h1, oKey_no hq h2] at h
  exact ix_mono hp h
 ·have hl : sml s p = false := up.elim id (fun k => by rw [h1] at k; cases k)
  have hf := fr_sml h2
  rw [oKey_no hp h1, oKey_fr hq h2, kKey, ltL_cons] at h
  have a1 := (pos_large (cd := cd) hp hl).2
  have a2 := parts_le s (s.getD p 0)
  have a3 := (pos_first (cd := cd) h2).1
  rcases h with h | ⟨h, _⟩
  ·rcases dbl_lt.1 h with k | ⟨k, _, _⟩
   ·have := eN_bN (s := s) k
    have := parts_le s (s.getD q 0)
    omega
   ·rw [← k] at a3; omega
  ·have := (dbl_eq.1 h).2
   rw [hl, hf] at this; cases this
 ·have hl : sml s q = false := uq.elim id (fun k => by rw [h2] at k; cases k)
  have hf := fr_sml h1
  rw [oKey_fr hp h1, oKey_no hq h2, kKey, ltL_cons] at h
  have a1 := (pos_large (cd := cd) hq hl).1
  have a3 := (pos_first (cd := cd) h1).2
  rcases h with h | ⟨h, _⟩
  ·rcases dbl_lt.1 h with k | ⟨_, k, _⟩
   ·have := eN_bN (s := s) k
    omega
   ·rw [hf] at k; cases k
  ·have := (dbl_eq.1 h).2
   rw [hl, hf] at this; cases this
 ·rw [oKey_fr hp h1, oKey_fr hq h2, ltL_cons, ltL_cons] at h
  have a1 := (pos_first (cd := cd) h1).2
  have a2 := (pos_first (cd := cd) h2).1
  rcases h with h | ⟨h, h3 | ⟨_, h3⟩⟩
  ·rcases dbl_lt.1 h with k | ⟨_, k, _⟩
   ·have := eN_bN (s := s) k
    have := parts_le s (s.getD q 0)
    omega
   ·rw [fr_sml h1] at k; cases k
  ·have k := (dbl_eq.1 h).1
   have b1 := pos_fr (cd := cd) h1
   have b2 := pos_fr (cd := cd) h2
   rw [← k] at b2
   have := cN_lt (p := fun x => isFr s x && (decide (s.getD x 0 = s.getD p 0) && decide (cd q ≤ cd x))) (q := fun x => isFr s x && (decide (s.getD x 0 = s.getD p 0) && decide (cd p ≤ cd x))) (n := s.length) (a := p) (fun x _ hx => by
    simp only [Bool.and_eq_true, decide_eq_true_eq] at hx ⊢
    exact ⟨hx.1, hx.2.1, by omega⟩) hp (by
     have : ¬ cd q ≤ cd p := by omega
     simp [this]) (by simp [h1])
   omega
  ·exact absurd h3 (ltL_irrefl _)
theorem oKey_inj {s : List Int} {cd : Nat → Int} (hc : cdOk s cd) {p q : Nat} (hp : p < s.length) (hq : q < s.length) (up : inU s p) (uq : inU s q) (h : oKey s cd p = oKey s cd q) : p = q := by
 cases h1 : isFr s p <;> cases h2 : isFr s q
 ·rw [oKey_no hp h1, oKey_no hq h2] at h
  exact key_inj hc.1 hc.2 s.length p q (by omega) hp hq h
 ·have hl : sml s p = false := up.elim id (fun k => by rw [h1] at k; cases k)
  rw [oKey_no hp h1, oKey_fr hq h2, kKey] at h
  have := (dbl_eq.1 (List.cons.inj h).1).2
  rw [hl, fr_sml h2] at this; cases this
 ·have hl : sml s q = false := uq.elim id (fun k => by rw [h2] at k; cases k)
  rw [oKey_no hq h2, oKey_fr hp h1, kKey] at h
  have := (dbl_eq.1 (List.cons.inj h).1).2
  rw [hl, fr_sml h1] at this; cases this
 ·rw [oKey_fr hp h1, oKey_fr hq h2] at h
  exact hc.2 p q h1 h2 (by simpa using (List.cons.inj h).2)
theorem pos_iff {s : List Int} {cd : Nat → Int} (hc : cdOk s cd) {p q : Nat} (hp : p < s.length) (hq : q < s.length) (up : inU s p) (uq : inU s q) : posU s cd p < posU s cd q ↔ ltL (oKey s cd p) (oKey s cd q) := by
 refine ⟨fun h => ?_, pos_mono hp hq up uq⟩
 rcases ltL_tri (oKey s cd p) (oKey s cd q) with k | k | k
 ·exact k
 ·obtain rfl := oKey_inj hc hp hq up uq k; omega
 ·have := pos_mono hq hp uq up k; omega
theorem pos_inj {s : List Int} {cd : Nat → Int} (hc : cdOk s cd) {p q : Nat} (hp : p < s.length) (hq : q < s.length) (up : inU s p) (uq : inU s q) (h : posU s cd p = posU s cd q) : p = q := by
 rcases ltL_tri (oKey s cd p) (oKey s cd q) with k | k | k
 ·have := pos_mono hp hq up uq k; omega
 ·exact oKey_inj hc hp hq up uq k
 ·have := pos_mono hq hp uq up k; omega
theorem pos_rec {s : List Int} {cd : Nat → Int} (hc : cdOk s cd) {p : Nat} (hp : p + 1 < s.length) (h : sml s p = false) :
  posU s cd p = bN s (s.getD p 0) + cN s.length (fun x => !sml s x && (decide (s.getD x 0 = s.getD p 0) && (decide (x + 1 = s.length) || decide (posU s cd (x + 1) < posU s cd (p + 1))))) := by
 rw [pos_no (sml_no h), ix_parts h]
 congr 1
 refine cN_congr (fun x hx => ?_)
 cases h1 : sml s x
 ·by_cases h2 : s.getD x 0 = s.getD p 0
  ·have h3 : ltL (kKey s cd x) (kKey s cd p) ↔ ltL (oKey s cd (x + 1)) (oKey s cd (p + 1)) := by
    rw [kKey, kKey, ltL_cons]
    have e : dbl s x = dbl s p := dbl_eq.2 ⟨h2, by rw [h1, h]⟩
    rw [e]
    exact ⟨fun k => k.elim (fun k => absurd k (by omega)) (fun k => k.2), fun k => .inr ⟨rfl, k⟩⟩
   rw [Bool.eq_iff_iff]
   simp only [Bool.not_false, Bool.true_and, h2, decide_true, decide_eq_true_eq, Bool.or_eq_true, h3]
   by_cases h4 : x + 1 = s.length
   ·refine ⟨fun _ => .inl h4, fun _ => ?_⟩
    obtain ⟨t, ht⟩ := oKey_hd (cd := cd) hp
    have := dbl_pos hc.1 hp
    rw [oKey_end (by omega), ht, ltL_cons]
    exact .inl (by omega)
   ·rw [pos_iff hc (by omega) hp (inU_next h1) (inU_next h)]
    exact ⟨.inr, fun k => k.elim (fun k => absurd k h4) id⟩
  ·rw [decide_eq_false h2]; rfl
 ·rfl
theorem pos_last {s : List Int} {cd : Nat → Int} (hc : cdOk s cd) (h0 : 0 < s.length) : posU s cd (s.length - 1) = bN s (s.getD (s.length - 1) 0) := by
 have h : sml s (s.length - 1) = false := sml_last (by omega)
 rw [pos_no (sml_no h), ix_parts h, cN_zero]
 ·rfl
 ·intro x hx
  rw [Bool.eq_false_iff]
  simp only [ne_eq, Bool.and_eq_true, decide_eq_true_eq, Bool.not_eq_true', not_and]
  intro h1 h2 h3
  rw [kKey, kKey, ltL_cons, dbl_eq.2 ⟨h2, by rw [h1, h]⟩] at h3
  rcases h3 with h3 | ⟨_, h3⟩
  ·omega
  ·rw [oKey_end (show s.length ≤ s.length - 1 + 1 by omega)] at h3
   rcases Nat.lt_or_ge (x + 1) s.length with k | k
   ·obtain ⟨t, ht⟩ := oKey_hd (cd := cd) k
    have := dbl_pos hc.1 k
    rw [ht, ltL_cons] at h3
    rcases h3 with h3 | ⟨h3, _⟩ <;> omega
   ·rw [oKey_end k] at h3; exact ltL_irrefl _ h3
theorem pos_next {s : List Int} {cd : Nat → Int} (hc : cdOk s cd) {p : Nat} (hp : p + 1 < s.length) (h : sml s p = false) : posU s cd (p + 1) < posU s cd p := by
 refine pos_mono hp (by omega) (inU_next h) (.inl h) ?_
 rw [oKey_no (show p < s.length by omega) (sml_no h)]
 exact key_large hc.1 s.length p (by omega) (by omega) h
theorem ix_next {s : List Int} {cd : Nat → Int} {p : Nat} (h : sml s p = true) : ixK s cd p < ixK s cd (p + 1) :=
 ix_mono (by have := sml_in h; omega) (key_small s.length p (by omega) h)
theorem ix_rec {s : List Int} {cd : Nat → Int} (hc : cdOk s cd) {p : Nat} (h : sml s p = true) :
  ixK s cd p + 1 + cN s.length (fun x => sml s x && (decide (s.getD x 0 = s.getD p 0) && decide (ixK s cd (p + 1) < ixK s cd (x + 1)))) = eN s (s.getD p 0) := by
 have hp1 := sml_in h
 have hp : p < s.length := by omega
 have h1 : cN s.length (fun x => decide (ltL (kKey s cd x) (kKey s cd p)) || x == p) = ixK s cd p + 1 := cN_one hp (by simpa using ltL_irrefl _) (fun _ _ => rfl)
 have h2 : cN s.length (fun x => sml s x && (decide (s.getD x 0 = s.getD p 0) && decide (ixK s cd (p + 1) < ixK s cd (x + 1)))) = cN s.length (fun x => sml s x && (decide (s.getD x 0 = s.getD p 0) && decide (ltL (kKey s cd p) (kKey s cd x)))) := by
  refine cN_congr (fun x hx => ?_)
  cases k1 : sml s x
  ·rfl
  ·by_cases k2 : s.getD x 0 = s.getD p 0
   ·have kx := sml_in k1
    have k3 : ltL (kKey s cd p) (kKey s cd x) ↔ ltL (kKey s cd (p + 1)) (kKey s cd (x + 1)) := by
     rw [kKey, show kKey s cd x = dbl s x :: oKey s cd (x + 1) from rfl, ltL_cons, oKey_no hp1 (fr_not.2 (.inr h)), oKey_no kx (fr_not.2 (.inr k1))]
     have e : dbl s p = dbl s x := dbl_eq.2 ⟨k2.symm, by rw [k1, h]⟩
     rw [e]
     exact ⟨fun k => k.elim (fun k => absurd k (by omega)) (fun k => k.2), fun k => .inr ⟨rfl, k⟩⟩
    rw [Bool.eq_iff_iff]
    simp only [Bool.true_and, k2, decide_true, decide_eq_true_eq, k3, ix_iff hc hp1 kx]
   ·rw [decide_eq_false k2]; rfl
 rw [← h1, h2]
 unfold eN
 refine (cN_add (fun x hx hx1 => ?_) (fun x hx => ?_)).symm
 ·rw [Bool.eq_false_iff]
  simp only [Bool.or_eq_true, decide_eq_true_eq, beq_iff_eq] at hx1
  simp only [ne_eq, Bool.and_eq_true, decide_eq_true_eq, not_and]
  intro _ _ k
  rcases hx1 with k1 | rfl
  ·exact ltL_asymm k k1
  ·exact ltL_irrefl _ k
 ·rw [Bool.eq_iff_iff]
  simp only [Bool.or_eq_true, Bool.and_eq_true, decide_eq_true_eq, beq_iff_eq]
  constructor
  ·intro k
   rcases kKey_tri hc hx hp with k1 | k1 | k1
   ·exact .inl (.inl k1)
   ·exact .inl (.inr k1)
   ·have k2 := k1
    rw [kKey, kKey, ltL_cons] at k2
    rcases k2 with k2 | ⟨k2, _⟩
    ·rcases dbl_lt.1 k2 with k3 | ⟨_, k3, _⟩
     ·omega
     ·rw [h] at k3; cases k3
    ·have := dbl_eq.1 k2
     exact .inr ⟨by rw [← this.2, h], this.1.symm, k1⟩
  ·rintro ((k | rfl) | ⟨_, k, _⟩)
   ·rw [kKey, kKey, ltL_cons] at k
    rcases k with k | ⟨k, _⟩
    ·rcases dbl_lt.1 k with k | ⟨k, _⟩ <;> omega
    ·have := (dbl_eq.1 k).1; omega
   ·omega
   ·omega
structure RowI (n : Nat) (pos : Nat → Nat) (pl : Nat → Prop) (row : List Int) : Prop where
 len : row.length = n
 at_ : ∀ p, p < n → pl p → row.getD (pos p) 0 = (p : Int)
 or_ : ∀ q, q < n → row.getD q 0 = -1 ∨ ∃ p, p < n ∧ pl p ∧ pos p = q
theorem RowI.set {n : Nat} {pos : Nat → Nat} {pl pl' : Nat → Prop} {row : List Int} (h : RowI n pos pl row) {p : Nat} (hp : p < n) (hpos : pos p < n) (hne : ∀ x, x < n → pl x → x ≠ p → pos x ≠ pos p)
  (hpl : ∀ x, x < n → (pl' x ↔ pl x ∨ x = p)) : RowI n pos pl' (row.set (pos p) (p : Int)) := by
 refine ⟨by rw [List.length_set, h.len], fun x hx hx2 => ?_, fun q hq => ?_⟩
 ·rw [lset (by rw [h.len]; exact hpos)]
  by_cases e : x = p
  ·rw [e, if_pos rfl]
  ·have hx3 := ((hpl x hx).1 hx2).elim id (fun k => absurd k e)
   rw [if_neg (fun k => hne x hx hx3 e k.symm)]
   exact h.at_ x hx hx3
 ·rw [lset (by rw [h.len]; exact hpos)]
  by_cases e : pos p = q
  ·exact .inr ⟨p, hp, (hpl p hp).2 (.inr rfl), e⟩
  ·rw [if_neg e]
   rcases h.or_ q hq with k | ⟨x, k1, k2, k3⟩
   ·exact .inl k
   ·exact .inr ⟨x, k1, (hpl x k1).2 (.inl k2), k3⟩
theorem RowI.del {n : Nat} {pos : Nat → Nat} {pl pl' : Nat → Prop} {row : List Int} (h : RowI n pos pl row) {p : Nat} (hp : p < n) (hpos : pos p < n) (hne : ∀ x, x < n → pl x → x ≠ p → pos x ≠ pos p)
  (hpl : ∀ x, x < n → (pl' x ↔ pl x ∧ x ≠ p)) : RowI n pos pl' (row.set (pos p) (-1)) := by
 refine ⟨by rw [List.length_set, h.len], fun x hx hx2 => ?_, fun q hq => ?_⟩
 ·have hx3 := (hpl x hx).1 hx2
  rw [lset (by rw [h.len]; exact hpos), if_neg (fun k => hne x hx hx3.1 hx3.2 k.symm)]
  exact h.at_ x hx hx3.1
 ·rw [lset (by rw [h.len]; exact hpos)]
  by_cases e : pos p = q
  ·exact .inl (if_pos e)
  ·rw [if_neg e]
   rcases h.or_ q hq with k | ⟨x, k1, k2, k3⟩
   ·exact .inl k
   ·exact .inr ⟨x, k1, (hpl x k1).2 ⟨k2, fun k => e (by rw [← k, k3])⟩, k3⟩
theorem RowI.congr {n : Nat} {pos pos' : Nat → Nat} {pl pl' : Nat → Prop} {row : List Int} (h : RowI n pos pl row) (hpl : ∀ x, x < n → (pl' x ↔ pl x)) (hpos : ∀ x, x < n → pl x → pos' x = pos x) : RowI n pos' pl' row :=
 ⟨h.len, fun p hp hp2 => by rw [hpos p hp ((hpl p hp).1 hp2)]; exact h.at_ p hp ((hpl p hp).1 hp2), fun q hq => (h.or_ q hq).imp id (fun ⟨p, k1, k2, k3⟩ => ⟨p, k1, (hpl p k1).2 k2, by rw [hpos p k1 k2, k3]⟩)⟩
theorem RowI.read {n : Nat} {pos : Nat → Nat} {pl : Nat → Prop} {row : List Int} (h : RowI n pos pl row) {q : Nat} (hq : q < n) : row.getD q 0 = -1 ∨ ∃ p : Nat, p < n ∧ pl p ∧ pos p = q ∧ row.getD q 0 = (p : Int) := by
 rcases h.or_ q hq with k | ⟨x, k1, k2, k3⟩
 ·exact .inl k
 ·exact .inr ⟨x, k1, k2, k3, by rw [← k3]; exact h.at_ x k1 k2⟩
theorem RowI.whole {s : List Int} {cd : Nat → Int} (hc : cdOk s cd) {row : List Int} (h : RowI s.length (ixK s cd) (fun _ => True) row) :
  row.length = s.length ∧ (∀ x ∈ row, 0 ≤ x ∧ x < (s.length : Int)) ∧ row.Pairwise (fun x y => ltL (kKey s cd x.toNat) (kKey s cd y.toNat)) := by
 have hat : ∀ i, i < s.length → ∃ p : Nat, p < s.length ∧ ixK s cd p = i ∧ row.getD i 0 = (p : Int) := fun i hi => by
  obtain ⟨p, k1, k2⟩ := ix_onto hc hi
  exact ⟨p, k1, k2, by rw [← k2]; exact h.at_ p k1 trivial⟩
 refine ⟨h.len, fun x hx => ?_, List.pairwise_iff_getElem.2 fun i j hi hj hij => ?_⟩
 ·obtain ⟨i, hi, rfl⟩ := List.getElem_of_mem hx
  obtain ⟨p, k1, k2, k3⟩ := hat i (by rw [← h.len]; exact hi)
  rw [List.getD_eq_getElem?_getD, List.getElem?_eq_getElem hi, Option.getD_some] at k3
  omega
 ·obtain ⟨p, k1, k2, k3⟩ := hat i (by rw [← h.len]; exact hi)
  obtain ⟨q, l1, l2, l3⟩ := hat j (by rw [← h.len]; exact hj)
  rw [List.getD_eq_getElem?_getD, List.getElem?_eq_getElem hi, Option.getD_some] at k3
  rw [List.getD_eq_getElem?_getD, List.getElem?_eq_getElem hj, Option.getD_some] at l3
  rw [k3, l3, Int.toNat_natCast, Int.toNat_natCast]
  exact (ix_iff hc k1 l1).1 (by omega)
end Go.Proofs.YtbbpplnnegdenaaGreat.MM
namespace Go.Proofs.YtbbpplnnegdenaaGreat.MM
def kZ (s : List Int) (i : Nat) : List Int := kKey s (fun _ => 0) i
theorem key_same {s : List Int} (hs : ∀ x ∈ s, 0 ≤ x) {cd cd' : Nat → Int} : ∀ (d x y X : Nat), X = x + d + 1 → X < s.length → y < s.length → isFr s X = true → (∀ z, x < z → z < X → isFr s z = false) → kKey s cd x = kKey s cd' y →
  y + d + 1 < s.length ∧ isFr s (y + d + 1) = true ∧ (∀ z, y < z → z < y + d + 1 → isFr s z = false) ∧ (∀ t, t ≤ d + 1 → s.getD (x + t) 0 = s.getD (y + t) 0) ∧ cd X = cd' (y + d + 1) := by
 intro d
 induction d with
 | zero =>
   intro x y X hX hXn hy hf hno h
   obtain rfl : X = x + 1 := by omega
   rw [kKey, kKey] at h
   obtain ⟨h1, h2⟩ := List.cons.inj h
   have h3 := dbl_eq.1 h1
   rcases Nat.lt_or_ge (y + 1) s.length with hy1 | hy1
   ·rcases key_tail (cd := cd) (cd' := cd') hXn hy1 h3.2 with ⟨a1, a2, a3, a4⟩ | ⟨a1, a2, a3, a4⟩ | ⟨a1, t, t', a3, a4⟩
    ·rw [a3, a4] at h2
     obtain ⟨b1, b2⟩ := List.cons.inj h2
     refine ⟨hy1, a2, fun z z1 z2 => by omega, fun t ht => ?_, by simpa using b2⟩
     have : t = 0 ∨ t = 1 := by omega
     rcases this with rfl | rfl
     ·exact h3.1
     ·exact (dbl_eq.1 b1).1
    ·rw [a1] at hf; cases hf
    ·rw [a3, a4] at h2
     exact absurd (dbl_eq.1 (List.cons.inj h2).1).2 a1
   ·rw [oKey_fr hXn hf, oKey_end hy1] at h2
    have := dbl_pos hs hXn
    have := (List.cons.inj h2).1
    omega
 | succ d ih =>
   intro x y X hX hXn hy hf hno h
   rw [kKey, kKey] at h
   obtain ⟨h1, h2⟩ := List.cons.inj h
   have h3 := dbl_eq.1 h1
   have hx1 : x + 1 < s.length := by omega
   have hnf := hno (x + 1) (by omega) (by omega)
   rcases Nat.lt_or_ge (y + 1) s.length with hy1 | hy1
   ·rcases key_tail (cd := cd) (cd' := cd') hx1 hy1 h3.2 with ⟨a1, a2, a3, a4⟩ | ⟨a1, a2, a3, a4⟩ | ⟨a1, t, t', a3, a4⟩
    ·rw [a1] at hnf; cases hnf
    ·rw [a3, a4] at h2
     obtain ⟨b1, b2, b3, b4, b5⟩ := ih (x + 1) (y + 1) X (by omega) hXn hy1 hf (fun z z1 z2 => hno z (by omega) z2) h2
     have e : y + (d + 1) + 1 = y + 1 + d + 1 := by omega
     rw [e]
     refine ⟨b1, b2, fun z z1 z2 => ?_, fun t ht => ?_, b5⟩
     ·by_cases ez : z = y + 1
      ·rw [ez]; exact a2
      ·exact b3 z (by omega) z2
     ·cases t with
      | zero => exact h3.1
      | succ t =>
        have := b4 t (by omega)
        rwa [show x + 1 + t = x + (t + 1) by omega, show y + 1 + t = y + (t + 1) by omega] at this
    ·rw [a3, a4] at h2
     exact absurd (dbl_eq.1 (List.cons.inj h2).1).2 a1
   ·obtain ⟨t, ht⟩ := oKey_hd (cd := cd) hx1
    rw [ht, oKey_end hy1] at h2
    have := dbl_pos hs hx1
    have := (List.cons.inj h2).1
    omega
theorem key_lone {s : List Int} (hs : ∀ x ∈ s, 0 ≤ x) {cd cd' : Nat → Int} : ∀ (d x y : Nat), s.length - x ≤ d → x < s.length → y < s.length → (∀ z, x < z → isFr s z = false) → kKey s cd x = kKey s cd' y → x = y := by
 intro d
 induction d with
 | zero => intro x y hd hx; omega
 | succ d ih =>
   intro x y hd hx hy hno h
   rw [kKey, kKey] at h
   obtain ⟨h1, h2⟩ := List.cons.inj h
   have h3 := dbl_eq.1 h1
   rcases Nat.lt_or_ge (x + 1) s.length with hx1 | hx1
   ·have hnf := hno (x + 1) (by omega)
    rcases Nat.lt_or_ge (y + 1) s.length with hy1 | hy1
    ·rcases key_tail (cd := cd) (cd' := cd') hx1 hy1 h3.2 with ⟨a1, a2, a3, a4⟩ | ⟨a1, a2, a3, a4⟩ | ⟨a1, t, t', a3, a4⟩
     ·rw [a1] at hnf; cases hnf
     ·rw [a3, a4] at h2
      have := ih (x + 1) (y + 1) (by omega) hx1 hy1 (fun z hz => hno z (by omega)) h2
      omega
     ·rw [a3, a4] at h2
      exact absurd (dbl_eq.1 (List.cons.inj h2).1).2 a1
    ·obtain ⟨t, ht⟩ := oKey_hd (cd := cd) hx1
     rw [ht, oKey_end hy1] at h2
     have := dbl_pos hs hx1
     have := (List.cons.inj h2).1
     omega
   ·rcases Nat.lt_or_ge (y + 1) s.length with hy1 | hy1
    ·obtain ⟨t, ht⟩ := oKey_hd (cd := cd') hy1
     rw [ht, oKey_end hx1] at h2
     have := dbl_pos hs hy1
     have := (List.cons.inj h2).1
     omega
    ·omega
theorem sml_back {s : List Int} {x y L : Nat} (hx : x + L < s.length) (hy : y + L < s.length) (he : ∀ t, t ≤ L → s.getD (x + t) 0 = s.getD (y + t) 0) (hk : sml s (x + L) = sml s (y + L)) : ∀ (d t : Nat), t + d = L → sml s (x + t) = sml s (y + t) := by
 intro d
 induction d with
 | zero => intro t ht; obtain rfl : t = L := by omega
           exact hk
 | succ d ih =>
   intro t ht
   have h1 := ih (t + 1) (by omega)
   have e0 := he t (by omega)
   have e1 := he (t + 1) (by omega)
   rw [Bool.eq_iff_iff, sml_fact (show x + t + 1 < s.length by omega), sml_fact (show y + t + 1 < s.length by omega)]
   rw [show x + t + 1 = x + (t + 1) by omega, show y + t + 1 = y + (t + 1) by omega, h1, e0, e1]
theorem key_of_piece {s : List Int} {cd cd' : Nat → Int} : ∀ (d x y : Nat), x + d + 1 < s.length → y + d + 1 < s.length → isFr s (x + d + 1) = true → isFr s (y + d + 1) = true → (∀ z, x < z → z < x + d + 1 → isFr s z = false) → (∀ z, y < z → z < y + d + 1 → isFr s z = false) →
  (∀ t, t ≤ d + 1 → s.getD (x + t) 0 = s.getD (y + t) 0) → cd (x + d + 1) = cd' (y + d + 1) → kKey s cd x = kKey s cd' y := by
 intro d x y hx hy fx fy nx ny he hc
 have hk : ∀ t, t ≤ d + 1 → sml s (x + t) = sml s (y + t) := fun t ht =>
  sml_back (x := x) (y := y) (L := d + 1) (by omega) (by omega) he (by rw [show x + (d + 1) = x + d + 1 by omega, show y + (d + 1) = y + d + 1 by omega, fr_sml fx, fr_sml fy]) (d + 1 - t) t (by omega)
 have hdb : ∀ t, t ≤ d + 1 → dbl s (x + t) = dbl s (y + t) := fun t ht => dbl_eq.2 ⟨he t ht, hk t ht⟩
 have go : ∀ (m t : Nat), t + m = d → kKey s cd (x + t) = kKey s cd' (y + t) := by
  intro m
  induction m with
  | zero =>
    intro t ht
    obtain rfl : t = d := by omega
    rw [kKey, kKey, hdb t (by omega), oKey_fr (by omega) fx, oKey_fr (by omega) fy, hc]
    have := hdb (t + 1) (by omega)
    rw [show x + t + 1 = x + (t + 1) by omega, show y + t + 1 = y + (t + 1) by omega, this]
  | succ m ih =>
    intro t ht
    rw [kKey, kKey, hdb t (by omega), oKey_no (by omega) (nx (x + t + 1) (by omega) (by omega)), oKey_no (by omega) (ny (y + t + 1) (by omega) (by omega))]
    have := ih (t + 1) (by omega)
    rw [show x + t + 1 = x + (t + 1) by omega, show y + t + 1 = y + (t + 1) by omega, this]
 exact go d 0 (by omega)
theorem sN_pre {s : List Int} : ∀ (L x y : Nat), x + L ≤ s.length → y + L ≤ s.length → (∀ t, t < L → s.getD (x + t) 0 = s.getD (y + t) 0) → sN s (x + L) (y + L) → sN s x y := by
 intro L
 induction L with
 | zero => intro x y _ _ _ h; exact h
 | succ L ih =>
   intro x y hx hy he h
   refine (sN_step (by omega) (by omega)).2 (.inr ⟨he 0 (by omega), ih (x + 1) (y + 1) (by omega) (by omega) (fun t ht => ?_) ?_⟩)
   ·have := he (t + 1) (by omega)
    rwa [show x + 1 + t = x + (t + 1) by omega, show y + 1 + t = y + (t + 1) by omega]
   ·rwa [show x + 1 + L = x + (L + 1) by omega, show y + 1 + L = y + (L + 1) by omega]
theorem frs_iff {s : List Int} {x : Int} : x ∈ frs s s.length ↔ ∃ i : Nat, x = i ∧ isFr s i = true := by
 constructor
 ·intro h
  unfold frs at h
  obtain ⟨i, hi, rfl⟩ := List.mem_map.1 h
  exact ⟨i, rfl, (List.mem_filter.1 hi).2⟩
 ·rintro ⟨i, rfl, h⟩
  unfold frs
  exact List.mem_map.2 ⟨i, List.mem_filter.2 ⟨List.mem_range.2 (fr_in h), h⟩, rfl⟩
def fp (s : List Int) (i : Nat) : Nat := ((frs s s.length).getD i 0).toNat
theorem fp_get {s : List Int} {i : Nat} (h : i < (frs s s.length).length) : (frs s s.length).getD i 0 = (fp s i : Int) ∧ isFr s (fp s i) = true := by
 obtain ⟨j, h1, h2⟩ := frs_iff.1 (getD_mem h)
 unfold fp
 rw [h1, Int.toNat_natCast]
 exact ⟨rfl, h2⟩
theorem fp_rises {s : List Int} {i j : Nat} (hij : i < j) (hj : j < (frs s s.length).length) : fp s i < fp s j := by
 have h1 := pair_getD (frs_apart s s.length) hij hj
 rw [(fp_get (by omega)).1, (fp_get hj).1] at h1
 omega
theorem fp_of {s : List Int} {z : Nat} (h : isFr s z = true) : ∃ q, q < (frs s s.length).length ∧ fp s q = z := by
 have hm : (z : Int) ∈ frs s s.length := frs_iff.2 ⟨z, rfl, h⟩
 refine ⟨(frs s s.length).idxOf (z : Int), List.idxOf_lt_length_of_mem hm, ?_⟩
 unfold fp; rw [idxOf_getD hm, Int.toNat_natCast]
theorem fp_gap {s : List Int} {i : Nat} (h : i + 1 < (frs s s.length).length) : ∀ z, fp s i < z → z < fp s (i + 1) → isFr s z = false := by
 intro z h1 h2
 cases hz : isFr s z
 ·rfl
 ·obtain ⟨q, hq, rfl⟩ := fp_of hz
  have : ¬ q ≤ i := fun hqi => by
   rcases Nat.lt_or_ge q i with k | k
   ·have := fp_rises k (show i < (frs s s.length).length by omega); omega
   ·obtain rfl : q = i := by omega
    omega
  have : ¬ i + 1 ≤ q := fun hqi => by
   rcases Nat.lt_or_ge (i + 1) q with k | k
   ·have := fp_rises k hq; omega
   ·obtain rfl : q = i + 1 := by omega
    omega
  omega
theorem fp_last {s : List Int} {i : Nat} (h : i + 1 = (frs s s.length).length) : ∀ z, fp s i < z → isFr s z = false := by
 intro z h1
 cases hz : isFr s z
 ·rfl
 ·obtain ⟨q, hq, rfl⟩ := fp_of hz
  rcases Nat.lt_or_ge q i with k | k
  ·have := fp_rises k (show i < (frs s s.length).length by omega); omega
  ·obtain rfl : q = i := by omega
   omega
theorem fp_alike {s : List Int} (hs : ∀ x ∈ s, 0 ≤ x) {i j : Nat} (hi : i < (frs s s.length).length) (hj : j < (frs s s.length).length) (hij : i ≠ j) (h : kZ s (fp s i) = kZ s (fp s j)) :
  i + 1 < (frs s s.length).length ∧ j + 1 < (frs s s.length).length ∧ fp s (i + 1) + fp s j = fp s (j + 1) + fp s i ∧ ∀ t, t ≤ fp s (i + 1) - fp s i → s.getD (fp s i + t) 0 = s.getD (fp s j + t) 0 := by
 have fi := (fp_get hi).2
 have fj := (fp_get hj).2
 have hne : fp s i ≠ fp s j := fun e => by
  rcases Nat.lt_or_ge i j with k | k
  ·have := fp_rises k hj; omega
  ·have := fp_rises (show j < i by omega) hi; omega
 have hi1 : i + 1 < (frs s s.length).length := by
  rcases Nat.lt_or_ge (i + 1) (frs s s.length).length with k | k
  ·exact k
  ·exact absurd (key_lone hs s.length _ _ (by omega) (fr_in fi) (fr_in fj) (fp_last (by omega)) h) hne
 have hj1 : j + 1 < (frs s s.length).length := by
  rcases Nat.lt_or_ge (j + 1) (frs s s.length).length with k | k
  ·exact k
  ·exact absurd (key_lone hs s.length _ _ (by omega) (fr_in fj) (fr_in fi) (fp_last (by omega)) h.symm).symm hne
 have hlt := fp_rises (show i < i + 1 by omega) hi1
 have hlt2 := fp_rises (show j < j + 1 by omega) hj1
 have fX := (fp_get hi1).2
 have fY := (fp_get hj1).2
 obtain ⟨b1, b2, b3, b4, _⟩ := key_same hs (fp s (i + 1) - fp s i - 1) (fp s i) (fp s j) (fp s (i + 1)) (by omega) (fr_in fX) (fr_in fj) fX (fp_gap hi1) h
 have hY : fp s j + (fp s (i + 1) - fp s i - 1) + 1 = fp s (j + 1) := by
  rcases Nat.lt_trichotomy (fp s j + (fp s (i + 1) - fp s i - 1) + 1) (fp s (j + 1)) with k | k | k
  ·have := fp_gap hj1 _ (by omega) k
   rw [b2] at this; cases this
  ·exact k
  ·have := b3 (fp s (j + 1)) hlt2 k
   rw [fY] at this; cases this
 refine ⟨hi1, hj1, by omega, fun t ht => b4 t (by omega)⟩
theorem fp_alike_of {s : List Int} {i j : Nat} (hi : i + 1 < (frs s s.length).length) (hj : j + 1 < (frs s s.length).length) (hl : fp s (i + 1) + fp s j = fp s (j + 1) + fp s i) (he : ∀ t, t ≤ fp s (i + 1) - fp s i → s.getD (fp s i + t) 0 = s.getD (fp s j + t) 0) :
  kZ s (fp s i) = kZ s (fp s j) := by
 have hlt := fp_rises (show i < i + 1 by omega) hi
 have hlt2 := fp_rises (show j < j + 1 by omega) hj
 have fX := (fp_get hi).2
 have fY := (fp_get hj).2
 obtain ⟨d, hd⟩ : ∃ d, fp s (i + 1) = fp s i + d + 1 := ⟨fp s (i + 1) - fp s i - 1, by omega⟩
 have hd2 : fp s (j + 1) = fp s j + d + 1 := by omega
 rw [hd] at fX
 rw [hd2] at fY
 exact key_of_piece d _ _ (fr_in fX) (fr_in fY) fX fY (fun z z1 z2 => fp_gap hi z z1 (by omega)) (fun z z1 z2 => fp_gap hj z z1 (by omega)) (fun t ht => he t (by omega)) rfl
def namesOk (s : List Int) (nm : Nat → Int) (P : Nat → Prop) : Prop := ∀ x y, P x → P y → (kZ s x = kZ s y → nm x = nm y) ∧ (ltL (kZ s x) (kZ s y) → nm x < nm y)
theorem kZ_suf {s : List Int} (hs : ∀ x ∈ s, 0 ≤ x) {x y : Nat} (hx : x < s.length) (hy : y < s.length) (h : ltL (kZ s x) (kZ s y)) : sN s x y :=
 key_suf hs (fun a b _ _ h => by omega) s.length x y (by omega) hx hy h
theorem names_suf {s : List Int} (hs : ∀ x ∈ s, 0 ≤ x) {nm : Nat → Int} (hn : namesOk s nm (fun x => isFr s x = true)) {N : List Int} (hN : N.length = (frs s s.length).length) (hg : ∀ i, i < N.length → N.getD i 0 = nm (fp s i)) :
  ∀ (d i j : Nat), N.length - i ≤ d → i < N.length → j < N.length → sN N i j → sN s (fp s i) (fp s j) := by
 intro d
 induction d with
 | zero => intro i j hd hi; omega
 | succ d ih =>
   intro i j hd hi hj h
   have fi := (fp_get (s := s) (i := i) (by omega)).2
   have fj := (fp_get (s := s) (i := j) (by omega)).2
   have h1 := (hn _ _ fi fj)
   have h2 := (hn _ _ fj fi)
   have hs1 := (sN_step hi hj).1 h
   rw [hg i hi, hg j hj] at hs1
   rcases ltL_tri (kZ s (fp s i)) (kZ s (fp s j)) with k | k | k
   ·exact kZ_suf hs (fr_in fi) (fr_in fj) k
   ·have e := h1.1 k
    rcases hs1 with hs1 | ⟨_, hs1⟩
    ·omega
    ·have hij : i ≠ j := fun e => by subst e; exact ltL_irrefl _ hs1
     obtain ⟨a1, a2, a3, a4⟩ := fp_alike hs (by omega) (by omega) hij k
     have := ih (i + 1) (j + 1) (by omega) (by omega) (by omega) hs1
     have l1 := fp_rises (s := s) (show i < i + 1 by omega) a1
     have l2 := fp_rises (s := s) (show j < j + 1 by omega) a2
     have fX := fr_in (fp_get a1).2
     have fY := fr_in (fp_get a2).2
     refine sN_pre (fp s (i + 1) - fp s i) _ _ (by omega) (by omega) (fun t ht => a4 t (by omega)) ?_
     rwa [show fp s i + (fp s (i + 1) - fp s i) = fp s (i + 1) by omega, show fp s j + (fp s (i + 1) - fp s i) = fp s (j + 1) by omega]
   ·have := h2.2 k
    rcases hs1 with hs1 | hs1 <;> omega
structure NmI (s : List Int) (P : Nat → Prop) (nm : List Int) (n last : Int) : Prop where
 len : nm.length = s.length
 rng : ∀ x, P x → 0 ≤ nm.getD x 0 ∧ nm.getD x 0 ≤ n
 ok : namesOk s (fun x => nm.getD x 0) P
 lst : (last = -1 ∧ n = 0 ∧ ∀ x, ¬ P x) ∨ ∃ l : Nat, last = l ∧ P l ∧ nm.getD l 0 = n ∧ ∀ x, P x → ¬ ltL (kZ s l) (kZ s x)
theorem NmI.add {s : List Int} {P P' : Nat → Prop} {nm : List Int} {n last : Int} (h : NmI s P nm n last) {z : Nat} (hz : z < s.length) (hzP : ¬ P z) (hw : ∀ x, P x → ¬ ltL (kZ s z) (kZ s x)) (h0 : 0 ≤ n) {b : Bool}
  (hb0 : last = -1 → b = false) (hb : ∀ l : Nat, last = (l : Int) → P l → (b = true ↔ kZ s l ≠ kZ s z)) (hP : ∀ x, P' x ↔ P x ∨ x = z) : NmI s P' (nm.set z (if b = true then n + 1 else n)) (if b = true then n + 1 else n) (z : Int) := by
 have hne : ∀ x, P x → (nm.set z (if b = true then n + 1 else n)).getD x 0 = nm.getD x 0 := fun x hx => lset_ne (fun e => hzP (by rw [e]; exact hx))
 have hself : (nm.set z (if b = true then n + 1 else n)).getD z 0 = if b = true then n + 1 else n := lset_self (by rw [h.len]; exact hz)
 have key : ∀ x, P x → (kZ s x = kZ s z → nm.getD x 0 = if b = true then n + 1 else n) ∧ (ltL (kZ s x) (kZ s z) → nm.getD x 0 < if b = true then n + 1 else n) := fun x hx => by
  rcases h.lst with ⟨_, _, h3⟩ | ⟨l, h1, h2, h3, h4⟩
  ·exact absurd hx (h3 x)
  ·have hbl := hb l h1 h2
   have hx2 := (h.rng x hx).2
   have hxl := h.ok x l hx h2
   dsimp only at hxl
   cases hbb : b
   ·have e : kZ s l = kZ s z := by
     rw [hbb] at hbl
     by_cases e : kZ s l = kZ s z
     ·exact e
     ·exact absurd (hbl.2 e) (by simp)
    rw [if_neg (by simp), ← e, ← h3]
    exact hxl
   ·rw [hbb] at hbl
    have e := hbl.1 rfl
    rw [if_pos rfl]
    have hlt : ltL (kZ s l) (kZ s z) := by
     rcases ltL_tri (kZ s l) (kZ s z) with k | k | k
     ·exact k
     ·exact absurd k e
     ·exact absurd k (hw l h2)
    refine ⟨fun k => ?_, fun _ => by omega⟩
    rw [← k] at hlt
    exact absurd hlt (h4 x hx)
 refine ⟨by rw [List.length_set, h.len], fun x hx => ?_, fun x y hx hy => ?_, .inr ⟨z, rfl, (hP z).2 (.inr rfl), hself, fun x hx => ?_⟩⟩
 ·rcases (hP x).1 hx with hx | rfl
  ·rw [hne x hx]
   have := h.rng x hx
   refine ⟨this.1, ?_⟩
   split <;> omega
  ·rw [hself]
   refine ⟨?_, by omega⟩
   split <;> omega
 ·rcases (hP x).1 hx with hx | rfl
  ·rcases (hP y).1 hy with hy | rfl
   ·dsimp only
    rw [hne x hx, hne y hy]
    exact h.ok x y hx hy
   ·dsimp only
    rw [hne x hx, hself]
    exact key x hx
  ·rcases (hP y).1 hy with hy | rfl
   ·dsimp only
    rw [hne y hy, hself]
    exact ⟨fun k => ((key y hy).1 k.symm).symm, fun k => absurd k (hw y hy)⟩
   ·exact ⟨fun _ => rfl, fun k => absurd k (ltL_irrefl _)⟩
 ·rcases (hP x).1 hx with hx | rfl
  ·exact hw x hx
  ·exact ltL_irrefl _
theorem NmI.congr {s : List Int} {P P' : Nat → Prop} {nm : List Int} {n last : Int} (h : NmI s P nm n last) (hP : ∀ x, P' x ↔ P x) : NmI s P' nm n last := by
 obtain rfl : P' = P := funext fun x => propext (hP x)
 exact h
theorem isSA_of_keys {s r : List Int} {cd : Nat → Int} (hs : ∀ x ∈ s, 0 ≤ x) (hl : r.length = s.length) (hr : ∀ x ∈ r, 0 ≤ x ∧ x < (s.length : Int)) (hp : r.Pairwise (fun x y => ltL (kKey s cd x.toNat) (kKey s cd y.toNat)))
  (hc : ∀ a b, isFr s a = true → isFr s b = true → cd a < cd b → sN s a b) : IsSA s r := by
 refine ⟨hl, hr, List.Pairwise.imp_of_mem (fun {x y} hx hy h => ?_) hp⟩
 have h1 := hr x hx
 have h2 := hr y hy
 exact key_suf hs hc s.length _ _ (by omega) (by omega) (by omega) h
end Go.Proofs.YtbbpplnnegdenaaGreat.MM
namespace Go.Proofs.YtbbpplnnegdenaaGreat.PrintWords
open Go Go.ChangeShapes Go.WideShapes
theorem sized_ints {H : Type} {enc : TypeId × Value → H} {P : Program} {W : World} {base : Nat} {spare : Nat → Bool} {held : Bool} {t e : TypeId} {k : IntKind} {a : Option Addr} {len cap : Nat} {d : DataW H} {ps : List MemPlace} {ts : List TypeId} {ds : List (DataW H)} {j : Nat}
  (hsz : (DataW.weightsEach P ts ds).all (· ≤ reachBytes) = true) (ht : ts[j]? = some t) (hd : ds[j]? = some d) (hu : P.underlying t = some (.slice e)) (he : P.underlying e = some (.int k)) (hc : P.cellsOf e = 1) {B : Nat} (hB : P.bytesOf e = B)
  (h : DataW.Trod enc P W base spare held t (.slice a len cap) d ps) : len * B ≤ 140737488351232 :=
 Go.Proofs.YtbbpplnnegdenaaGreatW.PrintWords.sized_ints hsz ht hd hu he hc hB h
end Go.Proofs.YtbbpplnnegdenaaGreat.PrintWords
end
