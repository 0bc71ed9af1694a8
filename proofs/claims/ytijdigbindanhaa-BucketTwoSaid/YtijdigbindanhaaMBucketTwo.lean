/- Plain mathematics for BucketTwo: lists, orders, no program in sight. -/
import Derived.Test.YtijdigbindanhaaWWords
import Derived.Test.YtijdigbindanhaaWSized
set_option linter.unusedVariables false
set_option linter.unusedSimpArgs false
/-! Words over the print: rounds, wraps, reads by number. -/
namespace Go.Proofs.Ytijdigbindanhaa.MM
open Go.RowKit Go.Proofs.YtijdigbindanhaaW.PrintWords

theorem wrap64_id {x : Int} (h0 : -9223372036854775808 ≤ x) (h1 : x < 9223372036854775808) : wrap64 x = x := by
  unfold wrap64; omega

theorem wrap_nat {i n : Nat} (h : i < n) (hn : n ≤ 140737488355328) : wrap64 ((i : Int) + 1) = ((i + 1 : Nat) : Int) := by
  rw [wrap64_id (by omega) (by omega)]; omega

theorem rd_nat (xs : List Int) (i : Nat) : rd xs (i : Int) = xs.getD i 0 := by simp [rd]

theorem rdB_nat (xs : List Bool) (i : Nat) : rdOf false xs (i : Int) = xs.getD i false := by simp [rdOf]

theorem wf_i64 {x : Int} (h : (Go.Lit.int .i64 x).wf = true) : -9223372036854775808 ≤ x ∧ x ≤ 9223372036854775807 := by
  simp only [Go.Lit.wf, Bool.and_eq_true, decide_eq_true_eq] at h
  exact h

theorem wf_u8 {x : Int} (h : (Go.Lit.int .u8 x).wf = true) : 0 ≤ x ∧ x ≤ 255 := by
  simp only [Go.Lit.wf, Bool.and_eq_true, decide_eq_true_eq] at h
  exact h

theorem Ev.at_ {α : Type} {g : Nat → Option α} {r : α} (k : Nat) (h : ∀ j, g (j + k) = some r) : Ev g r :=
  ⟨k, fun j hj => by obtain ⟨m, rfl⟩ : ∃ m, j = m + k := ⟨j - k, by omega⟩; exact h m⟩

theorem Ev.same {α : Type} {g : Nat → Option α} {r r' : α} (h : Ev g r) (h' : Ev g r') : r = r' := by
  obtain ⟨K, h⟩ := h
  obtain ⟨K', h'⟩ := h'
  have h1 := h (max K K') (by omega)
  rw [h' (max K K') (by omega)] at h1
  exact (Option.some.inj h1).symm

theorem lset_self {α : Type} {l : List α} {i : Nat} {v d : α} (h : i < l.length) : (l.set i v).getD i d = v := by
  rw [List.getD_eq_getElem?_getD, List.getElem?_set_self h]; rfl

theorem lset_ne {α : Type} {l : List α} {i j : Nat} {v d : α} (h : i ≠ j) : (l.set i v).getD j d = l.getD j d := by
  rw [List.getD_eq_getElem?_getD, List.getElem?_set_ne h, ← List.getD_eq_getElem?_getD]

theorem lset {α : Type} {l : List α} {i j : Nat} {v d : α} (h : i < l.length) : (l.set i v).getD j d = if i = j then v else l.getD j d := by
  by_cases e : i = j
  · subst e; rw [lset_self h, if_pos rfl]
  · rw [lset_ne e, if_neg e]

theorem getD_replicate {α : Type} {n i : Nat} {v : α} : (List.replicate n v).getD i v = v := by
  rw [List.getD_eq_getElem?_getD, List.getElem?_replicate]; split <;> rfl

theorem take_next {l : List Int} {i : Nat} (h : i < l.length) : l.take (i + 1) = l.take i ++ [l.getD i 0] := by
  rw [List.take_succ_eq_append_getElem h, List.getD_eq_getElem?_getD, List.getElem?_eq_getElem h]; rfl

end Go.Proofs.Ytijdigbindanhaa.MM

/-! Base: lexicographic comparison of lists of numbers; reads by number. -/
namespace Go.Proofs.Ytijdigbindanhaa.MM

def cmpL : List Int → List Int → Int
  | [], [] => 0
  | [], _ :: _ => -1
  | _ :: _, [] => 1
  | a :: as, b :: bs => if a < b then -1 else if b < a then 1 else cmpL as bs

theorem cmpL_vals : ∀ a b : List Int, cmpL a b = -1 ∨ cmpL a b = 0 ∨ cmpL a b = 1
  | [], [] => by simp [cmpL]
  | [], _ :: _ => by simp [cmpL]
  | _ :: _, [] => by simp [cmpL]
  | a :: as, b :: bs => by
    have := cmpL_vals as bs
    simp only [cmpL]; split
    · simp
    · split <;> simp [*]

theorem cmpL_self : ∀ a : List Int, cmpL a a = 0
  | [] => by simp [cmpL]
  | a :: as => by simp [cmpL, cmpL_self as]

theorem cmpL_anti : ∀ a b : List Int, cmpL b a = - cmpL a b
  | [], [] => by simp [cmpL]
  | [], _ :: _ => by simp [cmpL]
  | _ :: _, [] => by simp [cmpL]
  | a :: as, b :: bs => by
    have := cmpL_anti as bs
    simp only [cmpL]
    by_cases h1 : a < b
    · have : ¬ b < a := by omega
      simp [*]
    · by_cases h2 : b < a <;> simp [*]

theorem cmpL_eq : ∀ {a b : List Int}, cmpL a b = 0 → a = b
  | [], [], _ => rfl
  | [], _ :: _, h => by simp [cmpL] at h
  | _ :: _, [], h => by simp [cmpL] at h
  | a :: as, b :: bs, h => by
    simp only [cmpL] at h
    by_cases h1 : a < b
    · simp [h1] at h
    · by_cases h2 : b < a
      · simp [h1, h2] at h
      · simp [h1, h2] at h
        have := cmpL_eq h
        have : a = b := by omega
        simp [*]

theorem cmpL_zero {a b : List Int} : cmpL a b = 0 ↔ a = b := ⟨cmpL_eq, fun h => by rw [h, cmpL_self]⟩

/-- less -/
def ltL (a b : List Int) : Prop := cmpL a b = -1

instance (a b : List Int) : Decidable (ltL a b) := by unfold ltL; infer_instance

theorem ltL_irrefl (a : List Int) : ¬ ltL a a := by simp [ltL, cmpL_self]

theorem ltL_trans : ∀ {a b c : List Int}, ltL a b → ltL b c → ltL a c
  | [], [], _, h, _ => by simp [ltL, cmpL] at h
  | _ :: _, [], _, h, _ => by simp [ltL, cmpL] at h
  | [], _ :: _, [], _, h => by simp [ltL, cmpL] at h
  | [], _ :: _, _ :: _, _, _ => by simp [ltL, cmpL]
  | _ :: _, _ :: _, [], _, h => by simp [ltL, cmpL] at h
  | a :: as, b :: bs, c :: cs, h, k => by
    simp only [ltL, cmpL] at h k ⊢
    by_cases h1 : a < b
    · by_cases k1 : b < c
      · have : a < c := by omega
        simp [this]
      · by_cases k2 : c < b
        · simp [k1, k2] at k
        · have : a < c := by omega
          simp [this]
    · by_cases h2 : b < a
      · simp [h1, h2] at h
      · have e : a = b := by omega
        subst e
        simp at h
        by_cases k1 : a < c
        · simp [k1]
        · by_cases k2 : c < a
          · simp [k1, k2] at k
          · simp [k1, k2] at k ⊢
            exact ltL_trans h k

theorem ltL_asymm {a b : List Int} (h : ltL a b) : ¬ ltL b a := fun k => ltL_irrefl a (ltL_trans h k)

theorem ltL_tri (a b : List Int) : ltL a b ∨ a = b ∨ ltL b a := by
  rcases cmpL_vals a b with h | h | h
  · exact .inl h
  · exact .inr (.inl (cmpL_eq h))
  · right; right; unfold ltL; rw [cmpL_anti a b, h]

theorem cmpL_gt {a b : List Int} : cmpL a b = 1 ↔ ltL b a := by
  unfold ltL; rw [cmpL_anti a b]; omega

theorem not_ltL {a b : List Int} : ¬ ltL a b ↔ a = b ∨ ltL b a := by
  constructor
  · intro h
    rcases ltL_tri a b with k | k | k
    · exact absurd k h
    · exact .inl k
    · exact .inr k
  · rintro (rfl | h)
    · exact ltL_irrefl _
    · exact ltL_asymm h

theorem cmpL_append : ∀ p a b : List Int, cmpL (p ++ a) (p ++ b) = cmpL a b
  | [], _, _ => rfl
  | x :: p, a, b => by simp [cmpL, cmpL_append p a b]

theorem ltL_append {p a b : List Int} : ltL (p ++ a) (p ++ b) ↔ ltL a b := by simp [ltL, cmpL_append]

theorem ltL_nil {a : List Int} : ltL [] a ↔ a ≠ [] := by cases a <;> simp [ltL, cmpL]

theorem not_ltL_nil (a : List Int) : ¬ ltL a [] := by cases a <;> simp [ltL, cmpL]

theorem ltL_prefix {a b : List Int} (h : b ≠ []) : ltL a (a ++ b) := by
  have := (ltL_append (p := a) (a := []) (b := b)).2 (ltL_nil.2 h)
  simpa using this

/-- read, nought outside -/
def gt (l : List Int) (i : Nat) : Int := l.getD i 0

/-- The first place where they differ tells. -/
theorem ltL_iff : ∀ {a b : List Int}, ltL a b ↔ ∃ x, x ≤ a.length ∧ x < b.length ∧ (∀ y, y < x → a[y]? = b[y]?) ∧ (x = a.length ∨ (x < a.length ∧ a.getD x 0 < b.getD x 0))
  | [], [] => by simp [ltL, cmpL]
  | [], b :: bs => by
    constructor
    · intro _; exact ⟨0, by simp, by simp, fun y h => by omega, .inl rfl⟩
    · intro _; simp [ltL, cmpL]
  | a :: as, [] => by simp [ltL, cmpL]
  | a :: as, b :: bs => by
    have ih := @ltL_iff as bs
    constructor
    · intro h
      simp only [ltL, cmpL] at h
      by_cases h1 : a < b
      · exact ⟨0, by simp, by simp, fun y h => by omega, .inr ⟨by simp, by simpa using h1⟩⟩
      · by_cases h2 : b < a
        · simp [h1, h2] at h
        · simp [h1, h2] at h
          obtain ⟨x, hx1, hx2, hx3, hx4⟩ := ih.1 h
          have e : a = b := by omega
          subst e
          refine ⟨x + 1, by simp; omega, by simp; omega, ?_, ?_⟩
          · intro y hy
            cases y with
            | zero => simp
            | succ y => simpa using hx3 y (by omega)
          · rcases hx4 with hx4 | hx4
            · left; simp [hx4]
            · right; exact ⟨by simp; omega, by simpa using hx4.2⟩
    · rintro ⟨x, hx1, hx2, hx3, hx4⟩
      cases x with
      | zero =>
        simp at hx4
        simp [ltL, cmpL, hx4]
      | succ x =>
        have e := hx3 0 (by omega)
        simp at e
        subst e
        have : ltL as bs := ih.2 ⟨x, by simpa using hx1, by simpa using hx2, fun y hy => by simpa using hx3 (y + 1) (by omega), by simpa using hx4⟩
        simp [ltL, cmpL] at this ⊢
        exact this

theorem ltL_mk {a b : List Int} (x : Nat) (h1 : x < a.length) (h2 : x < b.length) (h3 : ∀ y, y < x → a.getD y 0 = b.getD y 0) (h4 : a.getD x 0 < b.getD x 0) : ltL a b := by
  refine ltL_iff.2 ⟨x, by omega, h2, fun y hy => ?_, .inr ⟨h1, h4⟩⟩
  have := h3 y hy
  rw [List.getElem?_eq_getElem (by omega), List.getElem?_eq_getElem (by omega)]
  simp only [List.getD_eq_getElem?_getD, List.getElem?_eq_getElem (show y < a.length by omega), List.getElem?_eq_getElem (show y < b.length by omega)] at this
  simpa using this

theorem ltL_pre {a b : List Int} (h1 : a.length < b.length) (h3 : ∀ y, y < a.length → a.getD y 0 = b.getD y 0) : ltL a b := by
  refine ltL_iff.2 ⟨a.length, by omega, h1, fun y hy => ?_, .inl rfl⟩
  have := h3 y hy
  rw [List.getElem?_eq_getElem (by omega), List.getElem?_eq_getElem (by omega)]
  simp only [List.getD_eq_getElem?_getD, List.getElem?_eq_getElem (show y < a.length by omega), List.getElem?_eq_getElem (show y < b.length by omega)] at this
  simpa using this

end Go.Proofs.Ytijdigbindanhaa.MM

namespace Go.Proofs.Ytijdigbindanhaa.MM

theorem pigeon : ∀ (n : Nat) (a : List Int), a.Nodup → (∀ x ∈ a, 0 ≤ x ∧ x < (n : Int)) → a.length ≤ n
  | 0, a, _, h => by
    cases a with
    | nil => simp
    | cons x t => have := h x (by simp); omega
  | n + 1, a, hn, h => by
    have h1 := pigeon n (a.erase (n : Int)) (hn.erase _) (fun x hx => by
      have h2 := h x (List.mem_of_mem_erase hx)
      have h3 : x ≠ (n : Int) := fun e => by subst e; exact (List.Nodup.not_mem_erase hn) hx
      omega)
    by_cases hm : (n : Int) ∈ a
    · rw [List.length_erase_of_mem hm] at h1; omega
    · rw [List.erase_of_not_mem hm] at h1; omega

theorem pigeon_all {n : Nat} {a : List Int} (hn : a.Nodup) (h : ∀ x ∈ a, 0 ≤ x ∧ x < (n : Int)) (hl : a.length = n) {v : Int} (h0 : 0 ≤ v) (h1 : v < n) : v ∈ a := by
  by_cases hm : v ∈ a
  · exact hm
  · have := pigeon n (v :: a) (List.nodup_cons.2 ⟨hm, hn⟩) (fun x hx => by
      rcases List.mem_cons.1 hx with rfl | hx
      · exact ⟨h0, h1⟩
      · exact h x hx)
    simp at this; omega

def isPerm (a : List Int) : Prop := (∀ x ∈ a, 0 ≤ x ∧ x < (a.length : Int)) ∧ a.Nodup

instance (a : List Int) : Decidable (isPerm a) := by unfold isPerm; infer_instance

theorem isPerm.mem {a : List Int} (h : isPerm a) {v : Int} (h0 : 0 ≤ v) (h1 : v < a.length) : v ∈ a := pigeon_all h.2 h.1 rfl h0 h1

def inv (a : List Int) : List Int := (List.range a.length).map (fun (v : Nat) => ((a.idxOf (v : Int) : Nat) : Int))

theorem inv_length (a : List Int) : (inv a).length = a.length := by simp [inv]

theorem inv_get {a : List Int} {v : Nat} (h : v < a.length) : (inv a).getD v 0 = ((a.idxOf (v : Int) : Nat) : Int) := by
  unfold inv
  rw [List.getD_eq_getElem?_getD, List.getElem?_map, List.getElem?_range h]
  rfl

theorem getD_mem {a : List Int} {i : Nat} (h : i < a.length) : a.getD i 0 ∈ a := by
  simp [List.getD_eq_getElem?_getD, h]

theorem getD_inj {a : List Int} (hn : a.Nodup) {i j : Nat} (hi : i < a.length) (hj : j < a.length) (h : a.getD i 0 = a.getD j 0) : i = j := by
  simp only [List.getD_eq_getElem?_getD, List.getElem?_eq_getElem hi, List.getElem?_eq_getElem hj, Option.getD_some] at h
  rcases Nat.lt_trichotomy i j with hlt | heq | hgt
  · exact absurd h (List.pairwise_iff_getElem.1 hn i j hi hj hlt)
  · exact heq
  · exact absurd h.symm (List.pairwise_iff_getElem.1 hn j i hj hi hgt)

theorem idxOf_getD {a : List Int} {x : Int} (h : x ∈ a) : a.getD (a.idxOf x) 0 = x := by
  have h1 := List.idxOf_lt_length_of_mem h
  simp [List.getD_eq_getElem?_getD, List.getElem?_eq_getElem h1]

theorem inv_at {a : List Int} (h : isPerm a) {i : Nat} (hi : i < a.length) : (inv a).getD (a.getD i 0).toNat 0 = i := by
  have hm := h.1 _ (getD_mem hi)
  have e : (((a.getD i 0).toNat : Nat) : Int) = a.getD i 0 := by omega
  rw [inv_get (by omega), e]
  have := getD_inj h.2 (List.idxOf_lt_length_of_mem (getD_mem hi)) hi (idxOf_getD (getD_mem hi))
  rw [this]

theorem at_inv {a : List Int} (h : isPerm a) {v : Nat} (hv : v < a.length) : a.getD ((inv a).getD v 0).toNat 0 = v ∧ 0 ≤ (inv a).getD v 0 ∧ (inv a).getD v 0 < a.length := by
  have hm : (v : Int) ∈ a := h.mem (by omega) (by omega)
  have := List.idxOf_lt_length_of_mem hm
  rw [inv_get hv]
  refine ⟨?_, by omega, by omega⟩
  simpa using idxOf_getD hm

theorem ext_getD {a b : List Int} (hl : a.length = b.length) (h : ∀ i, i < a.length → a.getD i 0 = b.getD i 0) : a = b := by
  apply List.ext_getElem hl
  intro i h1 h2
  have := h i h1
  simpa only [List.getD_eq_getElem?_getD, List.getElem?_eq_getElem h1, List.getElem?_eq_getElem h2, Option.getD_some] using this

theorem isPerm_of {a : List Int} (h : ∀ x ∈ a, 0 ≤ x ∧ x < (a.length : Int)) (f : Int → Nat) (hf : ∀ i, i < a.length → f (a.getD i 0) = i) : isPerm a := by
  refine ⟨h, List.pairwise_iff_getElem.2 fun i j hi hj hij he => ?_⟩
  have e : a.getD i 0 = a.getD j 0 := by simp only [List.getD_eq_getElem?_getD, List.getElem?_eq_getElem hi, List.getElem?_eq_getElem hj, he]
  have := hf i hi
  rw [e, hf j hj] at this
  omega

theorem inv_perm {a : List Int} (h : isPerm a) : isPerm (inv a) := by
  refine isPerm_of (fun x hx => ?_) (fun x => (a.getD x.toNat 0).toNat) (fun i hi => ?_)
  · rw [inv_length]
    simp only [inv, List.mem_map, List.mem_range] at hx
    obtain ⟨v, hv, rfl⟩ := hx
    have := List.idxOf_lt_length_of_mem (h.mem (v := (v : Int)) (by omega) (by omega))
    omega
  · rw [inv_length] at hi
    rw [(at_inv h hi).1]; simp

theorem inv_inv {a : List Int} (h : isPerm a) : inv (inv a) = a := by
  refine ext_getD (by simp [inv_length]) (fun i hi => ?_)
  rw [inv_length, inv_length] at hi
  have h1 := h.1 _ (getD_mem hi)
  have h2 := inv_at h hi
  have h3 := inv_at (inv_perm h) (i := (a.getD i 0).toNat) (by rw [inv_length]; omega)
  rw [h2, Int.toNat_natCast] at h3
  rw [h3]; omega

/-- a sorted row is told by what is in it -/
theorem sorted_uniq {α : Type} {R : α → α → Prop} (has : ∀ x y, R x y → ¬ R y x) : ∀ {a b : List α}, a.Pairwise R → b.Pairwise R → (∀ x, x ∈ a ↔ x ∈ b) → a = b
  | [], [], _, _, _ => rfl
  | [], y :: b, _, _, h => by have := (h y).2 (by simp); simp at this
  | x :: a, [], _, _, h => by have := (h x).1 (by simp); simp at this
  | x :: a, y :: b, ha, hb, h => by
    rw [List.pairwise_cons] at ha hb
    have hxy : x = y := by
      rcases List.mem_cons.1 ((h x).1 (by simp)) with e | e
      · exact e
      · rcases List.mem_cons.1 ((h y).2 (by simp)) with e2 | e2
        · exact e2.symm
        · exact absurd (hb.1 x e) (has _ _ (ha.1 y e2))
    subst hxy
    have hir : ¬ R x x := fun hr => has _ _ hr hr
    congr 1
    refine sorted_uniq has ha.2 hb.2 (fun z => ?_)
    constructor
    · intro hz
      rcases List.mem_cons.1 ((h z).1 (List.mem_cons_of_mem _ hz)) with e | e
      · subst e; exact absurd (ha.1 z hz) hir
      · exact e
    · intro hz
      rcases List.mem_cons.1 ((h z).2 (List.mem_cons_of_mem _ hz)) with e | e
      · subst e; exact absurd (hb.1 z hz) hir
      · exact e

end Go.Proofs.Ytijdigbindanhaa.MM

-- math: W Base Perm
namespace Go.Proofs.Ytijdigbindanhaa.MM

/-- all of o, by their keys, those of one key as they stood -/
def stab (kf : Int → Int) (o : List Int) : Nat → List Int
  | 0 => []
  | k + 1 => stab kf o k ++ o.filter (fun i => kf i == (k : Int))

theorem filt_next (kf : Int → Int) (k : Nat) : ∀ o : List Int, (o.filter (fun i => decide (0 ≤ kf i ∧ kf i < (k : Int)))).length + (o.filter (fun i => kf i == (k : Int))).length = (o.filter (fun i => decide (0 ≤ kf i ∧ kf i < ((k + 1 : Nat) : Int)))).length
  | [] => by simp
  | x :: t => by
    have ih := filt_next kf k t
    simp only [List.filter_cons]
    by_cases h1 : 0 ≤ kf x ∧ kf x < (k : Int)
    · rw [if_pos (by simpa using h1), if_neg (by simp; omega), if_pos (by simp; omega)]
      simp only [List.length_cons]; omega
    · by_cases h2 : kf x = (k : Int)
      · rw [if_neg (by simp; omega), if_pos (by simpa using h2), if_pos (by simp; omega)]
        simp only [List.length_cons]; omega
      · rw [if_neg (by simp; omega), if_neg (by simpa using h2), if_neg (by simp; omega)]
        exact ih

theorem stab_len (kf : Int → Int) (o : List Int) : ∀ k, (stab kf o k).length = (o.filter (fun i => decide (0 ≤ kf i ∧ kf i < (k : Int)))).length
  | 0 => by
    simp only [stab, List.length_nil]
    symm
    rw [List.length_eq_zero_iff, List.filter_eq_nil_iff]
    intro a _
    simp
  | k + 1 => by
    rw [stab, List.length_append, stab_len kf o k, filt_next]

theorem stab_all {kf : Int → Int} {o : List Int} {k : Nat} (h : ∀ x ∈ o, 0 ≤ kf x ∧ kf x < (k : Int)) : (stab kf o k).length = o.length := by
  rw [stab_len, List.filter_eq_self.2]
  intro x hx
  simpa using h x hx

theorem stab_mem {kf : Int → Int} {o : List Int} {x : Int} : ∀ {k : Nat}, x ∈ stab kf o k ↔ x ∈ o ∧ 0 ≤ kf x ∧ kf x < (k : Int)
  | 0 => by simp [stab]
  | k + 1 => by
    simp only [stab, List.mem_append, List.mem_filter, stab_mem (k := k), beq_iff_eq]
    constructor
    · rintro (⟨h1, h2, h3⟩ | ⟨h1, h2⟩)
      · exact ⟨h1, by omega, by omega⟩
      · exact ⟨h1, by omega, by omega⟩
    · rintro ⟨h1, h2, h3⟩
      by_cases h4 : kf x = (k : Int)
      · exact .inr ⟨h1, h4⟩
      · exact .inl ⟨h1, h2, by omega⟩

theorem stab_pairwise {kf : Int → Int} {o : List Int} {R : Int → Int → Prop} (h : o.Pairwise R) : ∀ k, (stab kf o k).Pairwise (fun x y => kf x < kf y ∨ (kf x = kf y ∧ R x y))
  | 0 => by simp [stab]
  | k + 1 => by
    simp only [stab]
    rw [List.pairwise_append]
    refine ⟨stab_pairwise h k, ?_, ?_⟩
    · have := List.Pairwise.filter (fun i => kf i == (k : Int)) h
      refine List.Pairwise.imp_of_mem (fun {a b} ha hb hab => ?_) this
      simp only [List.mem_filter, beq_iff_eq] at ha hb
      exact .inr ⟨by omega, hab⟩
    · intro a ha b hb
      have := stab_mem.1 ha
      simp only [List.mem_filter, beq_iff_eq] at hb
      left; omega

/-- a number behind: it goes behind all whose keys are not greater -/
theorem stab_snoc {kf : Int → Int} {o : List Int} {x : Int} : ∀ {k : Nat}, 0 ≤ kf x → kf x < (k : Int) →
    ∃ P C, stab kf o k = P ++ C ∧ stab kf (o ++ [x]) k = P ++ x :: C ∧ (∀ y ∈ P, kf y ≤ kf x) ∧ (∀ y ∈ C, kf x < kf y)
  | 0, h0, h1 => by omega
  | k + 1, h0, h1 => by
    by_cases hk : kf x = (k : Int)
    · refine ⟨stab kf o (k + 1), [], by simp, ?_, fun y hy => ?_, by simp⟩
      · have e : stab kf (o ++ [x]) k = stab kf o k := by
          clear h1
          have : ∀ m : Nat, (m : Int) ≤ kf x → stab kf (o ++ [x]) m = stab kf o m := by
            intro m
            induction m with
            | zero => intro _; rfl
            | succ m ih =>
              intro hm
              have hne : (kf x == (m : Int)) = false := by simp; omega
              simp [stab, ih (by omega), List.filter_append, hne]
          exact this k (by omega)
        simp [stab, e, List.filter_append, hk]
      · have := stab_mem.1 hy
        omega
    · obtain ⟨P, C, h2, h3, h4, h5⟩ := stab_snoc (o := o) (k := k) h0 (by omega)
      refine ⟨P, C ++ o.filter (fun i => kf i == (k : Int)), by simp [stab, h2], ?_, h4, fun y hy => ?_⟩
      · have hne : (kf x == (k : Int)) = false := by simpa using hk
        simp [stab, h3, List.filter_append, hne]
      · rcases List.mem_append.1 hy with hy | hy
        · exact h5 y hy
        · simp only [List.mem_filter, beq_iff_eq] at hy
          omega

/-- place r of key c's part -/
theorem stab_get {kf : Int → Int} {o : List Int} {c r : Nat} : ∀ {k : Nat}, c < k → r < (o.filter (fun i => kf i == (c : Int))).length →
    (stab kf o k).getD ((stab kf o c).length + r) 0 = (o.filter (fun i => kf i == (c : Int))).getD r 0
  | 0, h, _ => by omega
  | k + 1, h, hr => by
    have hlen : (stab kf o c).length + (o.filter (fun i => kf i == (c : Int))).length ≤ (stab kf o k).length ∨ c = k := by
      by_cases hck : c = k
      · exact .inr hck
      · left
        have : ∀ m : Nat, c < m → (stab kf o c).length + (o.filter (fun i => kf i == (c : Int))).length ≤ (stab kf o m).length := by
          intro m
          induction m with
          | zero => intro h; omega
          | succ m ih =>
            intro hm
            simp only [stab, List.length_append]
            by_cases e : c = m
            · subst e; omega
            · have := ih (by omega); omega
        exact this k (by omega)
    by_cases hck : c = k
    · subst hck
      simp only [stab, List.getD_eq_getElem?_getD]
      rw [List.getElem?_append_right (by omega)]
      congr 2; omega
    · have ih := stab_get (k := k) (c := c) (r := r) (kf := kf) (o := o) (by omega) hr
      rw [← ih]
      simp only [stab, List.getD_eq_getElem?_getD]
      rw [List.getElem?_append_left (by omega)]

/-- each place stands in one key's part -/
theorem stab_place {kf : Int → Int} {o : List Int} {p : Nat} : ∀ {k : Nat}, p < (stab kf o k).length → ∃ c r, c < k ∧ r < (o.filter (fun i => kf i == (c : Int))).length ∧ p = (stab kf o c).length + r
  | 0, h => by simp [stab] at h
  | k + 1, h => by
    by_cases hp : p < (stab kf o k).length
    · obtain ⟨c, r, h1, h2, h3⟩ := stab_place hp
      exact ⟨c, r, by omega, h2, h3⟩
    · simp only [stab, List.length_append] at h
      exact ⟨k, p - (stab kf o k).length, by omega, by omega, by omega⟩

theorem stab_ext {kf : Int → Int} {o l : List Int} {k : Nat} (hl : l.length = (stab kf o k).length)
    (h : ∀ c r, c < k → r < (o.filter (fun i => kf i == (c : Int))).length → l.getD ((stab kf o c).length + r) 0 = (o.filter (fun i => kf i == (c : Int))).getD r 0) : l = stab kf o k := by
  refine ext_getD hl (fun i hi => ?_)
  rw [hl] at hi
  obtain ⟨c, r, h1, h2, h3⟩ := stab_place hi
  rw [h3, h c r h1 h2, stab_get h1 h2]

end Go.Proofs.Ytijdigbindanhaa.MM
namespace Go.Proofs.Ytijdigbindanhaa.MM

/-- how many there are of key c -/
def kcnt (kf : Int → Int) (o : List Int) (c : Nat) : Nat := (o.filter (fun i => kf i == (c : Int))).length

theorem stab_succ_len (kf : Int → Int) (o : List Int) (c : Nat) : (stab kf o (c + 1)).length = (stab kf o c).length + kcnt kf o c := by
  rw [stab, List.length_append]; rfl

theorem stab_mono {kf : Int → Int} {o : List Int} {c : Nat} : ∀ {k : Nat}, c < k → (stab kf o c).length + kcnt kf o c ≤ (stab kf o k).length
  | 0, h => by omega
  | k + 1, h => by
    rw [stab_succ_len]
    by_cases e : c = k
    · subst e; omega
    · have := stab_mono (kf := kf) (o := o) (c := c) (k := k) (by omega); omega

theorem kcnt_next {kf : Int → Int} {o : List Int} {i : Nat} (hi : i < o.length) (c : Nat) : kcnt kf (o.take (i + 1)) c = kcnt kf (o.take i) c + if kf (o.getD i 0) = (c : Int) then 1 else 0 := by
  unfold kcnt
  rw [take_next hi, List.filter_append, List.length_append]
  congr 1
  by_cases h : kf (o.getD i 0) = (c : Int)
  · simp only [List.filter_cons, h, beq_self_eq_true, if_true, List.filter_nil, List.length_singleton]
  · simp only [List.filter_cons, h, beq_iff_eq, if_false, List.filter_nil, List.length_nil]

theorem kcnt_le {kf : Int → Int} {o : List Int} {c : Nat} : kcnt kf o c ≤ o.length := List.length_filter_le _ _

theorem kcnt_take {kf : Int → Int} {o : List Int} {c : Nat} : ∀ (i : Nat), kcnt kf (o.take i) c ≤ kcnt kf o c := fun i => by
  unfold kcnt
  exact (List.Sublist.filter _ (List.take_sublist i o)).length_le

theorem kcnt_lt {kf : Int → Int} {o : List Int} {i c : Nat} (hi : i < o.length) (h : kf (o.getD i 0) = (c : Int)) : kcnt kf (o.take i) c < kcnt kf o c := by
  have h1 := kcnt_next (kf := kf) hi c
  rw [if_pos h] at h1
  have := kcnt_take (kf := kf) (o := o) (c := c) (i + 1)
  omega

/-- the sums ahead of each -/
def startsOf (l : List Int) : List Int := (List.range l.length).map (fun (i : Nat) => (l.take i).sum)

theorem startsOf_length (l : List Int) : (startsOf l).length = l.length := by simp [startsOf]

theorem startsOf_get {l : List Int} {i : Nat} (h : i < l.length) : (startsOf l).getD i 0 = (l.take i).sum := by
  unfold startsOf
  rw [List.getD_eq_getElem?_getD, List.getElem?_map, List.getElem?_range h]; rfl

theorem sum_next {l : List Int} {i : Nat} (h : i < l.length) : (l.take (i + 1)).sum = (l.take i).sum + l.getD i 0 := by
  rw [take_next h, List.sum_append]; simp

/-- the counts of keys below k -/
def cntsOf (kf : Int → Int) (o : List Int) (k : Nat) : List Int := (List.range k).map (fun (c : Nat) => (kcnt kf o c : Int))

theorem cntsOf_length (kf : Int → Int) (o : List Int) (k : Nat) : (cntsOf kf o k).length = k := by simp [cntsOf]

theorem cntsOf_get {kf : Int → Int} {o : List Int} {k c : Nat} (h : c < k) : (cntsOf kf o k).getD c 0 = (kcnt kf o c : Int) := by
  unfold cntsOf
  rw [List.getD_eq_getElem?_getD, List.getElem?_map, List.getElem?_range h]; rfl

theorem cnts_sum {kf : Int → Int} {o : List Int} {k : Nat} : ∀ {c : Nat}, c ≤ k → ((cntsOf kf o k).take c).sum = ((stab kf o c).length : Int)
  | 0, _ => by simp [stab]
  | c + 1, h => by
    rw [sum_next (by rw [cntsOf_length]; omega), cnts_sum (k := k) (by omega), cntsOf_get (by omega), stab_succ_len]; omega

theorem filter_take_get {kf : Int → Int} {o : List Int} {i c r : Nat} (hr : r < kcnt kf (o.take i) c) : ((o.take i).filter (fun i => kf i == (c : Int))).getD r 0 = (o.filter (fun i => kf i == (c : Int))).getD r 0 := by
  unfold kcnt at hr
  conv => rhs; rw [← List.take_append_drop i o, List.filter_append]
  rw [List.getD_eq_getElem?_getD, List.getD_eq_getElem?_getD, List.getElem?_append_left hr]

theorem filter_at {kf : Int → Int} {o : List Int} {i c : Nat} (hi : i < o.length) (h : kf (o.getD i 0) = (c : Int)) : (o.filter (fun i => kf i == (c : Int))).getD (kcnt kf (o.take i) c) 0 = o.getD i 0 := by
  have h1 : kcnt kf (o.take i) c < kcnt kf (o.take (i + 1)) c := by rw [kcnt_next hi, if_pos h]; omega
  rw [← filter_take_get h1, take_next hi, List.filter_append, List.getD_eq_getElem?_getD, List.getElem?_append_right (by unfold kcnt; omega)]
  unfold kcnt
  rw [Nat.sub_self]
  simp only [List.filter_cons, h, beq_self_eq_true, if_true]; rfl

/-- 0, 1, .. -/
def iota (n : Nat) : List Int := (List.range n).map (fun (i : Nat) => (i : Int))

theorem iota_succ (n : Nat) : iota (n + 1) = iota n ++ [(n : Int)] := by unfold iota; rw [List.range_succ, List.map_append]; rfl

theorem iota_length (n : Nat) : (iota n).length = n := by simp [iota]

theorem iota_mem {n : Nat} {x : Int} : x ∈ iota n ↔ 0 ≤ x ∧ x < n := by
  unfold iota
  rw [List.mem_map]
  constructor
  · rintro ⟨i, hi, rfl⟩
    rw [List.mem_range] at hi
    omega
  · intro h
    exact ⟨x.toNat, by rw [List.mem_range]; omega, by omega⟩

theorem iota_rises : ∀ n, (iota n).Pairwise (· < ·)
  | 0 => by simp [iota]
  | n + 1 => by
    rw [iota_succ, List.pairwise_append]
    refine ⟨iota_rises n, by simp, fun x hx y hy => ?_⟩
    rw [iota_mem] at hx
    simp only [List.mem_singleton] at hy
    omega

end Go.Proofs.Ytijdigbindanhaa.MM

-- math: W Base Perm
namespace Go.Proofs.Ytijdigbindanhaa.MM

/-- the ending of x is less than that of y -/
def sufLt (s : List Int) (x y : Int) : Prop := ltL (s.drop x.toNat) (s.drop y.toNat)

def IsSA (s a : List Int) : Prop := a.length = s.length ∧ (∀ x ∈ a, 0 ≤ x ∧ x < (s.length : Int)) ∧ a.Pairwise (sufLt s)

theorem getD_dropI (l : List Int) (i y : Nat) : (l.drop i).getD y 0 = l.getD (i + y) 0 := by
  simp [List.getD_eq_getElem?_getD, List.getElem?_drop]

theorem sufLt_asymm {s : List Int} {x y : Int} (h : sufLt s x y) : ¬ sufLt s y x := ltL_asymm h

theorem IsSA.nodup {s a : List Int} (h : IsSA s a) : a.Nodup := by
  refine List.Pairwise.imp (fun {x y} hxy => ?_) h.2.2
  rintro rfl
  exact ltL_irrefl _ hxy

theorem IsSA.perm {s a : List Int} (h : IsSA s a) : isPerm a := ⟨fun x hx => by rw [h.1]; exact h.2.1 x hx, h.nodup⟩

theorem IsSA.mem {s a : List Int} (h : IsSA s a) (v : Int) : v ∈ a ↔ 0 ≤ v ∧ v < s.length :=
  ⟨fun hv => h.2.1 v hv, fun hv => h.perm.mem hv.1 (by rw [h.1]; exact hv.2)⟩

theorem IsSA.uniq {s a b : List Int} (h : IsSA s a) (k : IsSA s b) : a = b :=
  sorted_uniq (R := sufLt s) (fun _ _ => sufLt_asymm) h.2.2 k.2.2 (fun v => by rw [h.mem, k.mem])

/-- different places have different endings -/
theorem suf_ne {s : List Int} {x y : Nat} (hx : x ≤ s.length) (hy : y ≤ s.length) (h : x ≠ y) : s.drop x ≠ s.drop y := by
  intro e
  have := congrArg List.length e
  simp at this
  omega

theorem suf_tri {s : List Int} {x y : Int} (hx0 : 0 ≤ x) (hx : x ≤ s.length) (hy0 : 0 ≤ y) (hy : y ≤ s.length) (h : x ≠ y) : sufLt s x y ∨ sufLt s y x := by
  rcases ltL_tri (s.drop x.toNat) (s.drop y.toNat) with k | k | k
  · exact .inl k
  · exact absurd k (suf_ne (by omega) (by omega) (by omega))
  · exact .inr k

theorem drop_cons_get {s : List Int} {x : Nat} (h : x < s.length) : s.drop x = s.getD x 0 :: s.drop (x + 1) := by
  rw [List.drop_eq_getElem_cons h, List.getD_eq_getElem?_getD, List.getElem?_eq_getElem h]; rfl

/-- by the first number, then by the endings behind -/
theorem sufLt_step {s : List Int} {x y : Nat} (hx : x < s.length) (hy : y < s.length) : sufLt s x y ↔ s.getD x 0 < s.getD y 0 ∨ (s.getD x 0 = s.getD y 0 ∧ sufLt s ((x : Int) + 1) ((y : Int) + 1)) := by
  unfold sufLt
  have e1 : ((x : Int) + 1).toNat = x + 1 := by omega
  have e2 : ((y : Int) + 1).toNat = y + 1 := by omega
  rw [e1, e2]
  simp only [Int.toNat_natCast]
  rw [drop_cons_get hx, drop_cons_get hy]
  unfold ltL
  simp only [cmpL]
  generalize s.getD x 0 = u
  generalize s.getD y 0 = v
  by_cases h1 : u < v
  · simp [h1]
  · by_cases h2 : v < u
    · simp [h1, h2]; omega
    · have h3 : u = v := by omega
      simp [h3]

theorem sufLt_nil {s : List Int} {x : Int} (h0 : 0 ≤ x) (h : x < s.length) : sufLt s s.length x := by
  unfold sufLt
  have : s.drop (s.length : Int).toNat = [] := by simp
  rw [this]
  refine ltL_nil.2 (fun e => ?_)
  have := congrArg List.length e
  simp at this
  omega

/-- r is a rank of every place, the empty ending too -/
theorem ranks_sort {s : List Int} {r : Nat → Int} (hlast : ∀ x, x < s.length → r s.length < r x)
    (hstep : ∀ x y, x < s.length → y < s.length → r x < r y → s.getD x 0 < s.getD y 0 ∨ (s.getD x 0 = s.getD y 0 ∧ r (x + 1) < r (y + 1))) :
    ∀ (d x y : Nat), x ≤ s.length → y ≤ s.length → s.length - x < d → r x < r y → sufLt s x y := by
  intro d
  induction d with
  | zero => intro x y hx hy h; omega
  | succ d ih =>
    intro x y hx hy hd h
    by_cases hxe : x = s.length
    · subst hxe
      by_cases hye : y = s.length
      · subst hye; omega
      · exact sufLt_nil (by omega) (by omega)
    · by_cases hye : y = s.length
      · subst hye
        have := hlast x (by omega)
        omega
      · refine (sufLt_step (by omega) (by omega)).2 ?_
        rcases hstep x y (by omega) (by omega) h with h1 | h1
        · exact .inl h1
        · exact .inr ⟨h1.1, by simpa using ih (x + 1) (y + 1) (by omega) (by omega) (by omega) h1.2⟩

end Go.Proofs.Ytijdigbindanhaa.MM

-- math: W Base Perm SA
namespace Go.Proofs.Ytijdigbindanhaa.MM

/-- the ending of i is less than the next one -/
def sml (s : List Int) (i : Nat) : Bool := decide (ltL (s.drop i) (s.drop (i + 1)))

theorem sml_cmp (s : List Int) (i : Nat) : decide (cmpL (s.drop i) (s.drop (i + 1)) < 0) = sml s i := by
  unfold sml
  rw [decide_eq_decide]
  unfold ltL
  rcases cmpL_vals (s.drop i) (s.drop (i + 1)) with h | h | h <;> omega

theorem sml_last {s : List Int} {i : Nat} (h : s.length ≤ i + 1) : sml s i = false := by
  unfold sml
  rw [List.drop_of_length_le h]
  exact decide_eq_false (not_ltL_nil _)

theorem sml_step {s : List Int} {i : Nat} (h : i + 1 < s.length) : sml s i = (decide (s.getD i 0 < s.getD (i + 1) 0) || (decide (s.getD i 0 = s.getD (i + 1) 0) && sml s (i + 1))) := by
  have := sufLt_step (s := s) (x := i) (y := i + 1) (by omega) h
  unfold sufLt at this
  simp only [Int.toNat_natCast, show ((i : Int) + 1).toNat = i + 1 by omega, show (((i + 1 : Nat) : Int) + 1).toNat = i + 1 + 1 by omega] at this
  unfold sml
  rw [Bool.eq_iff_iff]
  simp only [decide_eq_true_eq, Bool.or_eq_true, Bool.and_eq_true]
  exact this

def smls (s : List Int) : List Bool := (List.range s.length).map (sml s)

theorem smls_length (s : List Int) : (smls s).length = s.length := by simp [smls]

theorem smls_get {s : List Int} {i : Nat} (h : i < s.length) : (smls s).getD i false = sml s i := by
  unfold smls
  rw [List.getD_eq_getElem?_getD, List.getElem?_map, List.getElem?_range h]; rfl

theorem extB {a b : List Bool} (hl : a.length = b.length) (h : ∀ i, i < a.length → a.getD i false = b.getD i false) : a = b := by
  apply List.ext_getElem hl
  intro i h1 h2
  have := h i h1
  simpa only [List.getD_eq_getElem?_getD, List.getElem?_eq_getElem h1, List.getElem?_eq_getElem h2, Option.getD_some] using this

def isFr (s : List Int) (i : Nat) : Bool := decide (0 < i) && sml s i && !sml s (i - 1)

def frs (s : List Int) (m : Nat) : List Int := ((List.range m).filter (isFr s)).map (fun (i : Nat) => (i : Int))

theorem frs_succ (s : List Int) (m : Nat) : frs s (m + 1) = frs s m ++ (if isFr s m = true then [(m : Int)] else []) := by
  unfold frs
  rw [List.range_succ, List.filter_append, List.map_append]
  congr 1
  by_cases h : isFr s m = true
  · simp [h]
  · simp [h]

theorem frs_len (s : List Int) (m : Nat) : (frs s m).length ≤ m := by
  unfold frs
  rw [List.length_map]
  have := List.length_filter_le (isFr s) (List.range m)
  simpa using this

theorem frs_mem {s : List Int} {m : Nat} {x : Int} (h : x ∈ frs s m) : ∃ i : Nat, x = i ∧ i < m ∧ 0 < i ∧ sml s i = true ∧ sml s (i - 1) = false := by
  unfold frs at h
  obtain ⟨i, hi, rfl⟩ := List.mem_map.1 h
  rw [List.mem_filter, List.mem_range] at hi
  obtain ⟨h1, h2⟩ := hi
  simp only [isFr, Bool.and_eq_true, decide_eq_true_eq, Bool.not_eq_true'] at h2
  exact ⟨i, rfl, h1, h2.1.1, h2.1.2, h2.2⟩

theorem frs_apart (s : List Int) : ∀ m, (frs s m).Pairwise (fun x y => x + 2 ≤ y)
  | 0 => by simp [frs]
  | m + 1 => by
    rw [frs_succ, List.pairwise_append]
    refine ⟨frs_apart s m, by split <;> simp, fun x hx y hy => ?_⟩
    split at hy
    · rename_i hf
      simp only [List.mem_singleton] at hy
      subst hy
      obtain ⟨i, rfl, h1, h2, h3, h4⟩ := frs_mem hx
      simp only [isFr, Bool.and_eq_true, decide_eq_true_eq, Bool.not_eq_true'] at hf
      have : i ≠ m - 1 := fun e => by rw [e, hf.2] at h3; cases h3
      omega
    · simp at hy

theorem pair_getD {R : Int → Int → Prop} {l : List Int} (h : l.Pairwise R) {i j : Nat} (hij : i < j) (hj : j < l.length) : R (l.getD i 0) (l.getD j 0) := by
  have := List.pairwise_iff_getElem.1 h i j (by omega) hj hij
  simpa only [List.getD_eq_getElem?_getD, List.getElem?_eq_getElem hj, List.getElem?_eq_getElem (show i < l.length by omega), Option.getD_some] using this

theorem frs_at {s : List Int} {m i : Nat} (h : i < (frs s m).length) : 1 ≤ (frs s m).getD i 0 ∧ (frs s m).getD i 0 < m ∧ 2 * (i : Int) + 1 ≤ (frs s m).getD i 0 := by
  induction i with
  | zero =>
    obtain ⟨j, h1, h2, h3, _⟩ := frs_mem (getD_mem h)
    omega
  | succ i ih =>
    obtain ⟨j, h1, h2, h3, _⟩ := frs_mem (getD_mem h)
    have := ih (by omega)
    have := pair_getD (frs_apart s m) (show i < i + 1 by omega) h
    omega

theorem frs_half (s : List Int) (m : Nat) : 2 * (frs s m).length ≤ m := by
  rcases Nat.eq_zero_or_pos (frs s m).length with h | h
  · omega
  · have := frs_at (s := s) (m := m) (i := (frs s m).length - 1) (by omega)
    omega

/-- where numbers rise all but the last are small -/
theorem sml_rises {s : List Int} (h : ∀ i, i + 1 < s.length → s.getD i 0 < s.getD (i + 1) 0) {i : Nat} (hi : i + 1 < s.length) : sml s i = true := by
  rw [sml_step hi]; simp only [h i hi, decide_true, Bool.true_or]

theorem sml_falls {s : List Int} (h : ∀ i, i + 1 < s.length → s.getD (i + 1) 0 < s.getD i 0) {i : Nat} (hi : i + 1 < s.length) : sml s i = false := by
  have := h i hi
  rw [sml_step hi]
  simp only [show ¬ s.getD i 0 < s.getD (i + 1) 0 by omega, show ¬ s.getD i 0 = s.getD (i + 1) 0 by omega, decide_false, Bool.false_and, Bool.or_self]

theorem frs_none {s : List Int} {b : Bool} (h : ∀ i, i + 1 < s.length → sml s i = b) : frs s s.length = [] := by
  apply List.eq_nil_iff_forall_not_mem.2
  intro x hx
  obtain ⟨i, rfl, h1, h2, h3, h4⟩ := frs_mem hx
  by_cases e : i + 1 < s.length
  · have := h i e
    have := h (i - 1) (by omega)
    simp_all
  · rw [sml_last (by omega)] at h3; cases h3

end Go.Proofs.Ytijdigbindanhaa.MM

namespace Go.Proofs.Ytijdigbindanhaa.PrintWords
open Go Go.ChangeShapes Go.WideShapes
/-- The printed row names it from here. -/
theorem sized_ints {H : Type} {enc : TypeId × Value → H} {P : Program} {W : World} {base : Nat} {spare : Nat → Bool} {held : Bool} {t e : TypeId} {k : IntKind} {a : Option Addr} {len cap : Nat} {d : DataW H} {ps : List MemPlace} {ts : List TypeId} {ds : List (DataW H)} {j : Nat}
    (hsz : (DataW.weightsEach P ts ds).all (· ≤ reachBytes) = true) (ht : ts[j]? = some t) (hd : ds[j]? = some d) (hu : P.underlying t = some (.slice e)) (he : P.underlying e = some (.int k)) (hc : P.cellsOf e = 1) {B : Nat} (hB : P.bytesOf e = B)
    (h : DataW.Trod enc P W base spare held t (.slice a len cap) d ps) : len * B ≤ 140737488351232 :=
  Go.Proofs.YtijdigbindanhaaW.PrintWords.sized_ints hsz ht hd hu he hc hB h
end Go.Proofs.Ytijdigbindanhaa.PrintWords
