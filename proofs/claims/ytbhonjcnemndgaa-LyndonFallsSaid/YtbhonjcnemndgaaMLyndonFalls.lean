/- Plain mathematics for LyndonFalls: lists, orders, no program in sight. -/
import Derived.Test.YtbhonjcnemndgaaWWords
import Derived.Test.YtbhonjcnemndgaaWSized
set_option linter.unusedVariables false
set_option linter.unusedSimpArgs false
/-! Words over the print: rounds, wraps, reads by number. -/
namespace Go.Proofs.Ytbhonjcnemndgaa.MM
open Go.RowKit Go.Proofs.YtbhonjcnemndgaaW.PrintWords

theorem wrap64_id {x : Int} (h0 : -9223372036854775808 ≤ x) (h1 : x < 9223372036854775808) : wrap64 x = x := by
  unfold wrap64; omega

theorem wrap_nat {i n : Nat} (h : i < n) (hn : n ≤ 140737488355328) : wrap64 ((i : Int) + 1) = ((i + 1 : Nat) : Int) := by
  rw [wrap64_id (by omega) (by omega)]; omega

theorem rd_nat (xs : List Int) (i : Nat) : rd xs (i : Int) = xs.getD i 0 := by simp [rd]

theorem rdB_nat (xs : List Bool) (i : Nat) : rdOf false xs (i : Int) = xs.getD i false := by simp [rdOf]

theorem wf_i64 {x : Int} (h : (Go.Lit.int .i64 x).wf = true) : -9223372036854775808 ≤ x ∧ x ≤ 9223372036854775807 := by
  simp only [Go.Lit.wf, Bool.and_eq_true, decide_eq_true_eq] at h
  exact h

theorem wf_u8 {x : Int} (h : (Go.Lit.int .u8 x).wf = true) : 0 ≤ x ∧ x ≤ 255 := by
  simp only [Go.Lit.wf, Bool.and_eq_true, decide_eq_true_eq] at h
  exact h

theorem Ev.at_ {α : Type} {g : Nat → Option α} {r : α} (k : Nat) (h : ∀ j, g (j + k) = some r) : Ev g r :=
  ⟨k, fun j hj => by obtain ⟨m, rfl⟩ : ∃ m, j = m + k := ⟨j - k, by omega⟩; exact h m⟩

theorem Ev.same {α : Type} {g : Nat → Option α} {r r' : α} (h : Ev g r) (h' : Ev g r') : r = r' := by
  obtain ⟨K, h⟩ := h
  obtain ⟨K', h'⟩ := h'
  have h1 := h (max K K') (by omega)
  rw [h' (max K K') (by omega)] at h1
  exact (Option.some.inj h1).symm

theorem lset_self {α : Type} {l : List α} {i : Nat} {v d : α} (h : i < l.length) : (l.set i v).getD i d = v := by
  rw [List.getD_eq_getElem?_getD, List.getElem?_set_self h]; rfl

theorem lset_ne {α : Type} {l : List α} {i j : Nat} {v d : α} (h : i ≠ j) : (l.set i v).getD j d = l.getD j d := by
  rw [List.getD_eq_getElem?_getD, List.getElem?_set_ne h, ← List.getD_eq_getElem?_getD]

theorem lset {α : Type} {l : List α} {i j : Nat} {v d : α} (h : i < l.length) : (l.set i v).getD j d = if i = j then v else l.getD j d := by
  by_cases e : i = j
  · subst e; rw [lset_self h, if_pos rfl]
  · rw [lset_ne e, if_neg e]

theorem getD_replicate {α : Type} {n i : Nat} {v : α} : (List.replicate n v).getD i v = v := by
  rw [List.getD_eq_getElem?_getD, List.getElem?_replicate]; split <;> rfl

theorem take_next {l : List Int} {i : Nat} (h : i < l.length) : l.take (i + 1) = l.take i ++ [l.getD i 0] := by
  rw [List.take_succ_eq_append_getElem h, List.getD_eq_getElem?_getD, List.getElem?_eq_getElem h]; rfl

end Go.Proofs.Ytbhonjcnemndgaa.MM

/-! Base: lexicographic comparison of lists of numbers; reads by number. -/
namespace Go.Proofs.Ytbhonjcnemndgaa.MM

def cmpL : List Int → List Int → Int
  | [], [] => 0
  | [], _ :: _ => -1
  | _ :: _, [] => 1
  | a :: as, b :: bs => if a < b then -1 else if b < a then 1 else cmpL as bs

theorem cmpL_vals : ∀ a b : List Int, cmpL a b = -1 ∨ cmpL a b = 0 ∨ cmpL a b = 1
  | [], [] => by simp [cmpL]
  | [], _ :: _ => by simp [cmpL]
  | _ :: _, [] => by simp [cmpL]
  | a :: as, b :: bs => by
    have := cmpL_vals as bs
    simp only [cmpL]; split
    · simp
    · split <;> simp [*]

theorem cmpL_self : ∀ a : List Int, cmpL a a = 0
  | [] => by simp [cmpL]
  | a :: as => by simp [cmpL, cmpL_self as]

theorem cmpL_anti : ∀ a b : List Int, cmpL b a = - cmpL a b
  | [], [] => by simp [cmpL]
  | [], _ :: _ => by simp [cmpL]
  | _ :: _, [] => by simp [cmpL]
  | a :: as, b :: bs => by
    have := cmpL_anti as bs
    simp only [cmpL]
    by_cases h1 : a < b
    · have : ¬ b < a := by omega
      simp [*]
    · by_cases h2 : b < a <;> simp [*]

theorem cmpL_eq : ∀ {a b : List Int}, cmpL a b = 0 → a = b
  | [], [], _ => rfl
  | [], _ :: _, h => by simp [cmpL] at h
  | _ :: _, [], h => by simp [cmpL] at h
  | a :: as, b :: bs, h => by
    simp only [cmpL] at h
    by_cases h1 : a < b
    · simp [h1] at h
    · by_cases h2 : b < a
      · simp [h1, h2] at h
      · simp [h1, h2] at h
        have := cmpL_eq h
        have : a = b := by omega
        simp [*]

theorem cmpL_zero {a b : List Int} : cmpL a b = 0 ↔ a = b := ⟨cmpL_eq, fun h => by rw [h, cmpL_self]⟩

/-- less -/
def ltL (a b : List Int) : Prop := cmpL a b = -1

instance (a b : List Int) : Decidable (ltL a b) := by unfold ltL; infer_instance

theorem ltL_irrefl (a : List Int) : ¬ ltL a a := by simp [ltL, cmpL_self]

theorem ltL_trans : ∀ {a b c : List Int}, ltL a b → ltL b c → ltL a c
  | [], [], _, h, _ => by simp [ltL, cmpL] at h
  | _ :: _, [], _, h, _ => by simp [ltL, cmpL] at h
  | [], _ :: _, [], _, h => by simp [ltL, cmpL] at h
  | [], _ :: _, _ :: _, _, _ => by simp [ltL, cmpL]
  | _ :: _, _ :: _, [], _, h => by simp [ltL, cmpL] at h
  | a :: as, b :: bs, c :: cs, h, k => by
    simp only [ltL, cmpL] at h k ⊢
    by_cases h1 : a < b
    · by_cases k1 : b < c
      · have : a < c := by omega
        simp [this]
      · by_cases k2 : c < b
        · simp [k1, k2] at k
        · have : a < c := by omega
          simp [this]
    · by_cases h2 : b < a
      · simp [h1, h2] at h
      · have e : a = b := by omega
        subst e
        simp at h
        by_cases k1 : a < c
        · simp [k1]
        · by_cases k2 : c < a
          · simp [k1, k2] at k
          · simp [k1, k2] at k ⊢
            exact ltL_trans h k

theorem ltL_asymm {a b : List Int} (h : ltL a b) : ¬ ltL b a := fun k => ltL_irrefl a (ltL_trans h k)

theorem ltL_tri (a b : List Int) : ltL a b ∨ a = b ∨ ltL b a := by
  rcases cmpL_vals a b with h | h | h
  · exact .inl h
  · exact .inr (.inl (cmpL_eq h))
  · right; right; unfold ltL; rw [cmpL_anti a b, h]

theorem cmpL_gt {a b : List Int} : cmpL a b = 1 ↔ ltL b a := by
  unfold ltL; rw [cmpL_anti a b]; omega

theorem not_ltL {a b : List Int} : ¬ ltL a b ↔ a = b ∨ ltL b a := by
  constructor
  · intro h
    rcases ltL_tri a b with k | k | k
    · exact absurd k h
    · exact .inl k
    · exact .inr k
  · rintro (rfl | h)
    · exact ltL_irrefl _
    · exact ltL_asymm h

theorem cmpL_append : ∀ p a b : List Int, cmpL (p ++ a) (p ++ b) = cmpL a b
  | [], _, _ => rfl
  | x :: p, a, b => by simp [cmpL, cmpL_append p a b]

theorem ltL_append {p a b : List Int} : ltL (p ++ a) (p ++ b) ↔ ltL a b := by simp [ltL, cmpL_append]

theorem ltL_nil {a : List Int} : ltL [] a ↔ a ≠ [] := by cases a <;> simp [ltL, cmpL]

theorem not_ltL_nil (a : List Int) : ¬ ltL a [] := by cases a <;> simp [ltL, cmpL]

theorem ltL_prefix {a b : List Int} (h : b ≠ []) : ltL a (a ++ b) := by
  have := (ltL_append (p := a) (a := []) (b := b)).2 (ltL_nil.2 h)
  simpa using this

/-- read, nought outside -/
def gt (l : List Int) (i : Nat) : Int := l.getD i 0

/-- The first place where they differ tells. -/
theorem ltL_iff : ∀ {a b : List Int}, ltL a b ↔ ∃ x, x ≤ a.length ∧ x < b.length ∧ (∀ y, y < x → a[y]? = b[y]?) ∧ (x = a.length ∨ (x < a.length ∧ a.getD x 0 < b.getD x 0))
  | [], [] => by simp [ltL, cmpL]
  | [], b :: bs => by
    constructor
    · intro _; exact ⟨0, by simp, by simp, fun y h => by omega, .inl rfl⟩
    · intro _; simp [ltL, cmpL]
  | a :: as, [] => by simp [ltL, cmpL]
  | a :: as, b :: bs => by
    have ih := @ltL_iff as bs
    constructor
    · intro h
      simp only [ltL, cmpL] at h
      by_cases h1 : a < b
      · exact ⟨0, by simp, by simp, fun y h => by omega, .inr ⟨by simp, by simpa using h1⟩⟩
      · by_cases h2 : b < a
        · simp [h1, h2] at h
        · simp [h1, h2] at h
          obtain ⟨x, hx1, hx2, hx3, hx4⟩ := ih.1 h
          have e : a = b := by omega
          subst e
          refine ⟨x + 1, by simp; omega, by simp; omega, ?_, ?_⟩
          · intro y hy
            cases y with
            | zero => simp
            | succ y => simpa using hx3 y (by omega)
          · rcases hx4 with hx4 | hx4
            · left; simp [hx4]
            · right; exact ⟨by simp; omega, by simpa using hx4.2⟩
    · rintro ⟨x, hx1, hx2, hx3, hx4⟩
      cases x with
      | zero =>
        simp at hx4
        simp [ltL, cmpL, hx4]
      | succ x =>
        have e := hx3 0 (by omega)
        simp at e
        subst e
        have : ltL as bs := ih.2 ⟨x, by simpa using hx1, by simpa using hx2, fun y hy => by simpa using hx3 (y + 1) (by omega), by simpa using hx4⟩
        simp [ltL, cmpL] at this ⊢
        exact this

theorem ltL_mk {a b : List Int} (x : Nat) (h1 : x < a.length) (h2 : x < b.length) (h3 : ∀ y, y < x → a.getD y 0 = b.getD y 0) (h4 : a.getD x 0 < b.getD x 0) : ltL a b := by
  refine ltL_iff.2 ⟨x, by omega, h2, fun y hy => ?_, .inr ⟨h1, h4⟩⟩
  have := h3 y hy
  rw [List.getElem?_eq_getElem (by omega), List.getElem?_eq_getElem (by omega)]
  simp only [List.getD_eq_getElem?_getD, List.getElem?_eq_getElem (show y < a.length by omega), List.getElem?_eq_getElem (show y < b.length by omega)] at this
  simpa using this

theorem ltL_pre {a b : List Int} (h1 : a.length < b.length) (h3 : ∀ y, y < a.length → a.getD y 0 = b.getD y 0) : ltL a b := by
  refine ltL_iff.2 ⟨a.length, by omega, h1, fun y hy => ?_, .inl rfl⟩
  have := h3 y hy
  rw [List.getElem?_eq_getElem (by omega), List.getElem?_eq_getElem (by omega)]
  simp only [List.getD_eq_getElem?_getD, List.getElem?_eq_getElem (show y < a.length by omega), List.getElem?_eq_getElem (show y < b.length by omega)] at this
  simpa using this

end Go.Proofs.Ytbhonjcnemndgaa.MM

namespace Go.Proofs.Ytbhonjcnemndgaa.MM

theorem pigeon : ∀ (n : Nat) (a : List Int), a.Nodup → (∀ x ∈ a, 0 ≤ x ∧ x < (n : Int)) → a.length ≤ n
  | 0, a, _, h => by
    cases a with
    | nil => simp
    | cons x t => have := h x (by simp); omega
  | n + 1, a, hn, h => by
    have h1 := pigeon n (a.erase (n : Int)) (hn.erase _) (fun x hx => by
      have h2 := h x (List.mem_of_mem_erase hx)
      have h3 : x ≠ (n : Int) := fun e => by subst e; exact (List.Nodup.not_mem_erase hn) hx
      omega)
    by_cases hm : (n : Int) ∈ a
    · rw [List.length_erase_of_mem hm] at h1; omega
    · rw [List.erase_of_not_mem hm] at h1; omega

theorem pigeon_all {n : Nat} {a : List Int} (hn : a.Nodup) (h : ∀ x ∈ a, 0 ≤ x ∧ x < (n : Int)) (hl : a.length = n) {v : Int} (h0 : 0 ≤ v) (h1 : v < n) : v ∈ a := by
  by_cases hm : v ∈ a
  · exact hm
  · have := pigeon n (v :: a) (List.nodup_cons.2 ⟨hm, hn⟩) (fun x hx => by
      rcases List.mem_cons.1 hx with rfl | hx
      · exact ⟨h0, h1⟩
      · exact h x hx)
    simp at this; omega

def isPerm (a : List Int) : Prop := (∀ x ∈ a, 0 ≤ x ∧ x < (a.length : Int)) ∧ a.Nodup

instance (a : List Int) : Decidable (isPerm a) := by unfold isPerm; infer_instance

theorem isPerm.mem {a : List Int} (h : isPerm a) {v : Int} (h0 : 0 ≤ v) (h1 : v < a.length) : v ∈ a := pigeon_all h.2 h.1 rfl h0 h1

def inv (a : List Int) : List Int := (List.range a.length).map (fun (v : Nat) => ((a.idxOf (v : Int) : Nat) : Int))

theorem inv_length (a : List Int) : (inv a).length = a.length := by simp [inv]

theorem inv_get {a : List Int} {v : Nat} (h : v < a.length) : (inv a).getD v 0 = ((a.idxOf (v : Int) : Nat) : Int) := by
  unfold inv
  rw [List.getD_eq_getElem?_getD, List.getElem?_map, List.getElem?_range h]
  rfl

theorem getD_mem {a : List Int} {i : Nat} (h : i < a.length) : a.getD i 0 ∈ a := by
  simp [List.getD_eq_getElem?_getD, h]

theorem getD_inj {a : List Int} (hn : a.Nodup) {i j : Nat} (hi : i < a.length) (hj : j < a.length) (h : a.getD i 0 = a.getD j 0) : i = j := by
  simp only [List.getD_eq_getElem?_getD, List.getElem?_eq_getElem hi, List.getElem?_eq_getElem hj, Option.getD_some] at h
  rcases Nat.lt_trichotomy i j with hlt | heq | hgt
  · exact absurd h (List.pairwise_iff_getElem.1 hn i j hi hj hlt)
  · exact heq
  · exact absurd h.symm (List.pairwise_iff_getElem.1 hn j i hj hi hgt)

theorem idxOf_getD {a : List Int} {x : Int} (h : x ∈ a) : a.getD (a.idxOf x) 0 = x := by
  have h1 := List.idxOf_lt_length_of_mem h
  simp [List.getD_eq_getElem?_getD, List.getElem?_eq_getElem h1]

theorem inv_at {a : List Int} (h : isPerm a) {i : Nat} (hi : i < a.length) : (inv a).getD (a.getD i 0).toNat 0 = i := by
  have hm := h.1 _ (getD_mem hi)
  have e : (((a.getD i 0).toNat : Nat) : Int) = a.getD i 0 := by omega
  rw [inv_get (by omega), e]
  have := getD_inj h.2 (List.idxOf_lt_length_of_mem (getD_mem hi)) hi (idxOf_getD (getD_mem hi))
  rw [this]

theorem at_inv {a : List Int} (h : isPerm a) {v : Nat} (hv : v < a.length) : a.getD ((inv a).getD v 0).toNat 0 = v ∧ 0 ≤ (inv a).getD v 0 ∧ (inv a).getD v 0 < a.length := by
  have hm : (v : Int) ∈ a := h.mem (by omega) (by omega)
  have := List.idxOf_lt_length_of_mem hm
  rw [inv_get hv]
  refine ⟨?_, by omega, by omega⟩
  simpa using idxOf_getD hm

theorem ext_getD {a b : List Int} (hl : a.length = b.length) (h : ∀ i, i < a.length → a.getD i 0 = b.getD i 0) : a = b := by
  apply List.ext_getElem hl
  intro i h1 h2
  have := h i h1
  simpa only [List.getD_eq_getElem?_getD, List.getElem?_eq_getElem h1, List.getElem?_eq_getElem h2, Option.getD_some] using this

theorem isPerm_of {a : List Int} (h : ∀ x ∈ a, 0 ≤ x ∧ x < (a.length : Int)) (f : Int → Nat) (hf : ∀ i, i < a.length → f (a.getD i 0) = i) : isPerm a := by
  refine ⟨h, List.pairwise_iff_getElem.2 fun i j hi hj hij he => ?_⟩
  have e : a.getD i 0 = a.getD j 0 := by simp only [List.getD_eq_getElem?_getD, List.getElem?_eq_getElem hi, List.getElem?_eq_getElem hj, he]
  have := hf i hi
  rw [e, hf j hj] at this
  omega

theorem inv_perm {a : List Int} (h : isPerm a) : isPerm (inv a) := by
  refine isPerm_of (fun x hx => ?_) (fun x => (a.getD x.toNat 0).toNat) (fun i hi => ?_)
  · rw [inv_length]
    simp only [inv, List.mem_map, List.mem_range] at hx
    obtain ⟨v, hv, rfl⟩ := hx
    have := List.idxOf_lt_length_of_mem (h.mem (v := (v : Int)) (by omega) (by omega))
    omega
  · rw [inv_length] at hi
    rw [(at_inv h hi).1]; simp

theorem inv_inv {a : List Int} (h : isPerm a) : inv (inv a) = a := by
  refine ext_getD (by simp [inv_length]) (fun i hi => ?_)
  rw [inv_length, inv_length] at hi
  have h1 := h.1 _ (getD_mem hi)
  have h2 := inv_at h hi
  have h3 := inv_at (inv_perm h) (i := (a.getD i 0).toNat) (by rw [inv_length]; omega)
  rw [h2, Int.toNat_natCast] at h3
  rw [h3]; omega

/-- a sorted row is told by what is in it -/
theorem sorted_uniq {α : Type} {R : α → α → Prop} (has : ∀ x y, R x y → ¬ R y x) : ∀ {a b : List α}, a.Pairwise R → b.Pairwise R → (∀ x, x ∈ a ↔ x ∈ b) → a = b
  | [], [], _, _, _ => rfl
  | [], y :: b, _, _, h => by have := (h y).2 (by simp); simp at this
  | x :: a, [], _, _, h => by have := (h x).1 (by simp); simp at this
  | x :: a, y :: b, ha, hb, h => by
    rw [List.pairwise_cons] at ha hb
    have hxy : x = y := by
      rcases List.mem_cons.1 ((h x).1 (by simp)) with e | e
      · exact e
      · rcases List.mem_cons.1 ((h y).2 (by simp)) with e2 | e2
        · exact e2.symm
        · exact absurd (hb.1 x e) (has _ _ (ha.1 y e2))
    subst hxy
    have hir : ¬ R x x := fun hr => has _ _ hr hr
    congr 1
    refine sorted_uniq has ha.2 hb.2 (fun z => ?_)
    constructor
    · intro hz
      rcases List.mem_cons.1 ((h z).1 (List.mem_cons_of_mem _ hz)) with e | e
      · subst e; exact absurd (ha.1 z hz) hir
      · exact e
    · intro hz
      rcases List.mem_cons.1 ((h z).2 (List.mem_cons_of_mem _ hz)) with e | e
      · subst e; exact absurd (hb.1 z hz) hir
      · exact e

end Go.Proofs.Ytbhonjcnemndgaa.MM

-- math: W Base Perm
namespace Go.Proofs.Ytbhonjcnemndgaa.MM

/-- the ending of x is less than that of y -/
def sufLt (s : List Int) (x y : Int) : Prop := ltL (s.drop x.toNat) (s.drop y.toNat)

def IsSA (s a : List Int) : Prop := a.length = s.length ∧ (∀ x ∈ a, 0 ≤ x ∧ x < (s.length : Int)) ∧ a.Pairwise (sufLt s)

theorem getD_dropI (l : List Int) (i y : Nat) : (l.drop i).getD y 0 = l.getD (i + y) 0 := by
  simp [List.getD_eq_getElem?_getD, List.getElem?_drop]

theorem sufLt_asymm {s : List Int} {x y : Int} (h : sufLt s x y) : ¬ sufLt s y x := ltL_asymm h

theorem IsSA.nodup {s a : List Int} (h : IsSA s a) : a.Nodup := by
  refine List.Pairwise.imp (fun {x y} hxy => ?_) h.2.2
  rintro rfl
  exact ltL_irrefl _ hxy

theorem IsSA.perm {s a : List Int} (h : IsSA s a) : isPerm a := ⟨fun x hx => by rw [h.1]; exact h.2.1 x hx, h.nodup⟩

theorem IsSA.mem {s a : List Int} (h : IsSA s a) (v : Int) : v ∈ a ↔ 0 ≤ v ∧ v < s.length :=
  ⟨fun hv => h.2.1 v hv, fun hv => h.perm.mem hv.1 (by rw [h.1]; exact hv.2)⟩

theorem IsSA.uniq {s a b : List Int} (h : IsSA s a) (k : IsSA s b) : a = b :=
  sorted_uniq (R := sufLt s) (fun _ _ => sufLt_asymm) h.2.2 k.2.2 (fun v => by rw [h.mem, k.mem])

/-- different places have different endings -/
theorem suf_ne {s : List Int} {x y : Nat} (hx : x ≤ s.length) (hy : y ≤ s.length) (h : x ≠ y) : s.drop x ≠ s.drop y := by
  intro e
  have := congrArg List.length e
  simp at this
  omega

theorem suf_tri {s : List Int} {x y : Int} (hx0 : 0 ≤ x) (hx : x ≤ s.length) (hy0 : 0 ≤ y) (hy : y ≤ s.length) (h : x ≠ y) : sufLt s x y ∨ sufLt s y x := by
  rcases ltL_tri (s.drop x.toNat) (s.drop y.toNat) with k | k | k
  · exact .inl k
  · exact absurd k (suf_ne (by omega) (by omega) (by omega))
  · exact .inr k

theorem drop_cons_get {s : List Int} {x : Nat} (h : x < s.length) : s.drop x = s.getD x 0 :: s.drop (x + 1) := by
  rw [List.drop_eq_getElem_cons h, List.getD_eq_getElem?_getD, List.getElem?_eq_getElem h]; rfl

/-- by the first number, then by the endings behind -/
theorem sufLt_step {s : List Int} {x y : Nat} (hx : x < s.length) (hy : y < s.length) : sufLt s x y ↔ s.getD x 0 < s.getD y 0 ∨ (s.getD x 0 = s.getD y 0 ∧ sufLt s ((x : Int) + 1) ((y : Int) + 1)) := by
  unfold sufLt
  have e1 : ((x : Int) + 1).toNat = x + 1 := by omega
  have e2 : ((y : Int) + 1).toNat = y + 1 := by omega
  rw [e1, e2]
  simp only [Int.toNat_natCast]
  rw [drop_cons_get hx, drop_cons_get hy]
  unfold ltL
  simp only [cmpL]
  generalize s.getD x 0 = u
  generalize s.getD y 0 = v
  by_cases h1 : u < v
  · simp [h1]
  · by_cases h2 : v < u
    · simp [h1, h2]; omega
    · have h3 : u = v := by omega
      simp [h3]

theorem sufLt_nil {s : List Int} {x : Int} (h0 : 0 ≤ x) (h : x < s.length) : sufLt s s.length x := by
  unfold sufLt
  have : s.drop (s.length : Int).toNat = [] := by simp
  rw [this]
  refine ltL_nil.2 (fun e => ?_)
  have := congrArg List.length e
  simp at this
  omega

/-- r is a rank of every place, the empty ending too -/
theorem ranks_sort {s : List Int} {r : Nat → Int} (hlast : ∀ x, x < s.length → r s.length < r x)
    (hstep : ∀ x y, x < s.length → y < s.length → r x < r y → s.getD x 0 < s.getD y 0 ∨ (s.getD x 0 = s.getD y 0 ∧ r (x + 1) < r (y + 1))) :
    ∀ (d x y : Nat), x ≤ s.length → y ≤ s.length → s.length - x < d → r x < r y → sufLt s x y := by
  intro d
  induction d with
  | zero => intro x y hx hy h; omega
  | succ d ih =>
    intro x y hx hy hd h
    by_cases hxe : x = s.length
    · subst hxe
      by_cases hye : y = s.length
      · subst hye; omega
      · exact sufLt_nil (by omega) (by omega)
    · by_cases hye : y = s.length
      · subst hye
        have := hlast x (by omega)
        omega
      · refine (sufLt_step (by omega) (by omega)).2 ?_
        rcases hstep x y (by omega) (by omega) h with h1 | h1
        · exact .inl h1
        · exact .inr ⟨h1.1, by simpa using ih (x + 1) (y + 1) (by omega) (by omega) (by omega) h1.2⟩

end Go.Proofs.Ytbhonjcnemndgaa.MM

-- math: Base Perm
namespace Go.Proofs.Ytbhonjcnemndgaa.MM

def isLyn (s : List Int) : Prop := s ≠ [] ∧ ∀ i, 0 < i → i < s.length → ltL s (s.drop i)

theorem getD_drop (l : List Int) (i y : Nat) : (l.drop i).getD y 0 = l.getD (i + y) 0 := by
  simp [List.getD_eq_getElem?_getD, List.getElem?_drop]

theorem getD_take (l : List Int) (m y : Nat) (h : y < m) : (l.take m).getD y 0 = l.getD y 0 := by
  simp [List.getD_eq_getElem?_getD, List.getElem?_take, h]

/-- A Lyndon word that runs on and on, and then a greater letter: Lyndon. -/
theorem lyn_grow {t : List Int} {p j : Nat} (hp : 0 < p) (hpj : p ≤ j) (hj : j < t.length) (hper : ∀ x, x < j → t.getD x 0 = t.getD (x % p) 0)
    (hl : isLyn (t.take p)) (hlt : t.getD (j - p) 0 < t.getD j 0) : isLyn (t.take (j + 1)) := by
  refine ⟨by intro h; have := congrArg List.length h; rw [List.length_take] at this; simp only [List.length_nil] at this; omega, fun i hi0 hi => ?_⟩
  rw [List.length_take] at hi
  have hi : i ≤ j := by omega
  have hlen : (t.take (j + 1)).length = j + 1 := by rw [List.length_take]; omega
  have hlend : ((t.take (j + 1)).drop i).length = j + 1 - i := by rw [List.length_drop, hlen]
  have hu : ∀ y, y ≤ j → (t.take (j + 1)).getD y 0 = t.getD y 0 := fun y hy => getD_take _ _ _ (by omega)
  have hv : ∀ y, i + y ≤ j → ((t.take (j + 1)).drop i).getD y 0 = t.getD (i + y) 0 := fun y hy => by rw [getD_drop, hu _ hy]
  have hjp : t.getD (j - p) 0 = t.getD (j % p) 0 := by
    rw [hper (j - p) (by omega)]
    congr 1
    rw [← Nat.mod_eq_sub_mod (by omega)]
  have hr := Nat.mod_lt i hp
  by_cases h0 : i % p = 0
  · -- a turn of whole words
    have hmod : ∀ y, (i + y) % p = y % p := fun y => by rw [Nat.add_mod, h0]; simp
    refine ltL_mk (j - i) (by omega) (by omega) (fun y hy => ?_) ?_
    · rw [hu _ (by omega), hv _ (by omega), hper y (by omega), hper (i + y) (by omega), hmod]
    · rw [hu _ (by omega), hv _ (by omega), show i + (j - i) = j by omega, hper (j - i) (by omega), ← hmod (j - i), show i + (j - i) = j by omega, ← hjp]
      exact hlt
  · -- within the word
    have hw := hl.2 (i % p) (by omega) (by rw [List.length_take]; omega)
    obtain ⟨x, hx1, hx2, hx3, hx4⟩ := ltL_iff.1 hw
    rw [List.length_drop, List.length_take] at hx2
    rw [List.length_take] at hx1 hx4
    have hx4 : t.getD x 0 < t.getD (i % p + x) 0 := by
      rcases hx4 with hx4 | hx4
      · omega
      · have := hx4.2
        rw [getD_drop, getD_take _ _ _ (by omega), getD_take _ _ _ (by omega)] at this
        exact this
    have hx3 : ∀ y, y < x → t.getD y 0 = t.getD (i % p + y) 0 := fun y hy => by
      have := hx3 y hy
      rw [List.getElem?_drop, List.getElem?_take, List.getElem?_take, if_pos (by omega), if_pos (by omega)] at this
      simp only [List.getD_eq_getElem?_getD, this]
    have hmod : ∀ y, y ≤ x → (i + y) % p = i % p + y := fun y hy => by
      rw [Nat.add_mod, Nat.mod_eq_of_lt (show y < p by omega), Nat.mod_eq_of_lt (by omega)]
    by_cases hij : i + x < j
    · refine ltL_mk x (by omega) (by omega) (fun y hy => ?_) ?_
      · rw [hu _ (by omega), hv _ (by omega), hper (i + y) (by omega), hmod y (by omega)]
        exact hx3 y hy
      · rw [hu _ (by omega), hv _ (by omega), hper (i + x) (by omega), hmod x (by omega)]
        exact hx4
    · refine ltL_mk (j - i) (by omega) (by omega) (fun y hy => ?_) ?_
      · rw [hu _ (by omega), hv _ (by omega), hper (i + y) (by omega), hmod y (by omega)]
        exact hx3 y (by omega)
      · rw [hu _ (by omega), hv _ (by omega), show i + (j - i) = j by omega]
        have e : j % p = i % p + (j - i) := by rw [← hmod (j - i) (by omega)]; congr 1; omega
        rw [hjp, e] at hlt
        by_cases hxe : j - i = x
        · rw [hxe] at hlt ⊢; omega
        · rw [hx3 (j - i) (by omega)]; exact hlt

/-- No longer beginning is one. -/
theorem lyn_most {t : List Int} {p j : Nat} (hp : 0 < p) (hpj : p ≤ j) (_hj : j ≤ t.length) (hper : ∀ x, x < j → t.getD x 0 = t.getD (x % p) 0)
    (hend : j = t.length ∨ t.getD j 0 < t.getD (j - p) 0) {m : Nat} (hm : p < m) (hmt : m ≤ t.length) : ¬ isLyn (t.take m) := by
  intro hl
  have hlen : (t.take m).length = m := by rw [List.length_take]; omega
  have hlend : ((t.take m).drop p).length = m - p := by rw [List.length_drop, hlen]
  have hu : ∀ y, y < m → (t.take m).getD y 0 = t.getD y 0 := fun y hy => getD_take _ _ _ (by omega)
  have hv : ∀ y, p + y < m → ((t.take m).drop p).getD y 0 = t.getD (p + y) 0 := fun y hy => by rw [getD_drop, hu _ hy]
  refine ltL_asymm (hl.2 p hp (by omega)) ?_
  by_cases hmj : m ≤ j
  · refine ltL_pre (by omega) (fun y hy => ?_)
    rw [hu _ (by omega), hv _ (by omega), hper (p + y) (by omega), hper y (by omega)]
    simp
  · have hend : t.getD j 0 < t.getD (j - p) 0 := by omega
    refine ltL_mk (j - p) (by omega) (by omega) (fun y hy => ?_) ?_
    · rw [hu _ (by omega), hv _ (by omega), hper (p + y) (by omega), hper y (by omega)]
      simp
    · rw [hu _ (by omega), hv _ (by omega), show p + (j - p) = j by omega]
      exact hend

/-- l is how long the factors of t are: each the longest beginning that is Lyndon. -/
inductive Facts : List Int → List Int → Prop
  | nil : Facts [] []
  | cons {t l : List Int} {m : Nat} : m ≤ t.length → isLyn (t.take m) → (∀ m', m < m' → m' ≤ t.length → ¬ isLyn (t.take m')) → Facts (t.drop m) l → Facts t ((m : Int) :: l)

theorem isLyn_take_pos {t : List Int} {m : Nat} (h : isLyn (t.take m)) : 0 < m := by
  rcases Nat.eq_zero_or_pos m with h0 | h0
  · subst h0; exact absurd rfl h.1
  · exact h0

theorem Facts.det {t l l' : List Int} (h : Facts t l) (h' : Facts t l') : l = l' := by
  induction h generalizing l' with
  | nil =>
    cases h' with
    | nil => rfl
    | cons a b c d => exact absurd (by simp) b.1
  | @cons t l m a b c d ih =>
    cases h' with
    | nil => exact absurd (by simp) b.1
    | @cons _ l2 m2 a2 b2 c2 d2 =>
      have : m = m2 := by
        rcases Nat.lt_trichotomy m m2 with h | h | h
        · exact absurd b2 (c _ h a2)
        · exact h
        · exact absurd b (c2 _ h a)
      subst this
      rw [ih d2]

theorem Facts.one {t l : List Int} (h : Facts t l) : l.length = 1 ↔ isLyn t := by
  cases h with
  | nil => simp [isLyn]
  | @cons _ l m a b c d =>
    constructor
    · intro h
      have h : l = [] := by simpa using h
      subst h
      generalize hx : t.drop m = x at d
      cases d
      have : t.length ≤ m := by simpa using hx
      rwa [List.take_of_length_le this] at b
    · intro h
      have hm : m = t.length := by
        rcases Nat.lt_or_ge m t.length with hlt | hge
        · exact absurd (by rwa [List.take_of_length_le (Nat.le_refl _)]) (c _ hlt (Nat.le_refl _))
        · omega
      subst hm
      rw [List.drop_of_length_le (Nat.le_refl _)] at d
      cases d
      · rfl
      · rename_i b2 _ _; exact absurd (by simp) b2.1

theorem Facts.sum {t l : List Int} (h : Facts t l) : l.sum = t.length := by
  induction h with
  | nil => rfl
  | @cons t l m a b c d ih => simp only [List.sum_cons, ih, List.length_drop]; omega

theorem Facts.len {t l : List Int} (h : Facts t l) : l.length ≤ t.length := by
  induction h with
  | nil => simp
  | @cons t l m a b c d ih =>
    have := isLyn_take_pos b
    rw [List.length_drop] at ih
    rw [List.length_cons]; omega

theorem lyn_one (c : Int) : isLyn [c] := ⟨by simp, fun i h0 h1 => by simp at h1; omega⟩

/-- of two that are, the less one first, is one -/
theorem lyn_join {u v : List Int} (hu : isLyn u) (hv : isLyn v) (h : ltL u v) : isLyn (u ++ v) := by
  have h1 : ltL (u ++ v) v := by
    obtain ⟨x, hx1, hx2, hx3, hx4⟩ := ltL_iff.1 h
    rcases hx4 with hx4 | hx4
    · -- u is a beginning of v
      subst hx4
      have e : v = u ++ v.drop u.length := by
        conv => lhs; rw [← List.take_append_drop u.length v]
        congr 1
        apply List.ext_getElem?
        intro y
        rw [List.getElem?_take]
        split
        · rename_i hy; exact (hx3 y hy).symm
        · rename_i hy; rw [List.getElem?_eq_none (by omega)]
      have hd : ltL v (v.drop u.length) := hv.2 _ (by have := List.length_pos_iff.2 hu.1; omega) hx2
      conv => rhs; rw [e]
      exact ltL_append.2 hd
    · refine ltL_iff.2 ⟨x, by simp; omega, hx2, fun y hy => ?_, .inr ⟨by simp; omega, ?_⟩⟩
      · rw [List.getElem?_append_left (by omega)]; exact hx3 y hy
      · rw [List.getD_eq_getElem?_getD, List.getElem?_append_left (by omega), ← List.getD_eq_getElem?_getD]; exact hx4.2
  refine ⟨by simp [hu.1], fun i hi0 hi => ?_⟩
  rw [List.length_append] at hi
  rcases Nat.lt_trichotomy i u.length with hlt | heq | hgt
  · rw [List.drop_append_of_le_length (by omega)]
    have hx := hu.2 i hi0 hlt
    obtain ⟨x, hx1, hx2, hx3, hx4⟩ := ltL_iff.1 hx
    rw [List.length_drop] at hx2
    have hx4 : x < u.length ∧ u.getD x 0 < (u.drop i).getD x 0 := by
      rcases hx4 with hx4 | hx4
      · omega
      · exact hx4
    refine ltL_iff.2 ⟨x, by simp; omega, by simp; omega, fun y hy => ?_, .inr ⟨by simp; omega, ?_⟩⟩
    · rw [List.getElem?_append_left (by omega), List.getElem?_append_left (by rw [List.length_drop]; omega)]
      exact hx3 y hy
    · rw [List.getD_eq_getElem?_getD, List.getD_eq_getElem?_getD, List.getElem?_append_left (by omega), List.getElem?_append_left (by rw [List.length_drop]; omega), ← List.getD_eq_getElem?_getD, ← List.getD_eq_getElem?_getD]
      exact hx4.2
  · rw [heq, List.drop_left]; exact h1
  · have e : (u ++ v).drop i = v.drop (i - u.length) := by
      rw [List.drop_append, List.drop_of_length_le (by omega)]; rfl
    rw [e]
    exact ltL_trans h1 (hv.2 _ (by omega) (by omega))

/-- and only so -/
theorem lyn_join_lt {u v : List Int} (hu : u ≠ []) (hv : v ≠ []) (h : isLyn (u ++ v)) : ltL u v := by
  have h1 := h.2 u.length (List.length_pos_iff.2 hu) (by rw [List.length_append]; have := List.length_pos_iff.2 hv; omega)
  rw [List.drop_left] at h1
  exact ltL_trans (ltL_prefix hv) h1

/-- the factors of two that are, not the less one first -/
theorem facts_two {u v : List Int} (hu : isLyn u) (hv : isLyn v) (h : ¬ ltL u v) : Facts (u ++ v) [(u.length : Int), (v.length : Int)] := by
  have hul := List.length_pos_iff.2 hu.1
  have hvl := List.length_pos_iff.2 hv.1
  refine .cons (by simp) (by rw [List.take_left]; exact hu) (fun m' h1 h2 hl => ?_) (.cons (by simp) (by rw [List.drop_left, List.take_of_length_le (Nat.le_refl _)]; exact hv) (fun m' h1 h2 => ?_) ?_)
  · rw [List.length_append] at h2
    have e : (u ++ v).take m' = u ++ v.take (m' - u.length) := by rw [List.take_append, List.take_of_length_le (by omega)]
    rw [e] at hl
    have hne : v.take (m' - u.length) ≠ [] := by
      intro h0; have := congrArg List.length h0; rw [List.length_take] at this; simp only [List.length_nil] at this; omega
    have h3 := lyn_join_lt hu.1 hne hl
    apply h
    by_cases hm : m' - u.length < v.length
    · have h4 : ltL (v.take (m' - u.length)) v := by
        conv => rhs; rw [← List.take_append_drop (m' - u.length) v]
        exact ltL_prefix (by intro h0; have := congrArg List.length h0; rw [List.length_drop] at this; simp only [List.length_nil] at this; omega)
      exact ltL_trans h3 h4
    · rwa [List.take_of_length_le (by omega)] at h3
  · rw [List.drop_left] at h2; omega
  · rw [List.drop_left, List.drop_of_length_le (Nat.le_refl _)]; exact .nil

/-- neighbours never rise -/
theorem Facts.falls {t l : List Int} {m m2 : Nat} (h : Facts t ((m : Int) :: (m2 : Int) :: l)) : ¬ ltL (t.take m) ((t.drop m).take m2) := by
  intro hlt
  generalize he : ((m : Int) :: (m2 : Int) :: l) = l0 at h
  cases h with
  | nil => simp at he
  | @cons _ l1 n a b c d =>
    simp at he
    obtain ⟨he1, he2⟩ := he
    have : m = n := by omega
    subst this
    subst he2
    generalize he : ((m2 : Int) :: l) = l0 at d
    generalize ht : t.drop m = t1 at d
    cases d with
    | nil => simp at he
    | @cons _ l1 n a2 b2 c2 d2 =>
      simp at he
      obtain ⟨he1, he2⟩ := he
      have : m2 = n := by omega
      subst this
      subst ht
      have hj := lyn_join b b2 hlt
      have hm2 := isLyn_take_pos b2
      rw [List.length_drop] at a2
      refine c (m + m2) (by omega) (by omega) ?_
      rwa [List.take_add]

theorem Facts.pos {t l : List Int} (h : Facts t l) : ∀ x ∈ l, 0 < x := by
  induction h with
  | nil => simp
  | @cons t l m a b c d ih =>
    intro x hx
    rcases List.mem_cons.1 hx with rfl | hx
    · have := isLyn_take_pos b; omega
    · exact ih x hx

end Go.Proofs.Ytbhonjcnemndgaa.MM
namespace Go.Proofs.Ytbhonjcnemndgaa.MM

instance (s : List Int) : Decidable (isLyn s) :=
  decidable_of_iff (s ≠ [] ∧ ∀ i, i < s.length → 0 < i → ltL s (s.drop i)) ⟨fun h => ⟨h.1, fun i h0 h1 => h.2 i h1 h0⟩, fun h => ⟨h.1, fun i h1 h0 => h.2 i h0 h1⟩⟩

end Go.Proofs.Ytbhonjcnemndgaa.MM

namespace Go.Proofs.Ytbhonjcnemndgaa.PrintWords
open Go Go.ChangeShapes Go.WideShapes
/-- The printed row names it from here. -/
theorem sized_ints {H : Type} {enc : TypeId × Value → H} {P : Program} {W : World} {base : Nat} {spare : Nat → Bool} {held : Bool} {t e : TypeId} {k : IntKind} {a : Option Addr} {len cap : Nat} {d : DataW H} {ps : List MemPlace} {ts : List TypeId} {ds : List (DataW H)} {j : Nat}
    (hsz : (DataW.weightsEach P ts ds).all (· ≤ reachBytes) = true) (ht : ts[j]? = some t) (hd : ds[j]? = some d) (hu : P.underlying t = some (.slice e)) (he : P.underlying e = some (.int k)) (hc : P.cellsOf e = 1) {B : Nat} (hB : P.bytesOf e = B)
    (h : DataW.Trod enc P W base spare held t (.slice a len cap) d ps) : len * B ≤ 140737488351232 :=
  Go.Proofs.YtbhonjcnemndgaaW.PrintWords.sized_ints hsz ht hd hu he hc hB h
end Go.Proofs.Ytbhonjcnemndgaa.PrintWords
