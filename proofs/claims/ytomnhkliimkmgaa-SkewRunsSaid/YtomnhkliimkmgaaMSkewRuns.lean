/- Plain mathematics for SkewRuns: lists, orders, no program in sight. -/
import Derived.Test.YtomnhkliimkmgaaWWords
import Derived.Test.YtomnhkliimkmgaaWSized
set_option linter.unusedVariables false
set_option linter.unusedSimpArgs false
/-! Words over the print: rounds, wraps, reads by number. -/
namespace Go.Proofs.Ytomnhkliimkmgaa.MM
open Go.RowKit Go.Proofs.YtomnhkliimkmgaaW.PrintWords

theorem wrap64_id {x : Int} (h0 : -9223372036854775808 ≤ x) (h1 : x < 9223372036854775808) : wrap64 x = x := by
  unfold wrap64; omega

theorem wrap_nat {i n : Nat} (h : i < n) (hn : n ≤ 140737488355328) : wrap64 ((i : Int) + 1) = ((i + 1 : Nat) : Int) := by
  rw [wrap64_id (by omega) (by omega)]; omega

theorem rd_nat (xs : List Int) (i : Nat) : rd xs (i : Int) = xs.getD i 0 := by simp [rd]

theorem rdB_nat (xs : List Bool) (i : Nat) : rdOf false xs (i : Int) = xs.getD i false := by simp [rdOf]

theorem wf_i64 {x : Int} (h : (Go.Lit.int .i64 x).wf = true) : -9223372036854775808 ≤ x ∧ x ≤ 9223372036854775807 := by
  simp only [Go.Lit.wf, Bool.and_eq_true, decide_eq_true_eq] at h
  exact h

theorem wf_u8 {x : Int} (h : (Go.Lit.int .u8 x).wf = true) : 0 ≤ x ∧ x ≤ 255 := by
  simp only [Go.Lit.wf, Bool.and_eq_true, decide_eq_true_eq] at h
  exact h

theorem Ev.at_ {α : Type} {g : Nat → Option α} {r : α} (k : Nat) (h : ∀ j, g (j + k) = some r) : Ev g r :=
  ⟨k, fun j hj => by obtain ⟨m, rfl⟩ : ∃ m, j = m + k := ⟨j - k, by omega⟩; exact h m⟩

theorem Ev.same {α : Type} {g : Nat → Option α} {r r' : α} (h : Ev g r) (h' : Ev g r') : r = r' := by
  obtain ⟨K, h⟩ := h
  obtain ⟨K', h'⟩ := h'
  have h1 := h (max K K') (by omega)
  rw [h' (max K K') (by omega)] at h1
  exact (Option.some.inj h1).symm

theorem lset_self {α : Type} {l : List α} {i : Nat} {v d : α} (h : i < l.length) : (l.set i v).getD i d = v := by
  rw [List.getD_eq_getElem?_getD, List.getElem?_set_self h]; rfl

theorem lset_ne {α : Type} {l : List α} {i j : Nat} {v d : α} (h : i ≠ j) : (l.set i v).getD j d = l.getD j d := by
  rw [List.getD_eq_getElem?_getD, List.getElem?_set_ne h, ← List.getD_eq_getElem?_getD]

theorem lset {α : Type} {l : List α} {i j : Nat} {v d : α} (h : i < l.length) : (l.set i v).getD j d = if i = j then v else l.getD j d := by
  by_cases e : i = j
  · subst e; rw [lset_self h, if_pos rfl]
  · rw [lset_ne e, if_neg e]

theorem getD_replicate {α : Type} {n i : Nat} {v : α} : (List.replicate n v).getD i v = v := by
  rw [List.getD_eq_getElem?_getD, List.getElem?_replicate]; split <;> rfl

theorem take_next {l : List Int} {i : Nat} (h : i < l.length) : l.take (i + 1) = l.take i ++ [l.getD i 0] := by
  rw [List.take_succ_eq_append_getElem h, List.getD_eq_getElem?_getD, List.getElem?_eq_getElem h]; rfl

end Go.Proofs.Ytomnhkliimkmgaa.MM

/-! Base: lexicographic comparison of lists of numbers; reads by number. -/
namespace Go.Proofs.Ytomnhkliimkmgaa.MM

def cmpL : List Int → List Int → Int
  | [], [] => 0
  | [], _ :: _ => -1
  | _ :: _, [] => 1
  | a :: as, b :: bs => if a < b then -1 else if b < a then 1 else cmpL as bs

theorem cmpL_vals : ∀ a b : List Int, cmpL a b = -1 ∨ cmpL a b = 0 ∨ cmpL a b = 1
  | [], [] => by simp [cmpL]
  | [], _ :: _ => by simp [cmpL]
  | _ :: _, [] => by simp [cmpL]
  | a :: as, b :: bs => by
    have := cmpL_vals as bs
    simp only [cmpL]; split
    · simp
    · split <;> simp [*]

theorem cmpL_self : ∀ a : List Int, cmpL a a = 0
  | [] => by simp [cmpL]
  | a :: as => by simp [cmpL, cmpL_self as]

theorem cmpL_anti : ∀ a b : List Int, cmpL b a = - cmpL a b
  | [], [] => by simp [cmpL]
  | [], _ :: _ => by simp [cmpL]
  | _ :: _, [] => by simp [cmpL]
  | a :: as, b :: bs => by
    have := cmpL_anti as bs
    simp only [cmpL]
    by_cases h1 : a < b
    · have : ¬ b < a := by omega
      simp [*]
    · by_cases h2 : b < a <;> simp [*]

theorem cmpL_eq : ∀ {a b : List Int}, cmpL a b = 0 → a = b
  | [], [], _ => rfl
  | [], _ :: _, h => by simp [cmpL] at h
  | _ :: _, [], h => by simp [cmpL] at h
  | a :: as, b :: bs, h => by
    simp only [cmpL] at h
    by_cases h1 : a < b
    · simp [h1] at h
    · by_cases h2 : b < a
      · simp [h1, h2] at h
      · simp [h1, h2] at h
        have := cmpL_eq h
        have : a = b := by omega
        simp [*]

theorem cmpL_zero {a b : List Int} : cmpL a b = 0 ↔ a = b := ⟨cmpL_eq, fun h => by rw [h, cmpL_self]⟩

/-- less -/
def ltL (a b : List Int) : Prop := cmpL a b = -1

instance (a b : List Int) : Decidable (ltL a b) := by unfold ltL; infer_instance

theorem ltL_irrefl (a : List Int) : ¬ ltL a a := by simp [ltL, cmpL_self]

theorem ltL_trans : ∀ {a b c : List Int}, ltL a b → ltL b c → ltL a c
  | [], [], _, h, _ => by simp [ltL, cmpL] at h
  | _ :: _, [], _, h, _ => by simp [ltL, cmpL] at h
  | [], _ :: _, [], _, h => by simp [ltL, cmpL] at h
  | [], _ :: _, _ :: _, _, _ => by simp [ltL, cmpL]
  | _ :: _, _ :: _, [], _, h => by simp [ltL, cmpL] at h
  | a :: as, b :: bs, c :: cs, h, k => by
    simp only [ltL, cmpL] at h k ⊢
    by_cases h1 : a < b
    · by_cases k1 : b < c
      · have : a < c := by omega
        simp [this]
      · by_cases k2 : c < b
        · simp [k1, k2] at k
        · have : a < c := by omega
          simp [this]
    · by_cases h2 : b < a
      · simp [h1, h2] at h
      · have e : a = b := by omega
        subst e
        simp at h
        by_cases k1 : a < c
        · simp [k1]
        · by_cases k2 : c < a
          · simp [k1, k2] at k
          · simp [k1, k2] at k ⊢
            exact ltL_trans h k

theorem ltL_asymm {a b : List Int} (h : ltL a b) : ¬ ltL b a := fun k => ltL_irrefl a (ltL_trans h k)

theorem ltL_tri (a b : List Int) : ltL a b ∨ a = b ∨ ltL b a := by
  rcases cmpL_vals a b with h | h | h
  · exact .inl h
  · exact .inr (.inl (cmpL_eq h))
  · right; right; unfold ltL; rw [cmpL_anti a b, h]

theorem cmpL_gt {a b : List Int} : cmpL a b = 1 ↔ ltL b a := by
  unfold ltL; rw [cmpL_anti a b]; omega

theorem not_ltL {a b : List Int} : ¬ ltL a b ↔ a = b ∨ ltL b a := by
  constructor
  · intro h
    rcases ltL_tri a b with k | k | k
    · exact absurd k h
    · exact .inl k
    · exact .inr k
  · rintro (rfl | h)
    · exact ltL_irrefl _
    · exact ltL_asymm h

theorem cmpL_append : ∀ p a b : List Int, cmpL (p ++ a) (p ++ b) = cmpL a b
  | [], _, _ => rfl
  | x :: p, a, b => by simp [cmpL, cmpL_append p a b]

theorem ltL_append {p a b : List Int} : ltL (p ++ a) (p ++ b) ↔ ltL a b := by simp [ltL, cmpL_append]

theorem ltL_nil {a : List Int} : ltL [] a ↔ a ≠ [] := by cases a <;> simp [ltL, cmpL]

theorem not_ltL_nil (a : List Int) : ¬ ltL a [] := by cases a <;> simp [ltL, cmpL]

theorem ltL_prefix {a b : List Int} (h : b ≠ []) : ltL a (a ++ b) := by
  have := (ltL_append (p := a) (a := []) (b := b)).2 (ltL_nil.2 h)
  simpa using this

/-- read, nought outside -/
def gt (l : List Int) (i : Nat) : Int := l.getD i 0

/-- The first place where they differ tells. -/
theorem ltL_iff : ∀ {a b : List Int}, ltL a b ↔ ∃ x, x ≤ a.length ∧ x < b.length ∧ (∀ y, y < x → a[y]? = b[y]?) ∧ (x = a.length ∨ (x < a.length ∧ a.getD x 0 < b.getD x 0))
  | [], [] => by simp [ltL, cmpL]
  | [], b :: bs => by
    constructor
    · intro _; exact ⟨0, by simp, by simp, fun y h => by omega, .inl rfl⟩
    · intro _; simp [ltL, cmpL]
  | a :: as, [] => by simp [ltL, cmpL]
  | a :: as, b :: bs => by
    have ih := @ltL_iff as bs
    constructor
    · intro h
      simp only [ltL, cmpL] at h
      by_cases h1 : a < b
      · exact ⟨0, by simp, by simp, fun y h => by omega, .inr ⟨by simp, by simpa using h1⟩⟩
      · by_cases h2 : b < a
        · simp [h1, h2] at h
        · simp [h1, h2] at h
          obtain ⟨x, hx1, hx2, hx3, hx4⟩ := ih.1 h
          have e : a = b := by omega
          subst e
          refine ⟨x + 1, by simp; omega, by simp; omega, ?_, ?_⟩
          · intro y hy
            cases y with
            | zero => simp
            | succ y => simpa using hx3 y (by omega)
          · rcases hx4 with hx4 | hx4
            · left; simp [hx4]
            · right; exact ⟨by simp; omega, by simpa using hx4.2⟩
    · rintro ⟨x, hx1, hx2, hx3, hx4⟩
      cases x with
      | zero =>
        simp at hx4
        simp [ltL, cmpL, hx4]
      | succ x =>
        have e := hx3 0 (by omega)
        simp at e
        subst e
        have : ltL as bs := ih.2 ⟨x, by simpa using hx1, by simpa using hx2, fun y hy => by simpa using hx3 (y + 1) (by omega), by simpa using hx4⟩
        simp [ltL, cmpL] at this ⊢
        exact this

theorem ltL_mk {a b : List Int} (x : Nat) (h1 : x < a.length) (h2 : x < b.length) (h3 : ∀ y, y < x → a.getD y 0 = b.getD y 0) (h4 : a.getD x 0 < b.getD x 0) : ltL a b := by
  refine ltL_iff.2 ⟨x, by omega, h2, fun y hy => ?_, .inr ⟨h1, h4⟩⟩
  have := h3 y hy
  rw [List.getElem?_eq_getElem (by omega), List.getElem?_eq_getElem (by omega)]
  simp only [List.getD_eq_getElem?_getD, List.getElem?_eq_getElem (show y < a.length by omega), List.getElem?_eq_getElem (show y < b.length by omega)] at this
  simpa using this

theorem ltL_pre {a b : List Int} (h1 : a.length < b.length) (h3 : ∀ y, y < a.length → a.getD y 0 = b.getD y 0) : ltL a b := by
  refine ltL_iff.2 ⟨a.length, by omega, h1, fun y hy => ?_, .inl rfl⟩
  have := h3 y hy
  rw [List.getElem?_eq_getElem (by omega), List.getElem?_eq_getElem (by omega)]
  simp only [List.getD_eq_getElem?_getD, List.getElem?_eq_getElem (show y < a.length by omega), List.getElem?_eq_getElem (show y < b.length by omega)] at this
  simpa using this

end Go.Proofs.Ytomnhkliimkmgaa.MM

namespace Go.Proofs.Ytomnhkliimkmgaa.MM

theorem pigeon : ∀ (n : Nat) (a : List Int), a.Nodup → (∀ x ∈ a, 0 ≤ x ∧ x < (n : Int)) → a.length ≤ n
  | 0, a, _, h => by
    cases a with
    | nil => simp
    | cons x t => have := h x (by simp); omega
  | n + 1, a, hn, h => by
    have h1 := pigeon n (a.erase (n : Int)) (hn.erase _) (fun x hx => by
      have h2 := h x (List.mem_of_mem_erase hx)
      have h3 : x ≠ (n : Int) := fun e => by subst e; exact (List.Nodup.not_mem_erase hn) hx
      omega)
    by_cases hm : (n : Int) ∈ a
    · rw [List.length_erase_of_mem hm] at h1; omega
    · rw [List.erase_of_not_mem hm] at h1; omega

theorem pigeon_all {n : Nat} {a : List Int} (hn : a.Nodup) (h : ∀ x ∈ a, 0 ≤ x ∧ x < (n : Int)) (hl : a.length = n) {v : Int} (h0 : 0 ≤ v) (h1 : v < n) : v ∈ a := by
  by_cases hm : v ∈ a
  · exact hm
  · have := pigeon n (v :: a) (List.nodup_cons.2 ⟨hm, hn⟩) (fun x hx => by
      rcases List.mem_cons.1 hx with rfl | hx
      · exact ⟨h0, h1⟩
      · exact h x hx)
    simp at this; omega

def isPerm (a : List Int) : Prop := (∀ x ∈ a, 0 ≤ x ∧ x < (a.length : Int)) ∧ a.Nodup

instance (a : List Int) : Decidable (isPerm a) := by unfold isPerm; infer_instance

theorem isPerm.mem {a : List Int} (h : isPerm a) {v : Int} (h0 : 0 ≤ v) (h1 : v < a.length) : v ∈ a := pigeon_all h.2 h.1 rfl h0 h1

def inv (a : List Int) : List Int := (List.range a.length).map (fun (v : Nat) => ((a.idxOf (v : Int) : Nat) : Int))

theorem inv_length (a : List Int) : (inv a).length = a.length := by simp [inv]

theorem inv_get {a : List Int} {v : Nat} (h : v < a.length) : (inv a).getD v 0 = ((a.idxOf (v : Int) : Nat) : Int) := by
  unfold inv
  rw [List.getD_eq_getElem?_getD, List.getElem?_map, List.getElem?_range h]
  rfl

theorem getD_mem {a : List Int} {i : Nat} (h : i < a.length) : a.getD i 0 ∈ a := by
  simp [List.getD_eq_getElem?_getD, h]

theorem getD_inj {a : List Int} (hn : a.Nodup) {i j : Nat} (hi : i < a.length) (hj : j < a.length) (h : a.getD i 0 = a.getD j 0) : i = j := by
  simp only [List.getD_eq_getElem?_getD, List.getElem?_eq_getElem hi, List.getElem?_eq_getElem hj, Option.getD_some] at h
  rcases Nat.lt_trichotomy i j with hlt | heq | hgt
  · exact absurd h (List.pairwise_iff_getElem.1 hn i j hi hj hlt)
  · exact heq
  · exact absurd h.symm (List.pairwise_iff_getElem.1 hn j i hj hi hgt)

theorem idxOf_getD {a : List Int} {x : Int} (h : x ∈ a) : a.getD (a.idxOf x) 0 = x := by
  have h1 := List.idxOf_lt_length_of_mem h
  simp [List.getD_eq_getElem?_getD, List.getElem?_eq_getElem h1]

theorem inv_at {a : List Int} (h : isPerm a) {i : Nat} (hi : i < a.length) : (inv a).getD (a.getD i 0).toNat 0 = i := by
  have hm := h.1 _ (getD_mem hi)
  have e : (((a.getD i 0).toNat : Nat) : Int) = a.getD i 0 := by omega
  rw [inv_get (by omega), e]
  have := getD_inj h.2 (List.idxOf_lt_length_of_mem (getD_mem hi)) hi (idxOf_getD (getD_mem hi))
  rw [this]

theorem at_inv {a : List Int} (h : isPerm a) {v : Nat} (hv : v < a.length) : a.getD ((inv a).getD v 0).toNat 0 = v ∧ 0 ≤ (inv a).getD v 0 ∧ (inv a).getD v 0 < a.length := by
  have hm : (v : Int) ∈ a := h.mem (by omega) (by omega)
  have := List.idxOf_lt_length_of_mem hm
  rw [inv_get hv]
  refine ⟨?_, by omega, by omega⟩
  simpa using idxOf_getD hm

theorem ext_getD {a b : List Int} (hl : a.length = b.length) (h : ∀ i, i < a.length → a.getD i 0 = b.getD i 0) : a = b := by
  apply List.ext_getElem hl
  intro i h1 h2
  have := h i h1
  simpa only [List.getD_eq_getElem?_getD, List.getElem?_eq_getElem h1, List.getElem?_eq_getElem h2, Option.getD_some] using this

theorem isPerm_of {a : List Int} (h : ∀ x ∈ a, 0 ≤ x ∧ x < (a.length : Int)) (f : Int → Nat) (hf : ∀ i, i < a.length → f (a.getD i 0) = i) : isPerm a := by
  refine ⟨h, List.pairwise_iff_getElem.2 fun i j hi hj hij he => ?_⟩
  have e : a.getD i 0 = a.getD j 0 := by simp only [List.getD_eq_getElem?_getD, List.getElem?_eq_getElem hi, List.getElem?_eq_getElem hj, he]
  have := hf i hi
  rw [e, hf j hj] at this
  omega

theorem inv_perm {a : List Int} (h : isPerm a) : isPerm (inv a) := by
  refine isPerm_of (fun x hx => ?_) (fun x => (a.getD x.toNat 0).toNat) (fun i hi => ?_)
  · rw [inv_length]
    simp only [inv, List.mem_map, List.mem_range] at hx
    obtain ⟨v, hv, rfl⟩ := hx
    have := List.idxOf_lt_length_of_mem (h.mem (v := (v : Int)) (by omega) (by omega))
    omega
  · rw [inv_length] at hi
    rw [(at_inv h hi).1]; simp

theorem inv_inv {a : List Int} (h : isPerm a) : inv (inv a) = a := by
  refine ext_getD (by simp [inv_length]) (fun i hi => ?_)
  rw [inv_length, inv_length] at hi
  have h1 := h.1 _ (getD_mem hi)
  have h2 := inv_at h hi
  have h3 := inv_at (inv_perm h) (i := (a.getD i 0).toNat) (by rw [inv_length]; omega)
  rw [h2, Int.toNat_natCast] at h3
  rw [h3]; omega

/-- a sorted row is told by what is in it -/
theorem sorted_uniq {α : Type} {R : α → α → Prop} (has : ∀ x y, R x y → ¬ R y x) : ∀ {a b : List α}, a.Pairwise R → b.Pairwise R → (∀ x, x ∈ a ↔ x ∈ b) → a = b
  | [], [], _, _, _ => rfl
  | [], y :: b, _, _, h => by have := (h y).2 (by simp); simp at this
  | x :: a, [], _, _, h => by have := (h x).1 (by simp); simp at this
  | x :: a, y :: b, ha, hb, h => by
    rw [List.pairwise_cons] at ha hb
    have hxy : x = y := by
      rcases List.mem_cons.1 ((h x).1 (by simp)) with e | e
      · exact e
      · rcases List.mem_cons.1 ((h y).2 (by simp)) with e2 | e2
        · exact e2.symm
        · exact absurd (hb.1 x e) (has _ _ (ha.1 y e2))
    subst hxy
    have hir : ¬ R x x := fun hr => has _ _ hr hr
    congr 1
    refine sorted_uniq has ha.2 hb.2 (fun z => ?_)
    constructor
    · intro hz
      rcases List.mem_cons.1 ((h z).1 (List.mem_cons_of_mem _ hz)) with e | e
      · subst e; exact absurd (ha.1 z hz) hir
      · exact e
    · intro hz
      rcases List.mem_cons.1 ((h z).2 (List.mem_cons_of_mem _ hz)) with e | e
      · subst e; exact absurd (hb.1 z hz) hir
      · exact e

end Go.Proofs.Ytomnhkliimkmgaa.MM

-- math: W Base Perm
namespace Go.Proofs.Ytomnhkliimkmgaa.MM

/-- the ending of x is less than that of y -/
def sufLt (s : List Int) (x y : Int) : Prop := ltL (s.drop x.toNat) (s.drop y.toNat)

def IsSA (s a : List Int) : Prop := a.length = s.length ∧ (∀ x ∈ a, 0 ≤ x ∧ x < (s.length : Int)) ∧ a.Pairwise (sufLt s)

theorem getD_dropI (l : List Int) (i y : Nat) : (l.drop i).getD y 0 = l.getD (i + y) 0 := by
  simp [List.getD_eq_getElem?_getD, List.getElem?_drop]

theorem sufLt_asymm {s : List Int} {x y : Int} (h : sufLt s x y) : ¬ sufLt s y x := ltL_asymm h

theorem IsSA.nodup {s a : List Int} (h : IsSA s a) : a.Nodup := by
  refine List.Pairwise.imp (fun {x y} hxy => ?_) h.2.2
  rintro rfl
  exact ltL_irrefl _ hxy

theorem IsSA.perm {s a : List Int} (h : IsSA s a) : isPerm a := ⟨fun x hx => by rw [h.1]; exact h.2.1 x hx, h.nodup⟩

theorem IsSA.mem {s a : List Int} (h : IsSA s a) (v : Int) : v ∈ a ↔ 0 ≤ v ∧ v < s.length :=
  ⟨fun hv => h.2.1 v hv, fun hv => h.perm.mem hv.1 (by rw [h.1]; exact hv.2)⟩

theorem IsSA.uniq {s a b : List Int} (h : IsSA s a) (k : IsSA s b) : a = b :=
  sorted_uniq (R := sufLt s) (fun _ _ => sufLt_asymm) h.2.2 k.2.2 (fun v => by rw [h.mem, k.mem])

/-- different places have different endings -/
theorem suf_ne {s : List Int} {x y : Nat} (hx : x ≤ s.length) (hy : y ≤ s.length) (h : x ≠ y) : s.drop x ≠ s.drop y := by
  intro e
  have := congrArg List.length e
  simp at this
  omega

theorem suf_tri {s : List Int} {x y : Int} (hx0 : 0 ≤ x) (hx : x ≤ s.length) (hy0 : 0 ≤ y) (hy : y ≤ s.length) (h : x ≠ y) : sufLt s x y ∨ sufLt s y x := by
  rcases ltL_tri (s.drop x.toNat) (s.drop y.toNat) with k | k | k
  · exact .inl k
  · exact absurd k (suf_ne (by omega) (by omega) (by omega))
  · exact .inr k

theorem drop_cons_get {s : List Int} {x : Nat} (h : x < s.length) : s.drop x = s.getD x 0 :: s.drop (x + 1) := by
  rw [List.drop_eq_getElem_cons h, List.getD_eq_getElem?_getD, List.getElem?_eq_getElem h]; rfl

/-- by the first number, then by the endings behind -/
theorem sufLt_step {s : List Int} {x y : Nat} (hx : x < s.length) (hy : y < s.length) : sufLt s x y ↔ s.getD x 0 < s.getD y 0 ∨ (s.getD x 0 = s.getD y 0 ∧ sufLt s ((x : Int) + 1) ((y : Int) + 1)) := by
  unfold sufLt
  have e1 : ((x : Int) + 1).toNat = x + 1 := by omega
  have e2 : ((y : Int) + 1).toNat = y + 1 := by omega
  rw [e1, e2]
  simp only [Int.toNat_natCast]
  rw [drop_cons_get hx, drop_cons_get hy]
  unfold ltL
  simp only [cmpL]
  generalize s.getD x 0 = u
  generalize s.getD y 0 = v
  by_cases h1 : u < v
  · simp [h1]
  · by_cases h2 : v < u
    · simp [h1, h2]; omega
    · have h3 : u = v := by omega
      simp [h3]

theorem sufLt_nil {s : List Int} {x : Int} (h0 : 0 ≤ x) (h : x < s.length) : sufLt s s.length x := by
  unfold sufLt
  have : s.drop (s.length : Int).toNat = [] := by simp
  rw [this]
  refine ltL_nil.2 (fun e => ?_)
  have := congrArg List.length e
  simp at this
  omega

/-- r is a rank of every place, the empty ending too -/
theorem ranks_sort {s : List Int} {r : Nat → Int} (hlast : ∀ x, x < s.length → r s.length < r x)
    (hstep : ∀ x y, x < s.length → y < s.length → r x < r y → s.getD x 0 < s.getD y 0 ∨ (s.getD x 0 = s.getD y 0 ∧ r (x + 1) < r (y + 1))) :
    ∀ (d x y : Nat), x ≤ s.length → y ≤ s.length → s.length - x < d → r x < r y → sufLt s x y := by
  intro d
  induction d with
  | zero => intro x y hx hy h; omega
  | succ d ih =>
    intro x y hx hy hd h
    by_cases hxe : x = s.length
    · subst hxe
      by_cases hye : y = s.length
      · subst hye; omega
      · exact sufLt_nil (by omega) (by omega)
    · by_cases hye : y = s.length
      · subst hye
        have := hlast x (by omega)
        omega
      · refine (sufLt_step (by omega) (by omega)).2 ?_
        rcases hstep x y (by omega) (by omega) h with h1 | h1
        · exact .inl h1
        · exact .inr ⟨h1.1, by simpa using ih (x + 1) (y + 1) (by omega) (by omega) (by omega) h1.2⟩

end Go.Proofs.Ytomnhkliimkmgaa.MM

-- math: W Base Perm
namespace Go.Proofs.Ytomnhkliimkmgaa.MM

/-- all of o, by their keys, those of one key as they stood -/
def stab (kf : Int → Int) (o : List Int) : Nat → List Int
  | 0 => []
  | k + 1 => stab kf o k ++ o.filter (fun i => kf i == (k : Int))

theorem filt_next (kf : Int → Int) (k : Nat) : ∀ o : List Int, (o.filter (fun i => decide (0 ≤ kf i ∧ kf i < (k : Int)))).length + (o.filter (fun i => kf i == (k : Int))).length = (o.filter (fun i => decide (0 ≤ kf i ∧ kf i < ((k + 1 : Nat) : Int)))).length
  | [] => by simp
  | x :: t => by
    have ih := filt_next kf k t
    simp only [List.filter_cons]
    by_cases h1 : 0 ≤ kf x ∧ kf x < (k : Int)
    · rw [if_pos (by simpa using h1), if_neg (by simp; omega), if_pos (by simp; omega)]
      simp only [List.length_cons]; omega
    · by_cases h2 : kf x = (k : Int)
      · rw [if_neg (by simp; omega), if_pos (by simpa using h2), if_pos (by simp; omega)]
        simp only [List.length_cons]; omega
      · rw [if_neg (by simp; omega), if_neg (by simpa using h2), if_neg (by simp; omega)]
        exact ih

theorem stab_len (kf : Int → Int) (o : List Int) : ∀ k, (stab kf o k).length = (o.filter (fun i => decide (0 ≤ kf i ∧ kf i < (k : Int)))).length
  | 0 => by
    simp only [stab, List.length_nil]
    symm
    rw [List.length_eq_zero_iff, List.filter_eq_nil_iff]
    intro a _
    simp
  | k + 1 => by
    rw [stab, List.length_append, stab_len kf o k, filt_next]

theorem stab_all {kf : Int → Int} {o : List Int} {k : Nat} (h : ∀ x ∈ o, 0 ≤ kf x ∧ kf x < (k : Int)) : (stab kf o k).length = o.length := by
  rw [stab_len, List.filter_eq_self.2]
  intro x hx
  simpa using h x hx

theorem stab_mem {kf : Int → Int} {o : List Int} {x : Int} : ∀ {k : Nat}, x ∈ stab kf o k ↔ x ∈ o ∧ 0 ≤ kf x ∧ kf x < (k : Int)
  | 0 => by simp [stab]
  | k + 1 => by
    simp only [stab, List.mem_append, List.mem_filter, stab_mem (k := k), beq_iff_eq]
    constructor
    · rintro (⟨h1, h2, h3⟩ | ⟨h1, h2⟩)
      · exact ⟨h1, by omega, by omega⟩
      · exact ⟨h1, by omega, by omega⟩
    · rintro ⟨h1, h2, h3⟩
      by_cases h4 : kf x = (k : Int)
      · exact .inr ⟨h1, h4⟩
      · exact .inl ⟨h1, h2, by omega⟩

theorem stab_pairwise {kf : Int → Int} {o : List Int} {R : Int → Int → Prop} (h : o.Pairwise R) : ∀ k, (stab kf o k).Pairwise (fun x y => kf x < kf y ∨ (kf x = kf y ∧ R x y))
  | 0 => by simp [stab]
  | k + 1 => by
    simp only [stab]
    rw [List.pairwise_append]
    refine ⟨stab_pairwise h k, ?_, ?_⟩
    · have := List.Pairwise.filter (fun i => kf i == (k : Int)) h
      refine List.Pairwise.imp_of_mem (fun {a b} ha hb hab => ?_) this
      simp only [List.mem_filter, beq_iff_eq] at ha hb
      exact .inr ⟨by omega, hab⟩
    · intro a ha b hb
      have := stab_mem.1 ha
      simp only [List.mem_filter, beq_iff_eq] at hb
      left; omega

/-- a number behind: it goes behind all whose keys are not greater -/
theorem stab_snoc {kf : Int → Int} {o : List Int} {x : Int} : ∀ {k : Nat}, 0 ≤ kf x → kf x < (k : Int) →
    ∃ P C, stab kf o k = P ++ C ∧ stab kf (o ++ [x]) k = P ++ x :: C ∧ (∀ y ∈ P, kf y ≤ kf x) ∧ (∀ y ∈ C, kf x < kf y)
  | 0, h0, h1 => by omega
  | k + 1, h0, h1 => by
    by_cases hk : kf x = (k : Int)
    · refine ⟨stab kf o (k + 1), [], by simp, ?_, fun y hy => ?_, by simp⟩
      · have e : stab kf (o ++ [x]) k = stab kf o k := by
          clear h1
          have : ∀ m : Nat, (m : Int) ≤ kf x → stab kf (o ++ [x]) m = stab kf o m := by
            intro m
            induction m with
            | zero => intro _; rfl
            | succ m ih =>
              intro hm
              have hne : (kf x == (m : Int)) = false := by simp; omega
              simp [stab, ih (by omega), List.filter_append, hne]
          exact this k (by omega)
        simp [stab, e, List.filter_append, hk]
      · have := stab_mem.1 hy
        omega
    · obtain ⟨P, C, h2, h3, h4, h5⟩ := stab_snoc (o := o) (k := k) h0 (by omega)
      refine ⟨P, C ++ o.filter (fun i => kf i == (k : Int)), by simp [stab, h2], ?_, h4, fun y hy => ?_⟩
      · have hne : (kf x == (k : Int)) = false := by simpa using hk
        simp [stab, h3, List.filter_append, hne]
      · rcases List.mem_append.1 hy with hy | hy
        · exact h5 y hy
        · simp only [List.mem_filter, beq_iff_eq] at hy
          omega

/-- place r of key c's part -/
theorem stab_get {kf : Int → Int} {o : List Int} {c r : Nat} : ∀ {k : Nat}, c < k → r < (o.filter (fun i => kf i == (c : Int))).length →
    (stab kf o k).getD ((stab kf o c).length + r) 0 = (o.filter (fun i => kf i == (c : Int))).getD r 0
  | 0, h, _ => by omega
  | k + 1, h, hr => by
    have hlen : (stab kf o c).length + (o.filter (fun i => kf i == (c : Int))).length ≤ (stab kf o k).length ∨ c = k := by
      by_cases hck : c = k
      · exact .inr hck
      · left
        have : ∀ m : Nat, c < m → (stab kf o c).length + (o.filter (fun i => kf i == (c : Int))).length ≤ (stab kf o m).length := by
          intro m
          induction m with
          | zero => intro h; omega
          | succ m ih =>
            intro hm
            simp only [stab, List.length_append]
            by_cases e : c = m
            · subst e; omega
            · have := ih (by omega); omega
        exact this k (by omega)
    by_cases hck : c = k
    · subst hck
      simp only [stab, List.getD_eq_getElem?_getD]
      rw [List.getElem?_append_right (by omega)]
      congr 2; omega
    · have ih := stab_get (k := k) (c := c) (r := r) (kf := kf) (o := o) (by omega) hr
      rw [← ih]
      simp only [stab, List.getD_eq_getElem?_getD]
      rw [List.getElem?_append_left (by omega)]

/-- each place stands in one key's part -/
theorem stab_place {kf : Int → Int} {o : List Int} {p : Nat} : ∀ {k : Nat}, p < (stab kf o k).length → ∃ c r, c < k ∧ r < (o.filter (fun i => kf i == (c : Int))).length ∧ p = (stab kf o c).length + r
  | 0, h => by simp [stab] at h
  | k + 1, h => by
    by_cases hp : p < (stab kf o k).length
    · obtain ⟨c, r, h1, h2, h3⟩ := stab_place hp
      exact ⟨c, r, by omega, h2, h3⟩
    · simp only [stab, List.length_append] at h
      exact ⟨k, p - (stab kf o k).length, by omega, by omega, by omega⟩

theorem stab_ext {kf : Int → Int} {o l : List Int} {k : Nat} (hl : l.length = (stab kf o k).length)
    (h : ∀ c r, c < k → r < (o.filter (fun i => kf i == (c : Int))).length → l.getD ((stab kf o c).length + r) 0 = (o.filter (fun i => kf i == (c : Int))).getD r 0) : l = stab kf o k := by
  refine ext_getD hl (fun i hi => ?_)
  rw [hl] at hi
  obtain ⟨c, r, h1, h2, h3⟩ := stab_place hi
  rw [h3, h c r h1 h2, stab_get h1 h2]

end Go.Proofs.Ytomnhkliimkmgaa.MM
namespace Go.Proofs.Ytomnhkliimkmgaa.MM

/-- how many there are of key c -/
def kcnt (kf : Int → Int) (o : List Int) (c : Nat) : Nat := (o.filter (fun i => kf i == (c : Int))).length

theorem stab_succ_len (kf : Int → Int) (o : List Int) (c : Nat) : (stab kf o (c + 1)).length = (stab kf o c).length + kcnt kf o c := by
  rw [stab, List.length_append]; rfl

theorem stab_mono {kf : Int → Int} {o : List Int} {c : Nat} : ∀ {k : Nat}, c < k → (stab kf o c).length + kcnt kf o c ≤ (stab kf o k).length
  | 0, h => by omega
  | k + 1, h => by
    rw [stab_succ_len]
    by_cases e : c = k
    · subst e; omega
    · have := stab_mono (kf := kf) (o := o) (c := c) (k := k) (by omega); omega

theorem kcnt_next {kf : Int → Int} {o : List Int} {i : Nat} (hi : i < o.length) (c : Nat) : kcnt kf (o.take (i + 1)) c = kcnt kf (o.take i) c + if kf (o.getD i 0) = (c : Int) then 1 else 0 := by
  unfold kcnt
  rw [take_next hi, List.filter_append, List.length_append]
  congr 1
  by_cases h : kf (o.getD i 0) = (c : Int)
  · simp only [List.filter_cons, h, beq_self_eq_true, if_true, List.filter_nil, List.length_singleton]
  · simp only [List.filter_cons, h, beq_iff_eq, if_false, List.filter_nil, List.length_nil]

theorem kcnt_le {kf : Int → Int} {o : List Int} {c : Nat} : kcnt kf o c ≤ o.length := List.length_filter_le _ _

theorem kcnt_take {kf : Int → Int} {o : List Int} {c : Nat} : ∀ (i : Nat), kcnt kf (o.take i) c ≤ kcnt kf o c := fun i => by
  unfold kcnt
  exact (List.Sublist.filter _ (List.take_sublist i o)).length_le

theorem kcnt_lt {kf : Int → Int} {o : List Int} {i c : Nat} (hi : i < o.length) (h : kf (o.getD i 0) = (c : Int)) : kcnt kf (o.take i) c < kcnt kf o c := by
  have h1 := kcnt_next (kf := kf) hi c
  rw [if_pos h] at h1
  have := kcnt_take (kf := kf) (o := o) (c := c) (i + 1)
  omega

/-- the sums ahead of each -/
def startsOf (l : List Int) : List Int := (List.range l.length).map (fun (i : Nat) => (l.take i).sum)

theorem startsOf_length (l : List Int) : (startsOf l).length = l.length := by simp [startsOf]

theorem startsOf_get {l : List Int} {i : Nat} (h : i < l.length) : (startsOf l).getD i 0 = (l.take i).sum := by
  unfold startsOf
  rw [List.getD_eq_getElem?_getD, List.getElem?_map, List.getElem?_range h]; rfl

theorem sum_next {l : List Int} {i : Nat} (h : i < l.length) : (l.take (i + 1)).sum = (l.take i).sum + l.getD i 0 := by
  rw [take_next h, List.sum_append]; simp

/-- the counts of keys below k -/
def cntsOf (kf : Int → Int) (o : List Int) (k : Nat) : List Int := (List.range k).map (fun (c : Nat) => (kcnt kf o c : Int))

theorem cntsOf_length (kf : Int → Int) (o : List Int) (k : Nat) : (cntsOf kf o k).length = k := by simp [cntsOf]

theorem cntsOf_get {kf : Int → Int} {o : List Int} {k c : Nat} (h : c < k) : (cntsOf kf o k).getD c 0 = (kcnt kf o c : Int) := by
  unfold cntsOf
  rw [List.getD_eq_getElem?_getD, List.getElem?_map, List.getElem?_range h]; rfl

theorem cnts_sum {kf : Int → Int} {o : List Int} {k : Nat} : ∀ {c : Nat}, c ≤ k → ((cntsOf kf o k).take c).sum = ((stab kf o c).length : Int)
  | 0, _ => by simp [stab]
  | c + 1, h => by
    rw [sum_next (by rw [cntsOf_length]; omega), cnts_sum (k := k) (by omega), cntsOf_get (by omega), stab_succ_len]; omega

theorem filter_take_get {kf : Int → Int} {o : List Int} {i c r : Nat} (hr : r < kcnt kf (o.take i) c) : ((o.take i).filter (fun i => kf i == (c : Int))).getD r 0 = (o.filter (fun i => kf i == (c : Int))).getD r 0 := by
  unfold kcnt at hr
  conv => rhs; rw [← List.take_append_drop i o, List.filter_append]
  rw [List.getD_eq_getElem?_getD, List.getD_eq_getElem?_getD, List.getElem?_append_left hr]

theorem filter_at {kf : Int → Int} {o : List Int} {i c : Nat} (hi : i < o.length) (h : kf (o.getD i 0) = (c : Int)) : (o.filter (fun i => kf i == (c : Int))).getD (kcnt kf (o.take i) c) 0 = o.getD i 0 := by
  have h1 : kcnt kf (o.take i) c < kcnt kf (o.take (i + 1)) c := by rw [kcnt_next hi, if_pos h]; omega
  rw [← filter_take_get h1, take_next hi, List.filter_append, List.getD_eq_getElem?_getD, List.getElem?_append_right (by unfold kcnt; omega)]
  unfold kcnt
  rw [Nat.sub_self]
  simp only [List.filter_cons, h, beq_self_eq_true, if_true]; rfl

/-- 0, 1, .. -/
def iota (n : Nat) : List Int := (List.range n).map (fun (i : Nat) => (i : Int))

theorem iota_succ (n : Nat) : iota (n + 1) = iota n ++ [(n : Int)] := by unfold iota; rw [List.range_succ, List.map_append]; rfl

theorem iota_length (n : Nat) : (iota n).length = n := by simp [iota]

theorem iota_mem {n : Nat} {x : Int} : x ∈ iota n ↔ 0 ≤ x ∧ x < n := by
  unfold iota
  rw [List.mem_map]
  constructor
  · rintro ⟨i, hi, rfl⟩
    rw [List.mem_range] at hi
    omega
  · intro h
    exact ⟨x.toNat, by rw [List.mem_range]; omega, by omega⟩

theorem iota_rises : ∀ n, (iota n).Pairwise (· < ·)
  | 0 => by simp [iota]
  | n + 1 => by
    rw [iota_succ, List.pairwise_append]
    refine ⟨iota_rises n, by simp, fun x hx y hy => ?_⟩
    rw [iota_mem] at hx
    simp only [List.mem_singleton] at hy
    omega

end Go.Proofs.Ytomnhkliimkmgaa.MM

-- math: W Base Perm SA
namespace Go.Proofs.Ytomnhkliimkmgaa.MM

/-- the ending of i is less than the next one -/
def sml (s : List Int) (i : Nat) : Bool := decide (ltL (s.drop i) (s.drop (i + 1)))

theorem sml_cmp (s : List Int) (i : Nat) : decide (cmpL (s.drop i) (s.drop (i + 1)) < 0) = sml s i := by
  unfold sml
  rw [decide_eq_decide]
  unfold ltL
  rcases cmpL_vals (s.drop i) (s.drop (i + 1)) with h | h | h <;> omega

theorem sml_last {s : List Int} {i : Nat} (h : s.length ≤ i + 1) : sml s i = false := by
  unfold sml
  rw [List.drop_of_length_le h]
  exact decide_eq_false (not_ltL_nil _)

theorem sml_step {s : List Int} {i : Nat} (h : i + 1 < s.length) : sml s i = (decide (s.getD i 0 < s.getD (i + 1) 0) || (decide (s.getD i 0 = s.getD (i + 1) 0) && sml s (i + 1))) := by
  have := sufLt_step (s := s) (x := i) (y := i + 1) (by omega) h
  unfold sufLt at this
  simp only [Int.toNat_natCast, show ((i : Int) + 1).toNat = i + 1 by omega, show (((i + 1 : Nat) : Int) + 1).toNat = i + 1 + 1 by omega] at this
  unfold sml
  rw [Bool.eq_iff_iff]
  simp only [decide_eq_true_eq, Bool.or_eq_true, Bool.and_eq_true]
  exact this

def smls (s : List Int) : List Bool := (List.range s.length).map (sml s)

theorem smls_length (s : List Int) : (smls s).length = s.length := by simp [smls]

theorem smls_get {s : List Int} {i : Nat} (h : i < s.length) : (smls s).getD i false = sml s i := by
  unfold smls
  rw [List.getD_eq_getElem?_getD, List.getElem?_map, List.getElem?_range h]; rfl

theorem extB {a b : List Bool} (hl : a.length = b.length) (h : ∀ i, i < a.length → a.getD i false = b.getD i false) : a = b := by
  apply List.ext_getElem hl
  intro i h1 h2
  have := h i h1
  simpa only [List.getD_eq_getElem?_getD, List.getElem?_eq_getElem h1, List.getElem?_eq_getElem h2, Option.getD_some] using this

def isFr (s : List Int) (i : Nat) : Bool := decide (0 < i) && sml s i && !sml s (i - 1)

def frs (s : List Int) (m : Nat) : List Int := ((List.range m).filter (isFr s)).map (fun (i : Nat) => (i : Int))

theorem frs_succ (s : List Int) (m : Nat) : frs s (m + 1) = frs s m ++ (if isFr s m = true then [(m : Int)] else []) := by
  unfold frs
  rw [List.range_succ, List.filter_append, List.map_append]
  congr 1
  by_cases h : isFr s m = true
  · simp [h]
  · simp [h]

theorem frs_len (s : List Int) (m : Nat) : (frs s m).length ≤ m := by
  unfold frs
  rw [List.length_map]
  have := List.length_filter_le (isFr s) (List.range m)
  simpa using this

theorem frs_mem {s : List Int} {m : Nat} {x : Int} (h : x ∈ frs s m) : ∃ i : Nat, x = i ∧ i < m ∧ 0 < i ∧ sml s i = true ∧ sml s (i - 1) = false := by
  unfold frs at h
  obtain ⟨i, hi, rfl⟩ := List.mem_map.1 h
  rw [List.mem_filter, List.mem_range] at hi
  obtain ⟨h1, h2⟩ := hi
  simp only [isFr, Bool.and_eq_true, decide_eq_true_eq, Bool.not_eq_true'] at h2
  exact ⟨i, rfl, h1, h2.1.1, h2.1.2, h2.2⟩

theorem frs_apart (s : List Int) : ∀ m, (frs s m).Pairwise (fun x y => x + 2 ≤ y)
  | 0 => by simp [frs]
  | m + 1 => by
    rw [frs_succ, List.pairwise_append]
    refine ⟨frs_apart s m, by split <;> simp, fun x hx y hy => ?_⟩
    split at hy
    · rename_i hf
      simp only [List.mem_singleton] at hy
      subst hy
      obtain ⟨i, rfl, h1, h2, h3, h4⟩ := frs_mem hx
      simp only [isFr, Bool.and_eq_true, decide_eq_true_eq, Bool.not_eq_true'] at hf
      have : i ≠ m - 1 := fun e => by rw [e, hf.2] at h3; cases h3
      omega
    · simp at hy

theorem pair_getD {R : Int → Int → Prop} {l : List Int} (h : l.Pairwise R) {i j : Nat} (hij : i < j) (hj : j < l.length) : R (l.getD i 0) (l.getD j 0) := by
  have := List.pairwise_iff_getElem.1 h i j (by omega) hj hij
  simpa only [List.getD_eq_getElem?_getD, List.getElem?_eq_getElem hj, List.getElem?_eq_getElem (show i < l.length by omega), Option.getD_some] using this

theorem frs_at {s : List Int} {m i : Nat} (h : i < (frs s m).length) : 1 ≤ (frs s m).getD i 0 ∧ (frs s m).getD i 0 < m ∧ 2 * (i : Int) + 1 ≤ (frs s m).getD i 0 := by
  induction i with
  | zero =>
    obtain ⟨j, h1, h2, h3, _⟩ := frs_mem (getD_mem h)
    omega
  | succ i ih =>
    obtain ⟨j, h1, h2, h3, _⟩ := frs_mem (getD_mem h)
    have := ih (by omega)
    have := pair_getD (frs_apart s m) (show i < i + 1 by omega) h
    omega

theorem frs_half (s : List Int) (m : Nat) : 2 * (frs s m).length ≤ m := by
  rcases Nat.eq_zero_or_pos (frs s m).length with h | h
  · omega
  · have := frs_at (s := s) (m := m) (i := (frs s m).length - 1) (by omega)
    omega

/-- where numbers rise all but the last are small -/
theorem sml_rises {s : List Int} (h : ∀ i, i + 1 < s.length → s.getD i 0 < s.getD (i + 1) 0) {i : Nat} (hi : i + 1 < s.length) : sml s i = true := by
  rw [sml_step hi]; simp only [h i hi, decide_true, Bool.true_or]

theorem sml_falls {s : List Int} (h : ∀ i, i + 1 < s.length → s.getD (i + 1) 0 < s.getD i 0) {i : Nat} (hi : i + 1 < s.length) : sml s i = false := by
  have := h i hi
  rw [sml_step hi]
  simp only [show ¬ s.getD i 0 < s.getD (i + 1) 0 by omega, show ¬ s.getD i 0 = s.getD (i + 1) 0 by omega, decide_false, Bool.false_and, Bool.or_self]

theorem frs_none {s : List Int} {b : Bool} (h : ∀ i, i + 1 < s.length → sml s i = b) : frs s s.length = [] := by
  apply List.eq_nil_iff_forall_not_mem.2
  intro x hx
  obtain ⟨i, rfl, h1, h2, h3, h4⟩ := frs_mem hx
  by_cases e : i + 1 < s.length
  · have := h i e
    have := h (i - 1) (by omega)
    simp_all
  · rw [sml_last (by omega)] at h3; cases h3

end Go.Proofs.Ytomnhkliimkmgaa.MM

-- math: W Base Perm SA Kinds
namespace Go.Proofs.Ytomnhkliimkmgaa.MM

def lcpL : List Int → List Int → Nat
  | a :: as, b :: bs => if a = b then lcpL as bs + 1 else 0
  | _, _ => 0

/-- how much two endings have alike -/
def lcp (s : List Int) (x y : Nat) : Nat := lcpL (s.drop x) (s.drop y)

theorem lcpL_comm : ∀ a b : List Int, lcpL a b = lcpL b a
  | [], [] => rfl
  | [], _ :: _ => rfl
  | _ :: _, [] => rfl
  | a :: as, b :: bs => by
    simp only [lcpL]
    by_cases h : a = b
    · rw [if_pos h, if_pos h.symm, lcpL_comm]
    · rw [if_neg h, if_neg (Ne.symm h)]

theorem lcpL_le : ∀ a b : List Int, lcpL a b ≤ a.length ∧ lcpL a b ≤ b.length
  | [], [] => by simp [lcpL]
  | [], _ :: _ => by simp [lcpL]
  | _ :: _, [] => by simp [lcpL]
  | a :: as, b :: bs => by
    have := lcpL_le as bs
    simp only [lcpL]
    by_cases h : a = b
    · rw [if_pos h]; simp only [List.length_cons]; omega
    · rw [if_neg h]; omega

theorem lcp_comm (s : List Int) (x y : Nat) : lcp s x y = lcp s y x := lcpL_comm _ _

theorem lcp_end {s : List Int} {x y : Nat} (h : s.length ≤ x ∨ s.length ≤ y) : lcp s x y = 0 := by
  unfold lcp
  have := lcpL_le (s.drop x) (s.drop y)
  rw [List.length_drop, List.length_drop] at this
  omega

theorem lcp_step {s : List Int} {x y : Nat} (hx : x < s.length) (hy : y < s.length) : lcp s x y = if s.getD x 0 = s.getD y 0 then lcp s (x + 1) (y + 1) + 1 else 0 := by
  unfold lcp
  rw [drop_cons_get hx, drop_cons_get hy, lcpL]

theorem lcp_le {s : List Int} {x y : Nat} (hx : x ≤ s.length) (hy : y ≤ s.length) : x + lcp s x y ≤ s.length ∧ y + lcp s x y ≤ s.length := by
  unfold lcp
  have := lcpL_le (s.drop x) (s.drop y)
  rw [List.length_drop, List.length_drop] at this
  omega

theorem lcp_self {s : List Int} : ∀ (d : Nat) {x : Nat}, x + d = s.length → lcp s x x = d
  | 0, x, h => lcp_end (by omega)
  | d + 1, x, h => by rw [lcp_step (by omega) (by omega), if_pos rfl, lcp_self d (by omega)]

/-- so much is alike -/
theorem lcp_add {s : List Int} : ∀ (m : Nat) {x y : Nat}, x + m ≤ s.length → y + m ≤ s.length → (∀ z, z < m → s.getD (x + z) 0 = s.getD (y + z) 0) → lcp s x y = m + lcp s (x + m) (y + m)
  | 0, x, y, _, _, _ => by simp
  | m + 1, x, y, hx, hy, h => by
    have h0 : s.getD x 0 = s.getD y 0 := by simpa using h 0 (by omega)
    rw [lcp_step (by omega) (by omega), if_pos h0, lcp_add m (x := x + 1) (y := y + 1) (by omega) (by omega) (fun z hz => by
      have := h (z + 1) (by omega)
      rw [show x + 1 + z = x + (z + 1) by omega, show y + 1 + z = y + (z + 1) by omega]; exact this)]
    rw [show x + 1 + m = x + (m + 1) by omega, show y + 1 + m = y + (m + 1) by omega]
    omega

theorem lcp_alike {s : List Int} : ∀ (m : Nat) {x y : Nat}, m ≤ lcp s x y → ∀ z, z < m → s.getD (x + z) 0 = s.getD (y + z) 0
  | 0, _, _, _, z, hz => by omega
  | m + 1, x, y, h, z, hz => by
    have hx : x < s.length := by
      rcases Nat.lt_or_ge x s.length with h1 | h1
      · exact h1
      · rw [lcp_end (.inl h1)] at h; omega
    have hy : y < s.length := by
      rcases Nat.lt_or_ge y s.length with h1 | h1
      · exact h1
      · rw [lcp_end (.inr h1)] at h; omega
    rw [lcp_step hx hy] at h
    by_cases he : s.getD x 0 = s.getD y 0
    · rw [if_pos he] at h
      cases z with
      | zero => simpa using he
      | succ z =>
        have := lcp_alike (s := s) m (x := x + 1) (y := y + 1) (by omega) z (by omega)
        rw [show x + 1 + z = x + (z + 1) by omega, show y + 1 + z = y + (z + 1) by omega] at this; exact this
    · rw [if_neg he] at h; omega

theorem lcp_split {s : List Int} {x y m : Nat} (h : m ≤ lcp s x y) (hx : x ≤ s.length) (hy : y ≤ s.length) : lcp s x y = m + lcp s (x + m) (y + m) := by
  have := lcp_le hx hy
  exact lcp_add m (by omega) (by omega) (lcp_alike m h)

/-- of three in order, the outer ones have no more alike than the last two -/
theorem lcpL_between : ∀ {a b c : List Int}, ltL a b → ltL b c → lcpL a c ≤ lcpL b c
  | [], _, _, _, _ => by simp [lcpL]
  | _ :: _, [], _, h, _ => by simp [ltL, cmpL] at h
  | _ :: _, _ :: _, [], _, h => by simp [ltL, cmpL] at h
  | a :: as, b :: bs, c :: cs, h, k => by
    simp only [ltL, cmpL] at h k
    simp only [lcpL]
    by_cases h1 : a < b
    · have : ¬ a = c := by
        by_cases k1 : b < c
        · omega
        · by_cases k2 : c < b
          · simp [k1, k2] at k
          · omega
      rw [if_neg this]; omega
    · by_cases h2 : b < a
      · simp [h1, h2] at h
      · have e : a = b := by omega
        subst e
        simp at h
        by_cases k1 : a < c
        · rw [if_neg (by omega)]; omega
        · by_cases k2 : c < a
          · simp [k1, k2] at k
          · simp [k1, k2] at k
            have e2 : a = c := by omega
            rw [if_pos e2, if_pos e2]
            have := lcpL_between h k
            omega

theorem pairwise_of_adj {R : Int → Int → Prop} (ht : ∀ x y z, R x y → R y z → R x z) : ∀ {l : List Int}, (∀ i, i + 1 < l.length → R (l.getD i 0) (l.getD (i + 1) 0)) → l.Pairwise R
  | [], _ => .nil
  | [_], _ => by simp
  | x :: y :: l, h => by
    have hp : (y :: l).Pairwise R := pairwise_of_adj ht (fun i hi => by
      have := h (i + 1) (by simp at hi ⊢; omega)
      simpa using this)
    have hxy : R x y := by simpa using h 0 (by simp)
    rw [List.pairwise_cons]
    refine ⟨fun z hz => ?_, hp⟩
    rcases List.mem_cons.1 hz with rfl | hz
    · exact hxy
    · exact ht _ _ _ hxy ((List.pairwise_cons.1 hp).1 z hz)

/-- the rank of a place; the empty ending is the least -/
def rk (a : List Int) (x : Nat) : Int := (inv a ++ [-1]).getD x 0

theorem rk_in {a : List Int} {x : Nat} (h : x < a.length) : rk a x = (inv a).getD x 0 := by
  unfold rk
  rw [List.getD_eq_getElem?_getD, List.getElem?_append_left (by rw [inv_length]; exact h), ← List.getD_eq_getElem?_getD]

theorem rk_end (a : List Int) : rk a a.length = -1 := by
  unfold rk
  rw [List.getD_eq_getElem?_getD, List.getElem?_append_right (by rw [inv_length]; omega), inv_length]
  simp

/-- a pair in order by its first numbers, then by the ranks behind -/
def adjOk (s a : List Int) (x y : Int) : Prop := s.getD x.toNat 0 < s.getD y.toNat 0 ∨ (s.getD x.toNat 0 = s.getD y.toNat 0 ∧ rk a (x.toNat + 1) < rk a (y.toNat + 1))

/-- what the programs look for -/
def adjBad (s a : List Int) (x y : Int) : Prop := s.getD y.toNat 0 < s.getD x.toNat 0 ∨ (s.getD x.toNat 0 = s.getD y.toNat 0 ∧ rk a (y.toNat + 1) < rk a (x.toNat + 1))

theorem rk_inj {a : List Int} (hp : isPerm a) {x y : Nat} (hx : x ≤ a.length) (hy : y ≤ a.length) (h : rk a x = rk a y) : x = y := by
  by_cases ex : x = a.length
  · by_cases ey : y = a.length
    · omega
    · subst ex
      rw [rk_end, rk_in (by omega)] at h
      have := (at_inv hp (v := y) (by omega)).2
      omega
  · by_cases ey : y = a.length
    · subst ey
      rw [rk_end, rk_in (by omega)] at h
      have := (at_inv hp (v := x) (by omega)).2
      omega
    · rw [rk_in (by omega), rk_in (by omega)] at h
      have h1 := (at_inv hp (v := x) (by omega)).1
      have h2 := (at_inv hp (v := y) (by omega)).1
      rw [h, h2] at h1
      omega

theorem adj_not_bad {s a : List Int} (hp : isPerm a) {x y : Int} (hx : 0 ≤ x ∧ x < a.length) (hy : 0 ≤ y ∧ y < a.length) (hxy : x ≠ y) : ¬ adjBad s a x y ↔ adjOk s a x y := by
  unfold adjBad adjOk
  have : rk a (x.toNat + 1) ≠ rk a (y.toNat + 1) := fun h => by
    have := rk_inj hp (by omega) (by omega) h
    omega
  omega

/-- no pair of neighbours is bad: in order -/
theorem sa_of_adj {s a : List Int} (hl : a.length = s.length) (hp : isPerm a) (h : ∀ i, i + 1 < a.length → ¬ adjBad s a (a.getD i 0) (a.getD (i + 1) 0)) : IsSA s a := by
  have hpw : a.Pairwise (adjOk s a) := by
    refine pairwise_of_adj (fun x y z h1 h2 => ?_) (fun i hi => ?_)
    · unfold adjOk at *; omega
    · have h1 := hp.1 _ (getD_mem (show i < a.length by omega))
      have h2 := hp.1 _ (getD_mem hi)
      refine (adj_not_bad hp h1 h2 (fun e => ?_)).1 (h i hi)
      have := getD_inj hp.2 (by omega) hi e
      omega
  have key : ∀ x y : Nat, x < s.length → y < s.length → rk a x < rk a y → s.getD x 0 < s.getD y 0 ∨ (s.getD x 0 = s.getD y 0 ∧ rk a (x + 1) < rk a (y + 1)) := by
    intro x y hx hy hr
    rw [rk_in (by omega), rk_in (by omega)] at hr
    have h1 := at_inv hp (v := x) (by omega)
    have h2 := at_inv hp (v := y) (by omega)
    have := pair_getD hpw (i := ((inv a).getD x 0).toNat) (j := ((inv a).getD y 0).toNat) (by omega) (by omega)
    rw [h1.1, h2.1] at this
    simpa [adjOk] using this
  refine ⟨hl, fun x hx => by rw [← hl]; exact hp.1 x hx, List.pairwise_iff_getElem.2 fun i j hi hj hij => ?_⟩
  have e1 : a[i] = a.getD i 0 := by rw [List.getD_eq_getElem?_getD, List.getElem?_eq_getElem hi]; rfl
  have e2 : a[j] = a.getD j 0 := by rw [List.getD_eq_getElem?_getD, List.getElem?_eq_getElem hj]; rfl
  rw [e1, e2]
  have h1 := hp.1 _ (getD_mem hi)
  have h2 := hp.1 _ (getD_mem hj)
  have := ranks_sort (s := s) (r := rk a) (fun x hx => by
    rw [← hl, rk_end, rk_in (by omega)]
    have := (at_inv hp (v := x) (by omega)).2
    omega) key (s.length + 1) (a.getD i 0).toNat (a.getD j 0).toNat (by omega) (by omega) (by omega) (by
      rw [rk_in (by omega), rk_in (by omega), inv_at hp hi, inv_at hp hj]; omega)
  rwa [Int.toNat_of_nonneg h1.1, Int.toNat_of_nonneg h2.1] at this

theorem sa_rank {s a : List Int} (h : IsSA s a) {x y : Nat} (hx : x < s.length) (hy : y < s.length) : (inv a).getD x 0 < (inv a).getD y 0 ↔ sufLt s x y := by
  have hl := h.1
  have h1 := at_inv h.perm (v := x) (by omega)
  have h2 := at_inv h.perm (v := y) (by omega)
  have fwd : ∀ {u v : Nat}, u < s.length → v < s.length → (inv a).getD u 0 < (inv a).getD v 0 → sufLt s u v := fun {u v} hu hv hr => by
    have h1 := at_inv h.perm (v := u) (by omega)
    have h2 := at_inv h.perm (v := v) (by omega)
    have := pair_getD h.2.2 (i := ((inv a).getD u 0).toNat) (j := ((inv a).getD v 0).toNat) (by omega) (by omega)
    rwa [h1.1, h2.1] at this
  constructor
  · exact fwd hx hy
  · intro hs
    rcases Int.lt_trichotomy ((inv a).getD x 0) ((inv a).getD y 0) with k | k | k
    · exact k
    · have : x = y := by
        have e := h1.1
        rw [k, h2.1] at e
        omega
      subst this
      exact absurd hs (ltL_irrefl _)
    · exact absurd (fwd hy hx k) (sufLt_asymm hs)

/-- in order, no pair of neighbours is bad -/
theorem adj_of_sa {s a : List Int} (h : IsSA s a) {i : Nat} (hi : i + 1 < a.length) : ¬ adjBad s a (a.getD i 0) (a.getD (i + 1) 0) := by
  have hl := h.1
  have hp := h.perm
  have h1 := hp.1 _ (getD_mem (show i < a.length by omega))
  have h2 := hp.1 _ (getD_mem hi)
  have hs := pair_getD h.2.2 (show i < i + 1 by omega) hi
  generalize a.getD i 0 = x at *
  generalize a.getD (i + 1) 0 = y at *
  obtain ⟨x, rfl⟩ : ∃ m : Nat, x = m := ⟨x.toNat, by omega⟩
  obtain ⟨y, rfl⟩ : ∃ m : Nat, y = m := ⟨y.toNat, by omega⟩
  have := (sufLt_step (by omega) (by omega)).1 hs
  unfold adjBad
  simp only [Int.toNat_natCast]
  rcases this with k | ⟨k1, k2⟩
  · omega
  · have : rk a (x + 1) < rk a (y + 1) := by
      by_cases ey : y + 1 = a.length
      · exfalso
        unfold sufLt at k2
        rw [List.drop_of_length_le (i := ((y : Int) + 1).toNat) (by omega)] at k2
        exact not_ltL_nil _ k2
      · by_cases ex : x + 1 = a.length
        · rw [ex, rk_end, rk_in (by omega)]
          have := (at_inv hp (v := y + 1) (by omega)).2
          omega
        · rw [rk_in (by omega), rk_in (by omega)]
          exact (sa_rank h (by omega) (by omega)).2 (by simpa using k2)
    omega

/-- Kasai's lemma: one place on, at most one less alike with the one ahead -/
theorem lcp_falls {s a : List Int} (h : IsSA s a) {i : Nat} (hi : i + 1 < s.length) {p q : Int}
    (hp : 0 < (inv a).getD i 0 ∧ a.getD ((inv a).getD i 0 - 1).toNat 0 = p) (hq : 0 < (inv a).getD (i + 1) 0 ∧ a.getD ((inv a).getD (i + 1) 0 - 1).toNat 0 = q) :
    lcp s i p.toNat ≤ lcp s (i + 1) q.toNat + 1 := by
  have hl := h.1
  have hpm := h.perm
  have hi1 := at_inv hpm (v := i) (by omega)
  have hi2 := at_inv hpm (v := i + 1) (by omega)
  have hpr := hpm.1 p (by rw [← hp.2]; exact getD_mem (by omega))
  have hqr := hpm.1 q (by rw [← hq.2]; exact getD_mem (by omega))
  obtain ⟨p, rfl⟩ : ∃ m : Nat, p = m := ⟨p.toNat, by omega⟩
  obtain ⟨q, rfl⟩ : ∃ m : Nat, q = m := ⟨q.toNat, by omega⟩
  simp only [Int.toNat_natCast]
  have hlt : sufLt s p i := by
    have := pair_getD h.2.2 (i := ((inv a).getD i 0 - 1).toNat) (j := ((inv a).getD i 0).toNat) (by omega) (by omega)
    rwa [hp.2, hi1.1] at this
  have hst := lcp_step (s := s) (x := i) (y := p) (by omega) (by omega)
  by_cases he : s.getD i 0 = s.getD p 0
  · rw [if_pos he] at hst
    by_cases hz : lcp s (i + 1) (p + 1) = 0
    · omega
    · have hp1 : p + 1 < s.length := by
        rcases Nat.lt_or_ge (p + 1) s.length with k | k
        · exact k
        · rw [lcp_end (.inr k)] at hz; omega
      have h3 := (sufLt_step (by omega) (by omega)).1 hlt
      have h4 : sufLt s ((p + 1 : Nat) : Int) ((i + 1 : Nat) : Int) := by
        rcases h3 with k | k
        · omega
        · simpa using k.2
      -- q is the last one less
      have h5 := (sa_rank h hp1 hi).2 h4
      have hq2 := inv_at hpm (i := ((inv a).getD (i + 1) 0 - 1).toNat) (by omega)
      rw [hq.2, Int.toNat_natCast] at hq2
      have hp2 := at_inv hpm (v := p + 1) (by omega)
      by_cases e : p + 1 = q
      · rw [hst, e]; omega
      · have h6 : sufLt s ((p + 1 : Nat) : Int) (q : Int) := by
          refine (sa_rank h hp1 (by omega)).1 ?_
          have hne : (inv a).getD (p + 1) 0 ≠ (inv a).getD q 0 := fun hh => by
            have h7 := hp2.1
            have h8 := (at_inv hpm (v := q) (by omega)).1
            rw [hh, h8] at h7
            omega
          omega
        have h7 : sufLt s (q : Int) ((i + 1 : Nat) : Int) := by
          have := pair_getD h.2.2 (i := ((inv a).getD (i + 1) 0 - 1).toNat) (j := ((inv a).getD (i + 1) 0).toNat) (by omega) (by omega)
          rwa [hq.2, hi2.1] at this
        have h8 : lcp s (p + 1) (i + 1) ≤ lcp s q (i + 1) := by
          have := lcpL_between h6 h7
          simpa [lcp] using this
        rw [hst, lcp_comm s (i + 1) (p + 1), lcp_comm s (i + 1) q]; omega
  · rw [if_neg he] at hst; omega

end Go.Proofs.Ytomnhkliimkmgaa.MM
namespace Go.Proofs.Ytomnhkliimkmgaa.MM

/-- what Common answers -/
def comR (s : List Int) (i j : Int) : Int := if 0 ≤ i ∧ i ≤ s.length ∧ 0 ≤ j ∧ j ≤ s.length then (lcp s i.toNat j.toNat : Int) else 0

theorem comR_nat {s : List Int} {i j : Nat} (hi : i ≤ s.length) (hj : j ≤ s.length) : comR s (i : Int) (j : Int) = (lcp s i j : Int) := by
  unfold comR; rw [if_pos (by omega)]; simp

/-- where one looks on from what is alike -/
theorem lcp_stop {s : List Int} {i j n : Nat} (hi : i + n ≤ s.length) (hj : j + n ≤ s.length) (h : ∀ z, z < n → s.getD (i + z) 0 = s.getD (j + z) 0) (he : s.length ≤ i + n ∨ s.length ≤ j + n ∨ s.getD (i + n) 0 ≠ s.getD (j + n) 0) : lcp s i j = n := by
  rw [lcp_add n hi hj h]
  by_cases e : s.length ≤ i + n ∨ s.length ≤ j + n
  · rw [lcp_end e]; omega
  · rw [lcp_step (by omega) (by omega), if_neg (by omega)]; omega

/-- the place ahead in the order; -1: none -/
def ahd (a : List Int) (v : Nat) : Int := if a.idxOf (v : Int) = 0 then -1 else a.getD (a.idxOf (v : Int) - 1) 0

def ahdRow (a : List Int) : List Int := (List.range a.length).map (ahd a)

theorem ahdRow_length (a : List Int) : (ahdRow a).length = a.length := by simp [ahdRow]

theorem ahdRow_get {a : List Int} {v : Nat} (h : v < a.length) : (ahdRow a).getD v 0 = ahd a v := by
  unfold ahdRow
  rw [List.getD_eq_getElem?_getD, List.getElem?_map, List.getElem?_range h]; rfl

theorem idxOf_at {a : List Int} (hp : isPerm a) {i : Nat} (hi : i < a.length) : a.idxOf (a.getD i 0) = i := by
  have hm := getD_mem hi
  exact getD_inj hp.2 (List.idxOf_lt_length_of_mem hm) hi (idxOf_getD hm)

theorem ahd_at {a : List Int} (hp : isPerm a) {i : Nat} (hi : i < a.length) : ahd a (a.getD i 0).toNat = if i = 0 then -1 else a.getD (i - 1) 0 := by
  have hm := hp.1 _ (getD_mem hi)
  unfold ahd
  rw [show (((a.getD i 0).toNat : Nat) : Int) = a.getD i 0 by omega, idxOf_at hp hi]

theorem ahd_range {a : List Int} (hp : isPerm a) {v : Nat} (hv : v < a.length) : -1 ≤ ahd a v ∧ ahd a v < a.length := by
  have hm : (v : Int) ∈ a := hp.mem (by omega) (by omega)
  have hi := List.idxOf_lt_length_of_mem hm
  unfold ahd
  split
  · omega
  · have := hp.1 _ (getD_mem (a := a) (i := a.idxOf (v : Int) - 1) (by omega))
    omega

/-- how much a place has alike with the one ahead -/
def plc (s a : List Int) (v : Nat) : Int := if ahd a v = -1 then 0 else (lcp s v (ahd a v).toNat : Int)

def plcRow (s a : List Int) : List Int := (List.range a.length).map (plc s a)

theorem plcRow_length (s a : List Int) : (plcRow s a).length = a.length := by simp [plcRow]

theorem plcRow_get {s a : List Int} {v : Nat} (h : v < a.length) : (plcRow s a).getD v 0 = plc s a v := by
  unfold plcRow
  rw [List.getD_eq_getElem?_getD, List.getElem?_map, List.getElem?_range h]; rfl

/-- how much neighbours have alike -/
def lcpAt (s a : List Int) (i : Nat) : Int := if i = 0 then 0 else (lcp s (a.getD (i - 1) 0).toNat (a.getD i 0).toNat : Int)

def lcpRow (s a : List Int) : List Int := (List.range a.length).map (lcpAt s a)

theorem lcpRow_length (s a : List Int) : (lcpRow s a).length = a.length := by simp [lcpRow]

theorem lcpRow_get {s a : List Int} {i : Nat} (h : i < a.length) : (lcpRow s a).getD i 0 = lcpAt s a i := by
  unfold lcpRow
  rw [List.getD_eq_getElem?_getD, List.getElem?_map, List.getElem?_range h]; rfl

theorem plc_at {s a : List Int} (hp : isPerm a) {i : Nat} (hi : i < a.length) : plc s a (a.getD i 0).toNat = lcpAt s a i := by
  unfold plc lcpAt
  rw [ahd_at hp hi]
  by_cases h : i = 0
  · rw [if_pos h, if_pos h, if_pos rfl]
  · rw [if_neg h, if_neg h, lcp_comm]
    have := hp.1 _ (getD_mem (a := a) (i := i - 1) (by omega))
    rw [if_neg (by omega)]

theorem plc_le {s a : List Int} (hp : isPerm a) (hl : a.length = s.length) {v : Nat} (hv : v < a.length) : 0 ≤ plc s a v ∧ plc s a v ≤ s.length - v := by
  unfold plc
  have hr := ahd_range hp hv
  split
  · omega
  · have := lcp_le (s := s) (x := v) (y := (ahd a v).toNat) (by omega) (by omega)
    omega

/-- from place to place it falls by one at most: by Kasai's lemma -/
theorem plc_falls {s a : List Int} (h : IsSA s a) {v : Nat} (hv : v + 1 < s.length) (hq : ahd a (v + 1) ≠ -1) : plc s a v - 1 ≤ plc s a (v + 1) := by
  have hl := h.1
  have hp := h.perm
  unfold plc
  by_cases h0 : ahd a v = -1
  · rw [if_pos h0, if_neg hq]; omega
  · rw [if_neg h0, if_neg hq]
    have e1 : (inv a).getD v 0 = ((a.idxOf (v : Int) : Nat) : Int) := inv_get (by omega)
    have e2 : (inv a).getD (v + 1) 0 = ((a.idxOf ((v + 1 : Nat) : Int) : Nat) : Int) := inv_get (by omega)
    have n1 : a.idxOf (v : Int) ≠ 0 := fun e => h0 (by unfold ahd; rw [if_pos e])
    have n2 : a.idxOf ((v + 1 : Nat) : Int) ≠ 0 := fun e => hq (by unfold ahd; rw [if_pos e])
    have := lcp_falls h (i := v) hv (p := ahd a v) (q := ahd a (v + 1)) ⟨by omega, by unfold ahd; rw [if_neg n1, e1]; congr 1; omega⟩ ⟨by omega, by unfold ahd; rw [if_neg n2, e2]; congr 1; omega⟩
    omega

end Go.Proofs.Ytomnhkliimkmgaa.MM
namespace Go.Proofs.Ytomnhkliimkmgaa.MM

theorem plc_falls_all {s a : List Int} (h : IsSA s a) {v : Nat} (hv : v + 1 < s.length) : plc s a v - 1 ≤ plc s a (v + 1) := by
  by_cases hq : ahd a (v + 1) = -1
  · have hl := h.1
    have hp := h.perm
    have hpv : plc s a (v + 1) = 0 := by unfold plc; rw [if_pos hq]
    have hr := ahd_range hp (v := v) (by omega)
    have hidx : a.idxOf ((v + 1 : Nat) : Int) = 0 := by
      by_cases e : a.idxOf ((v + 1 : Nat) : Int) = 0
      · exact e
      · exfalso
        unfold ahd at hq
        rw [if_neg e] at hq
        have hm : ((v + 1 : Nat) : Int) ∈ a := hp.mem (by omega) (by omega)
        have := hp.1 _ (getD_mem (a := a) (i := a.idxOf ((v + 1 : Nat) : Int) - 1) (by have := List.idxOf_lt_length_of_mem hm; omega))
        omega
    rw [hpv]
    by_cases h0 : ahd a v = -1
    · unfold plc; rw [if_pos h0]; omega
    · obtain ⟨p, hpe⟩ : ∃ p : Nat, ahd a v = p := ⟨(ahd a v).toNat, by omega⟩
      have hpl : plc s a v = (lcp s v p : Int) := by unfold plc; rw [if_neg h0, hpe]; rfl
      rw [hpl]
      rcases Nat.lt_or_ge 1 (lcp s v p) with h2 | h2
      · exfalso
        have hst := lcp_step (s := s) (x := v) (y := p) (by omega) (by omega)
        by_cases he : s.getD v 0 = s.getD p 0
        · rw [if_pos he] at hst
          have hp1 : p + 1 < s.length := by
            rcases Nat.lt_or_ge (p + 1) s.length with k | k
            · exact k
            · rw [lcp_end (.inr k)] at hst; omega
          have hlt : sufLt s p v := by
            have hm : (v : Int) ∈ a := hp.mem (by omega) (by omega)
            have hi := List.idxOf_lt_length_of_mem hm
            have n1 : a.idxOf (v : Int) ≠ 0 := fun e => h0 (by unfold ahd; rw [if_pos e])
            have := pair_getD h.2.2 (i := a.idxOf (v : Int) - 1) (j := a.idxOf (v : Int)) (by omega) hi
            unfold ahd at hpe
            rw [if_neg n1] at hpe
            rwa [hpe, idxOf_getD hm] at this
          rcases (sufLt_step (by omega) (by omega)).1 hlt with k | k
          · omega
          · have h4 : sufLt s ((p + 1 : Nat) : Int) ((v + 1 : Nat) : Int) := by simpa using k.2
            have h5 := (sa_rank h hp1 hv).2 h4
            rw [inv_get (by omega), inv_get (by omega), hidx] at h5
            omega
        · rw [if_neg he] at hst; omega
      · omega
  · exact plc_falls h hv hq

/-- one byte again and again: the shorter endings come first -/
def runSA (n : Nat) : List Int := (List.range n).map (fun (i : Nat) => ((n - 1 - i : Nat) : Int))

theorem runSA_length (n : Nat) : (runSA n).length = n := by simp [runSA]

theorem runSA_get {n i : Nat} (h : i < n) : (runSA n).getD i 0 = ((n - 1 - i : Nat) : Int) := by
  unfold runSA
  rw [List.getD_eq_getElem?_getD, List.getElem?_map, List.getElem?_range h]; rfl

theorem runSA_sa (n : Nat) (c : Int) : IsSA (List.replicate n c) (runSA n) := by
  refine ⟨by rw [runSA_length]; simp, fun x hx => ?_, List.pairwise_iff_getElem.2 fun i j hi hj hij => ?_⟩
  · unfold runSA at hx
    obtain ⟨i, hi, rfl⟩ := List.mem_map.1 hx
    rw [List.mem_range] at hi
    rw [List.length_replicate]; omega
  · rw [runSA_length] at hi hj
    have e1 : (runSA n)[i] = ((n - 1 - i : Nat) : Int) := by rw [← runSA_get hi, List.getD_eq_getElem?_getD, List.getElem?_eq_getElem (by rw [runSA_length]; exact hi)]; rfl
    have e2 : (runSA n)[j] = ((n - 1 - j : Nat) : Int) := by rw [← runSA_get hj, List.getD_eq_getElem?_getD, List.getElem?_eq_getElem (by rw [runSA_length]; exact hj)]; rfl
    rw [e1, e2]
    unfold sufLt
    simp only [Int.toNat_natCast, List.drop_replicate]
    refine ltL_pre (by simp only [List.length_replicate]; omega) (fun y hy => ?_)
    simp only [List.length_replicate] at hy
    simp only [List.getD_eq_getElem?_getD, List.getElem?_replicate]
    rw [if_pos (by omega), if_pos (by omega)]

theorem run_lcp {n i : Nat} {c : Int} (h0 : 0 < i) (hi : i < n) : lcp (List.replicate n c) (n - i) (n - 1 - i) = i := by
  refine lcp_stop (by simp only [List.length_replicate]; omega) (by simp only [List.length_replicate]; omega) (fun z hz => ?_) (.inl (by simp only [List.length_replicate]; omega))
  simp only [List.getD_eq_getElem?_getD, List.getElem?_replicate]
  rw [if_pos (by omega), if_pos (by omega)]

end Go.Proofs.Ytomnhkliimkmgaa.MM

-- math: W Base Perm SA Stab Kinds Lcp
namespace Go.Proofs.Ytomnhkliimkmgaa.MM

/-- a number and one more; nought behind the end -/
def ky (s : List Int) (i : Nat) : Int := if i < s.length then s.getD i 0 + 1 else 0

def noNeg (s : List Int) : Prop := ∀ x ∈ s, 0 ≤ x

theorem ky_pos {s : List Int} (h : noNeg s) {i : Nat} (hi : i < s.length) : 1 ≤ ky s i := by
  unfold ky; rw [if_pos hi]
  have := h _ (getD_mem hi)
  omega

theorem ky_end {s : List Int} {i : Nat} (hi : s.length ≤ i) : ky s i = 0 := by
  unfold ky; rw [if_neg (by omega)]

theorem ky_nn {s : List Int} (h : noNeg s) (i : Nat) : 0 ≤ ky s i := by
  rcases Nat.lt_or_ge i s.length with hi | hi
  · have := ky_pos h hi; omega
  · rw [ky_end hi]; omega

theorem ky_in {s : List Int} {i : Nat} (hi : i < s.length) : ky s i = s.getD i 0 + 1 := by
  unfold ky; rw [if_pos hi]

/-- the keys from p on are less than those from q on -/
theorem ky_suf {s : List Int} (h : noNeg s) {p q m : Nat} (hp : p ≤ s.length) (hq : q ≤ s.length) (he : ∀ y, y < m → ky s (p + y) = ky s (q + y)) (hl : ky s (p + m) < ky s (q + m)) : sufLt s p q := by
  have hq1 : q + m < s.length := by
    rcases Nat.lt_or_ge (q + m) s.length with k | k
    · exact k
    · rw [ky_end k] at hl
      have := ky_nn h (p + m)
      omega
  unfold sufLt
  simp only [Int.toNat_natCast]
  rcases Nat.lt_or_ge (p + m) s.length with k | k
  · refine ltL_mk m (by rw [List.length_drop]; omega) (by rw [List.length_drop]; omega) (fun y hy => ?_) ?_
    · have := he y hy
      rw [ky_in (by omega), ky_in (by omega)] at this
      rw [getD_dropI, getD_dropI]; omega
    · rw [ky_in (by omega), ky_in (by omega)] at hl
      rw [getD_dropI, getD_dropI]; omega
  · have hm : s.length - p = m := by
      rcases Nat.lt_or_ge (s.length - p) m with k2 | k2
      · have := he _ k2
        rw [ky_end (by omega)] at this
        have := ky_pos h (show q + (s.length - p) < s.length by omega)
        omega
      · omega
    refine ltL_pre (by rw [List.length_drop, List.length_drop]; omega) (fun y hy => ?_)
    rw [List.length_drop] at hy
    have := he y (by omega)
    rw [ky_in (by omega), ky_in (by omega)] at this
    rw [getD_dropI, getD_dropI]; omega

/-- three keys -/
def triLt (s : List Int) (p q : Nat) : Prop := ky s p < ky s q ∨ (ky s p = ky s q ∧ (ky s (p + 1) < ky s (q + 1) ∨ (ky s (p + 1) = ky s (q + 1) ∧ ky s (p + 2) < ky s (q + 2))))

def triEq (s : List Int) (p q : Nat) : Prop := ky s p = ky s q ∧ ky s (p + 1) = ky s (q + 1) ∧ ky s (p + 2) = ky s (q + 2)

theorem tri_tri (s : List Int) (p q : Nat) : triLt s p q ∨ triEq s p q ∨ triLt s q p := by unfold triLt triEq; omega

theorem triLt_irrefl {s : List Int} {p q : Nat} (h : triEq s p q) : ¬ triLt s p q := by unfold triLt triEq at *; omega

theorem triLt_asymm {s : List Int} {p q : Nat} (h : triLt s p q) : ¬ triLt s q p := by unfold triLt at *; omega

theorem triLt_trans {s : List Int} {p q r : Nat} (h : triLt s p q) (h' : triLt s q r) : triLt s p r := by unfold triLt at *; omega

/-- threes: alike so many times, then less -/
theorem tri_suf {s : List Int} (h : noNeg s) {p q x : Nat} (hp : p ≤ s.length) (hq : q ≤ s.length) (he : ∀ y, y < x → triEq s (p + 3 * y) (q + 3 * y)) (hl : triLt s (p + 3 * x) (q + 3 * x)) : sufLt s p q := by
  have he' : ∀ y, y < 3 * x → ky s (p + y) = ky s (q + y) := fun y hy => by
    have := he (y / 3) (by omega)
    unfold triEq at this
    have hc : y % 3 = 0 ∨ y % 3 = 1 ∨ y % 3 = 2 := by omega
    rcases hc with hc | hc | hc
    · rw [show p + y = p + 3 * (y / 3) by omega, show q + y = q + 3 * (y / 3) by omega]; exact this.1
    · rw [show p + y = p + 3 * (y / 3) + 1 by omega, show q + y = q + 3 * (y / 3) + 1 by omega]; exact this.2.1
    · rw [show p + y = p + 3 * (y / 3) + 2 by omega, show q + y = q + 3 * (y / 3) + 2 by omega]; exact this.2.2
  unfold triLt at hl
  rcases hl with hl | ⟨h1, hl | ⟨h2, hl⟩⟩
  · exact ky_suf h hp hq he' hl
  · refine ky_suf h (m := 3 * x + 1) hp hq (fun y hy => ?_) hl
    by_cases e : y = 3 * x
    · subst e; exact h1
    · exact he' y (by omega)
  · refine ky_suf h (m := 3 * x + 2) hp hq (fun y hy => ?_) hl
    by_cases e : y = 3 * x
    · subst e; exact h1
    · by_cases e2 : y = 3 * x + 1
      · subst e2; exact h2
      · exact he' y (by omega)

/-- two endings that are alike until both are at their end are one -/
theorem ky_same {s : List Int} (h : noNeg s) {p q m : Nat} (hp : p ≤ s.length) (hq : q ≤ s.length) (he : ∀ y, y < m → ky s (p + y) = ky s (q + y)) (h1 : s.length ≤ p + m) (h2 : s.length ≤ q + m) : p = q := by
  rcases Nat.lt_trichotomy p q with k | k | k
  · have := he (s.length - q) (by omega)
    rw [ky_end (i := q + (s.length - q)) (by omega)] at this
    have := ky_pos h (show p + (s.length - q) < s.length by omega)
    omega
  · exact k
  · have := he (s.length - p) (by omega)
    rw [ky_end (i := p + (s.length - p)) (by omega)] at this
    have := ky_pos h (show q + (s.length - p) < s.length by omega)
    omega

/-- names of the sample's places -/
def tNames (s : List Int) (R : Nat → Int) : Prop := (∀ p, p < s.length → p % 3 ≠ 0 → 1 ≤ R p) ∧
  ∀ p q, p < s.length → p % 3 ≠ 0 → q < s.length → q % 3 ≠ 0 → R p < R q → triLt s p q

/-- the names, a nought between -/
def isBelow (s : List Int) (R : Nat → Int) (b : List Int) : Prop := b.length = (s.length + 1) / 3 + 1 + s.length / 3 ∧
  (∀ i, i < (s.length + 1) / 3 → b.getD i 0 = R (3 * i + 1)) ∧ b.getD ((s.length + 1) / 3) 0 = 0 ∧ ∀ i, i < s.length / 3 → b.getD ((s.length + 1) / 3 + 1 + i) 0 = R (3 * i + 2)

/-- the place of an index -/
def pl3 (n i : Nat) : Nat := if i < (n + 1) / 3 then 3 * i + 1 else 3 * (i - (n + 1) / 3 - 1) + 2

theorem plc_lt {n i : Nat} (h : i < (n + 1) / 3 + 1 + n / 3) (hi : i ≠ (n + 1) / 3) : pl3 n i < n ∧ pl3 n i % 3 ≠ 0 := by
  unfold pl3
  by_cases h1 : i < (n + 1) / 3
  · rw [if_pos h1]; omega
  · rw [if_neg h1]; omega

theorem below_get {s : List Int} {R : Nat → Int} {b : List Int} (hb : isBelow s R b) {i : Nat} (h : i < b.length) (hi : i ≠ (s.length + 1) / 3) : b.getD i 0 = R (pl3 s.length i) := by
  obtain ⟨h1, h2, h3, h4⟩ := hb
  unfold pl3
  by_cases hl : i < (s.length + 1) / 3
  · rw [if_pos hl]; exact h2 i hl
  · rw [if_neg hl]
    have := h4 (i - (s.length + 1) / 3 - 1) (by omega)
    rwa [show (s.length + 1) / 3 + 1 + (i - (s.length + 1) / 3 - 1) = i by omega] at this

theorem tNames_eq {s : List Int} {R : Nat → Int} (hR2 : ∀ p q, p < s.length → p % 3 ≠ 0 → q < s.length → q % 3 ≠ 0 → triLt s p q → R p < R q) {p q : Nat} (hp : p < s.length) (hp3 : p % 3 ≠ 0) (hq : q < s.length) (hq3 : q % 3 ≠ 0) (h : R p = R q) : triEq s p q := by
  rcases tri_tri s p q with k | k | k
  · have := hR2 p q hp hp3 hq hq3 k; omega
  · exact k
  · have := hR2 q p hq hq3 hp hp3 k; omega

/-- the order of the names' endings is that of the sample's -/
theorem below_suf {s b : List Int} {R : Nat → Int} (hs : noNeg s) (hR : tNames s R) (hR2 : ∀ p q, p < s.length → p % 3 ≠ 0 → q < s.length → q % 3 ≠ 0 → triLt s p q → R p < R q)
    (hb : isBelow s R b) {i j : Nat} (hi : i < b.length) (hj : j < b.length) (hi0 : i ≠ (s.length + 1) / 3) (hj0 : j ≠ (s.length + 1) / 3) (h : sufLt b i j) : sufLt s (pl3 s.length i) (pl3 s.length j) := by
  unfold sufLt at h
  simp only [Int.toNat_natCast] at h
  have hij : i ≠ j := fun e => by subst e; exact ltL_irrefl _ h
  obtain ⟨x, h1, h2, h3, h4⟩ := ltL_iff.1 h
  simp only [List.length_drop] at h1 h2 h4
  have hbl := hb.1
  have hsame : ∀ y, y < x → b.getD (i + y) 0 = b.getD (j + y) 0 := fun y hy => by
    have := h3 y hy
    rw [List.getElem?_drop, List.getElem?_drop] at this
    rw [List.getD_eq_getElem?_getD, List.getD_eq_getElem?_getD, this]
  have hbpos : ∀ z, z < b.length → z ≠ (s.length + 1) / 3 → 1 ≤ b.getD z 0 := fun z hz hz0 => by
    rw [below_get hb hz hz0]
    have := plc_lt (n := s.length) (i := z) (by omega) hz0
    exact hR.1 _ this.1 this.2
  -- neither comes to the nought before
  have hno : ∀ y, y < x → i + y ≠ (s.length + 1) / 3 ∧ j + y ≠ (s.length + 1) / 3 := fun y hy => by
    have hy1 := hsame y hy
    have h0 := hb.2.2.1
    constructor
    · intro e
      rw [e, h0] at hy1
      have := hbpos (j + y) (by omega) (by omega)
      omega
    · intro e
      rw [e, h0] at hy1
      have := hbpos (i + y) (by omega) (by omega)
      omega
  have hstep : ∀ (z : Nat), z ≠ (s.length + 1) / 3 → ∀ y, y ≤ x → (∀ y', y' < y → z + y' ≠ (s.length + 1) / 3) → z + y ≠ (s.length + 1) / 3 → pl3 s.length (z + y) = pl3 s.length z + 3 * y := fun z hz y hy hn hzy => by
    unfold pl3
    by_cases hl : z < (s.length + 1) / 3
    · have hl2 : z + y < (s.length + 1) / 3 := by
        rcases Nat.lt_or_ge (z + y) ((s.length + 1) / 3) with k | k
        · exact k
        · exfalso
          have := hn ((s.length + 1) / 3 - z) (by omega)
          omega
      rw [if_pos hl, if_pos hl2]; omega
    · rw [if_neg hl, if_neg (by omega)]; omega
  have htri : ∀ y, y < x → triEq s (pl3 s.length i + 3 * y) (pl3 s.length j + 3 * y) := fun y hy => by
    have hn := hno y hy
    have e1 := hstep i hi0 y (by omega) (fun y' hy' => (hno y' (by omega)).1) hn.1
    have e2 := hstep j hj0 y (by omega) (fun y' hy' => (hno y' (by omega)).2) hn.2
    have hy1 := hsame y hy
    have hi' : i + y < b.length := by omega
    have hj' : j + y < b.length := by omega
    rw [below_get hb hi' hn.1, below_get hb hj' hn.2] at hy1
    have p1 := plc_lt (n := s.length) (i := i + y) (by omega) hn.1
    have p2 := plc_lt (n := s.length) (i := j + y) (by omega) hn.2
    have := tNames_eq hR2 p1.1 p1.2 p2.1 p2.2 hy1
    rwa [e1, e2] at this
  have pi := plc_lt (n := s.length) (i := i) (by omega) hi0
  have pj := plc_lt (n := s.length) (i := j) (by omega) hj0
  have hky : ∀ y, y < 3 * x → ky s (pl3 s.length i + y) = ky s (pl3 s.length j + y) := fun y hy => by
    have := htri (y / 3) (by omega)
    unfold triEq at this
    have hc : y % 3 = 0 ∨ y % 3 = 1 ∨ y % 3 = 2 := by omega
    generalize pl3 s.length i = p at *
    generalize pl3 s.length j = q at *
    rcases hc with hc | hc | hc
    · rw [show p + y = p + 3 * (y / 3) by omega, show q + y = q + 3 * (y / 3) by omega]; exact this.1
    · rw [show p + y = p + 3 * (y / 3) + 1 by omega, show q + y = q + 3 * (y / 3) + 1 by omega]; exact this.2.1
    · rw [show p + y = p + 3 * (y / 3) + 2 by omega, show q + y = q + 3 * (y / 3) + 2 by omega]; exact this.2.2
  -- behind a run that ends: nought
  have hends : ∀ z, z < b.length → z ≠ (s.length + 1) / 3 → (∀ y', y' < x → z + y' ≠ (s.length + 1) / 3) → (z + x = (s.length + 1) / 3 ∨ z + x = b.length) → s.length ≤ pl3 s.length z + 3 * x := fun z hz hz0 hn he => by
    unfold pl3
    rcases he with he | he
    · rw [if_pos (by omega)]; omega
    · by_cases hl : z < (s.length + 1) / 3
      · exfalso
        have := hn ((s.length + 1) / 3 - z) (by omega)
        omega
      · rw [if_neg hl]; omega
  have hni : ∀ y', y' < x → i + y' ≠ (s.length + 1) / 3 := fun y' hy' => (hno y' hy').1
  have hnj : ∀ y', y' < x → j + y' ≠ (s.length + 1) / 3 := fun y' hy' => (hno y' hy').2
  have hne : pl3 s.length i ≠ pl3 s.length j := fun e => by
    unfold pl3 at e
    by_cases a1 : i < (s.length + 1) / 3 <;> by_cases a2 : j < (s.length + 1) / 3 <;> simp only [a1, a2, if_true, if_false] at e <;> omega
  by_cases hiend : i + x = (s.length + 1) / 3 ∨ i + x = b.length
  · have ei := hends i hi hi0 hni hiend
    by_cases hjend : j + x = (s.length + 1) / 3 ∨ j + x = b.length
    · have ej := hends j hj hj0 hnj hjend
      exact absurd (ky_same hs (by omega) (by omega) hky ei ej) hne
    · have hj1 : j + x ≠ (s.length + 1) / 3 := by omega
      have e2 := hstep j hj0 x (by omega) hnj hj1
      have p2 := plc_lt (n := s.length) (i := j + x) (by omega) hj1
      refine ky_suf hs (m := 3 * x) (by omega) (by omega) hky ?_
      rw [ky_end ei]
      have := ky_pos hs (i := pl3 s.length j + 3 * x) (by omega)
      omega
  · have hi1 : i + x ≠ (s.length + 1) / 3 := by omega
    have hix : i + x < b.length := by omega
    rcases h4 with h4 | ⟨_, h4⟩
    · omega
    · rw [getD_dropI, getD_dropI] at h4
      by_cases hj1 : j + x = (s.length + 1) / 3
      · rw [hj1, hb.2.2.1] at h4
        have := hbpos (i + x) hix hi1
        omega
      · have e1 := hstep i hi0 x (by omega) hni hi1
        have e2 := hstep j hj0 x (by omega) hnj hj1
        rw [below_get hb hix hi1, below_get hb (show j + x < b.length by omega) hj1] at h4
        have p1 := plc_lt (n := s.length) (i := i + x) (by omega) hi1
        have p2 := plc_lt (n := s.length) (i := j + x) (by omega) hj1
        have := hR.2 _ _ p1.1 p1.2 p2.1 p2.2 h4
        rw [e1, e2] at this
        exact tri_suf hs (by omega) (by omega) htri this


/-- the sample in order, and each one's rank from one on; nought of others -/
def rOk (s o rk : List Int) : Prop := o.Pairwise (sufLt s) ∧ (∀ x, x ∈ o ↔ 0 ≤ x ∧ x < (s.length : Int) ∧ x % 3 ≠ 0) ∧ rk.length = s.length + 3 ∧
  (∀ i, i < o.length → rk.getD (o.getD i 0).toNat 0 = (i : Int) + 1) ∧ ∀ p : Nat, (p : Int) ∉ o → rk.getD p 0 = 0

theorem rOk.at_ {s o rk : List Int} (h : rOk s o rk) {p : Nat} (hp : p < s.length) (h3 : p % 3 ≠ 0) : ∃ i, i < o.length ∧ o.getD i 0 = (p : Int) ∧ rk.getD p 0 = (i : Int) + 1 := by
  have hm : (p : Int) ∈ o := (h.2.1 _).2 ⟨by omega, by omega, by omega⟩
  refine ⟨o.idxOf (p : Int), List.idxOf_lt_length_of_mem hm, idxOf_getD hm, ?_⟩
  have := h.2.2.2.1 _ (List.idxOf_lt_length_of_mem hm)
  rw [idxOf_getD hm] at this
  simpa using this

theorem rOk.out {s o rk : List Int} (h : rOk s o rk) {p : Nat} (hp : s.length ≤ p ∨ p % 3 = 0) : rk.getD p 0 = 0 :=
  h.2.2.2.2 p (fun hm => by have := (h.2.1 _).1 hm; omega)

/-- ranks tell the order -/
theorem rOk.suf {s o rk : List Int} (h : rOk s o rk) {p q : Nat} (hp : p ≤ s.length) (hq : q ≤ s.length) (hp3 : p = s.length ∨ p % 3 ≠ 0) (hq3 : q = s.length ∨ q % 3 ≠ 0) :
    rk.getD p 0 < rk.getD q 0 ↔ sufLt s p q := by
  have fwd : ∀ p q : Nat, p ≤ s.length → q ≤ s.length → (p = s.length ∨ p % 3 ≠ 0) → (q = s.length ∨ q % 3 ≠ 0) → rk.getD p 0 < rk.getD q 0 → sufLt s p q := by
    intro p q hp hq hp3 hq3 hl
    rcases Nat.lt_or_ge q s.length with kq | kq
    · obtain ⟨j, hj, ej, rj⟩ := h.at_ kq (by omega)
      rcases Nat.lt_or_ge p s.length with kp | kp
      · obtain ⟨i, hi, ei, ri⟩ := h.at_ kp (by omega)
        have := pair_getD h.1 (i := i) (j := j) (by omega) hj
        rwa [ei, ej] at this
      · obtain rfl : p = s.length := by omega
        exact sufLt_nil (by omega) (by omega)
    · rw [h.out (p := q) (.inl kq)] at hl
      rcases Nat.lt_or_ge p s.length with kp | kp
      · obtain ⟨i, hi, ei, ri⟩ := h.at_ kp (by omega)
        omega
      · rw [h.out (p := p) (.inl kp)] at hl; omega
  constructor
  · exact fwd p q hp hq hp3 hq3
  · intro hs
    rcases Int.lt_trichotomy (rk.getD p 0) (rk.getD q 0) with k | k | k
    · exact k
    · exfalso
      have : p = q := by
        rcases Nat.lt_or_ge q s.length with kq | kq
        · obtain ⟨j, hj, ej, rj⟩ := h.at_ kq (by omega)
          rcases Nat.lt_or_ge p s.length with kp | kp
          · obtain ⟨i, hi, ei, ri⟩ := h.at_ kp (by omega)
            obtain rfl : i = j := by omega
            omega
          · rw [h.out (p := p) (.inl kp)] at k; omega
        · rcases Nat.lt_or_ge p s.length with kp | kp
          · obtain ⟨i, hi, ei, ri⟩ := h.at_ kp (by omega)
            rw [h.out (p := q) (.inl kq)] at k; omega
          · omega
      subst this
      exact ltL_irrefl _ hs
    · exact absurd (fwd q p hq hp hq3 hp3 k) (sufLt_asymm hs)

instance (s : List Int) (p q : Nat) : Decidable (triEq s p q) := by unfold triEq; infer_instance

/-- the class of a place in an order by threes -/
def clsT (s o : List Int) : Nat → Int
  | 0 => 1
  | i + 1 => clsT s o i + if triEq s (o.getD i 0).toNat (o.getD (i + 1) 0).toNat then 0 else 1

theorem triEq_trans {s : List Int} {p q r : Nat} (h : triEq s p q) (h' : triEq s q r) : triEq s p r := by unfold triEq at *; omega

theorem triLE_trans {s : List Int} {p q r : Nat} (h : triLt s p q ∨ triEq s p q) (h' : triLt s q r) : triLt s p r := by unfold triLt triEq at *; omega

theorem triLE_eq {s : List Int} {p q r : Nat} (h : triLt s p q) (h' : triEq s q r) : triLt s p r := by unfold triLt triEq at *; omega

theorem cls_le {s o : List Int} (h : o.Pairwise (fun x y => triLt s x.toNat y.toNat ∨ triEq s x.toNat y.toNat)) {i : Nat} : ∀ {j : Nat}, i ≤ j → j < o.length →
    clsT s o i ≤ clsT s o j ∧ (clsT s o i < clsT s o j → triLt s (o.getD i 0).toNat (o.getD j 0).toNat) ∧ (clsT s o i = clsT s o j → triEq s (o.getD i 0).toNat (o.getD j 0).toNat)
  | 0, hij, _ => by
    obtain rfl : i = 0 := by omega
    exact ⟨by omega, fun hh => by omega, fun _ => ⟨rfl, rfl, rfl⟩⟩
  | j + 1, hij, hj => by
    by_cases e : i = j + 1
    · subst e
      exact ⟨by omega, fun hh => by omega, fun _ => ⟨rfl, rfl, rfl⟩⟩
    · obtain ⟨h1, h2, h3⟩ := cls_le h (i := i) (j := j) (by omega) (by omega)
      have hp := pair_getD h (i := j) (j := j + 1) (by omega) hj
      simp only [clsT]
      by_cases he : triEq s (o.getD j 0).toNat (o.getD (j + 1) 0).toNat
      · rw [if_pos he]
        refine ⟨by omega, fun hh => triLE_eq (h2 (by omega)) he, fun hh => triEq_trans (h3 (by omega)) he⟩
      · rw [if_neg he]
        refine ⟨by omega, fun _ => ?_, fun hh => by omega⟩
        have hlt : triLt s (o.getD j 0).toNat (o.getD (j + 1) 0).toNat := by
          rcases hp with k | k
          · exact k
          · exact absurd k he
        rcases Int.lt_or_eq_of_le h1 with k | k
        · exact triLE_trans (.inl (h2 k)) hlt
        · exact triLE_trans (.inr (h3 k)) hlt

theorem cls_pos (s o : List Int) : ∀ i, 1 ≤ clsT s o i ∧ clsT s o i ≤ (i : Int) + 1
  | 0 => by simp [clsT]
  | i + 1 => by
    have := cls_pos s o i
    simp only [clsT]; split <;> omega

theorem cls_full {s o : List Int} {n : Nat} (h : clsT s o n = (n : Int) + 1) : ∀ {i}, i ≤ n → clsT s o i = (i : Int) + 1 := by
  induction n with
  | zero => intro i hi; obtain rfl : i = 0 := by omega
            exact h
  | succ n ih =>
    intro i hi
    by_cases e : i = n + 1
    · subst e; exact h
    · refine ih ?_ (by omega)
      have := cls_pos s o n
      simp only [clsT] at h
      split at h <;> omega

/-- all classes differ: in order -/
theorem cls_sorted {s o : List Int} (hs : noNeg s) (hr : ∀ x ∈ o, 0 ≤ x ∧ x < (s.length : Int)) (h : o.Pairwise (fun x y => triLt s x.toNat y.toNat ∨ triEq s x.toNat y.toNat)) (hf : ∀ i, i < o.length → clsT s o i = (i : Int) + 1) : o.Pairwise (sufLt s) := by
  refine List.pairwise_iff_getElem.2 fun i j hi hj hij => ?_
  have e1 : o[i] = o.getD i 0 := by rw [List.getD_eq_getElem?_getD, List.getElem?_eq_getElem hi]; rfl
  have e2 : o[j] = o.getD j 0 := by rw [List.getD_eq_getElem?_getD, List.getElem?_eq_getElem hj]; rfl
  rw [e1, e2]
  have h1 := hr _ (getD_mem hi)
  have h2 := hr _ (getD_mem hj)
  have := (cls_le h (i := i) (j := j) (by omega) hj).2.1 (by rw [hf i hi, hf j hj]; omega)
  have := tri_suf hs (p := (o.getD i 0).toNat) (q := (o.getD j 0).toNat) (x := 0) (by omega) (by omega) (fun y hy => by omega) this
  rwa [Int.toNat_of_nonneg h1.1, Int.toNat_of_nonneg h2.1] at this

/-- a merge: what is done, what is left of either -/
def mInv (s l o t : List Int) : Prop := l.Pairwise (sufLt s) ∧ o.Pairwise (sufLt s) ∧ t.Pairwise (sufLt s) ∧ (∀ x ∈ l, ∀ y ∈ o, sufLt s x y) ∧ ∀ x ∈ l, ∀ y ∈ t, sufLt s x y

theorem pw_snoc {R : Int → Int → Prop} {l : List Int} {a : Int} (h : l.Pairwise R) (h' : ∀ x ∈ l, R x a) : (l ++ [a]).Pairwise R := by
  rw [List.pairwise_append]
  exact ⟨h, by simp, fun x hx y hy => by rw [List.mem_singleton] at hy; subst hy; exact h' x hx⟩

theorem mInv.fromO {s l o t : List Int} {a b : Int} (h : mInv s l (a :: o) (b :: t)) (hab : sufLt s a b) : mInv s (l ++ [a]) o (b :: t) := by
  obtain ⟨h1, h2, h3, h4, h5⟩ := h
  rw [List.pairwise_cons] at h2
  refine ⟨pw_snoc h1 (fun x hx => h4 x hx a (by simp)), h2.2, h3, fun x hx y hy => ?_, fun x hx y hy => ?_⟩
  · rcases List.mem_append.1 hx with hx | hx
    · exact h4 x hx y (List.mem_cons_of_mem _ hy)
    · rw [List.mem_singleton] at hx; subst hx; exact h2.1 y hy
  · rcases List.mem_append.1 hx with hx | hx
    · exact h5 x hx y hy
    · rw [List.mem_singleton] at hx; subst hx
      rcases List.mem_cons.1 hy with rfl | hy
      · exact hab
      · exact ltL_trans hab ((List.pairwise_cons.1 h3).1 y hy)

theorem mInv.fromT {s l o t : List Int} {b : Int} (h : mInv s l o (b :: t)) (hab : ∀ a ∈ o.head?, sufLt s b a) : mInv s (l ++ [b]) o t := by
  obtain ⟨h1, h2, h3, h4, h5⟩ := h
  rw [List.pairwise_cons] at h3
  refine ⟨pw_snoc h1 (fun x hx => h5 x hx b (by simp)), h2, h3.2, fun x hx y hy => ?_, fun x hx y hy => ?_⟩
  · rcases List.mem_append.1 hx with hx | hx
    · exact h4 x hx y hy
    · rw [List.mem_singleton] at hx; subst hx
      cases o with
      | nil => simp at hy
      | cons a o =>
        have := hab a (by simp)
        rcases List.mem_cons.1 hy with rfl | hy
        · exact this
        · exact ltL_trans this ((List.pairwise_cons.1 h2).1 y hy)
  · rcases List.mem_append.1 hx with hx | hx
    · exact h5 x hx y (List.mem_cons_of_mem _ hy)
    · rw [List.mem_singleton] at hx; subst hx; exact h3.1 y hy

theorem mInv.done {s l o : List Int} (h : mInv s l o []) : (l ++ o).Pairwise (sufLt s) := by
  rw [List.pairwise_append]
  exact ⟨h.1, h.2.1, h.2.2.2.1⟩

/-- the others: by their number, then by the rank behind -/
theorem others_suf {s o rk : List Int} (h : rOk s o rk) {x y : Nat} (hx : x < s.length) (hy : y < s.length) (hx3 : x % 3 = 0) (hy3 : y % 3 = 0) (hxy : x ≠ y)
    (hl : ky s x < ky s y ∨ (ky s x = ky s y ∧ (rk.getD (x + 1) 0 < rk.getD (y + 1) 0 ∨ rk.getD (x + 1) 0 = rk.getD (y + 1) 0))) : sufLt s x y := by
  rw [ky_in hx, ky_in hy] at hl
  refine (sufLt_step hx hy).2 ?_
  rcases hl with k | ⟨k1, k2⟩
  · left; omega
  · right
    refine ⟨by omega, ?_⟩
    have hsuf := h.suf (p := x + 1) (q := y + 1) (by omega) (by omega) (by omega) (by omega)
    rcases k2 with k2 | k2
    · have := hsuf.1 k2
      simpa using this
    · exfalso
      have hsuf2 := h.suf (p := y + 1) (q := x + 1) (by omega) (by omega) (by omega) (by omega)
      rcases suf_tri (s := s) (x := ((x + 1 : Nat) : Int)) (y := ((y + 1 : Nat) : Int)) (by omega) (by omega) (by omega) (by omega) (by omega) with hh | hh
      · have := hsuf.2 hh; omega
      · have := hsuf2.2 hh; omega

/-- numbers in the same order have the same places -/
theorem sa_mono {s t : List Int} (hl : s.length = t.length) (h : ∀ i j, i < s.length → j < s.length → (s.getD i 0 < s.getD j 0 ↔ t.getD i 0 < t.getD j 0)) {x y : Int} (hx : 0 ≤ x ∧ x < s.length) (hy : 0 ≤ y ∧ y < s.length) (hs : sufLt s x y) : sufLt t x y := by
  obtain ⟨d, hd⟩ : ∃ d, s.length - x.toNat < d := ⟨_, Nat.lt_succ_self _⟩
  induction d generalizing x y with
  | zero => omega
  | succ d ih =>
    obtain ⟨x, rfl⟩ : ∃ m : Nat, x = m := ⟨x.toNat, by omega⟩
    obtain ⟨y, rfl⟩ : ∃ m : Nat, y = m := ⟨y.toNat, by omega⟩
    have h1 := h x y (by omega) (by omega)
    have h2 := h y x (by omega) (by omega)
    refine (sufLt_step (by omega) (by omega)).2 ?_
    rcases (sufLt_step (by omega) (by omega)).1 hs with k | ⟨k1, k2⟩
    · exact .inl (h1.1 k)
    · right
      refine ⟨by omega, ?_⟩
      by_cases ey : y + 1 = s.length
      · exfalso
        unfold sufLt at k2
        rw [List.drop_of_length_le (i := ((y : Int) + 1).toNat) (by omega)] at k2
        exact not_ltL_nil _ k2
      · by_cases ex : x + 1 = s.length
        · have e : (x : Int) + 1 = (t.length : Int) := by omega
          rw [e]
          exact sufLt_nil (by omega) (by omega)
        · exact ih (by omega) (by omega) k2 (by omega)

theorem isSA_mono {s t a : List Int} (hl : s.length = t.length) (h : ∀ i j, i < s.length → j < s.length → (s.getD i 0 < s.getD j 0 ↔ t.getD i 0 < t.getD j 0)) (ha : IsSA s a) : IsSA t a := by
  refine ⟨by rw [ha.1, hl], fun x hx => by rw [← hl]; exact ha.2.1 x hx, ?_⟩
  exact List.Pairwise.imp_of_mem (fun {x y} hx hy hxy => sa_mono hl h (ha.2.1 x hx) (ha.2.1 y hy) hxy) ha.2.2

/-- each once, all in b: no more than b has -/
theorem nd_len : ∀ {a b : List Int}, a.Nodup → (∀ x ∈ a, x ∈ b) → a.length ≤ b.length
  | [], _, _, _ => by simp
  | x :: t, b, hn, h => by
    rw [List.nodup_cons] at hn
    have hx := h x (by simp)
    have := nd_len (a := t) (b := b.erase x) hn.2 (fun y hy => by
      have hne : y ≠ x := fun e => hn.1 (e ▸ hy)
      exact (List.mem_erase_of_ne hne).2 (h y (List.mem_cons_of_mem _ hy)))
    rw [List.length_erase_of_mem hx] at this
    have := List.length_pos_of_mem hx
    simp only [List.length_cons]; omega

end Go.Proofs.Ytomnhkliimkmgaa.MM

-- math: W Base Perm SA Kinds
namespace Go.Proofs.Ytomnhkliimkmgaa.MM

/-- a place is put where it belongs -/
theorem ins_pw {s out : List Int} {i j : Nat} (hp : out.Pairwise (sufLt s)) (hj : j ≤ out.length) (h1 : ∀ q, q < j → sufLt s (out.getD q 0) i) (h2 : ∀ q, j ≤ q → q < out.length → sufLt s i (out.getD q 0)) :
    (out.take j ++ [(i : Int)] ++ out.drop j).Pairwise (sufLt s) := by
  have hm1 : ∀ x ∈ out.take j, sufLt s x i := fun x hx => by
    obtain ⟨q, hq, e⟩ := List.mem_iff_getElem.1 hx
    rw [List.length_take] at hq
    rw [List.getElem_take] at e
    have := h1 q (by omega)
    rwa [List.getD_eq_getElem?_getD, List.getElem?_eq_getElem (by omega), Option.getD_some, e] at this
  have hm2 : ∀ x ∈ out.drop j, sufLt s i x := fun x hx => by
    obtain ⟨q, hq, e⟩ := List.mem_iff_getElem.1 hx
    rw [List.length_drop] at hq
    rw [List.getElem_drop] at e
    have := h2 (j + q) (by omega) (by omega)
    rwa [List.getD_eq_getElem?_getD, List.getElem?_eq_getElem (by omega), Option.getD_some, e] at this
  rw [List.append_assoc, List.pairwise_append]
  have hp2 := hp
  rw [← List.take_append_drop j out, List.pairwise_append] at hp2
  refine ⟨hp2.1, ?_, fun x hx y hy => ?_⟩
  · rw [List.singleton_append, List.pairwise_cons]
    exact ⟨hm2, hp2.2.1⟩
  · rw [List.singleton_append, List.mem_cons] at hy
    rcases hy with rfl | hy
    · exact hm1 x hx
    · exact hp2.2.2 x hx y hy

theorem ins_mem {out : List Int} {i : Int} {j : Nat} {x : Int} : x ∈ out.take j ++ [i] ++ out.drop j ↔ x = i ∨ x ∈ out := by
  conv => rhs; rw [← List.take_append_drop j out]
  simp only [List.mem_append, List.mem_singleton]
  constructor
  · rintro ((h | h) | h)
    · exact .inr (.inl h)
    · exact .inl h
    · exact .inr (.inr h)
  · rintro (h | h | h)
    · exact .inl (.inr h)
    · exact .inl (.inl h)
    · exact .inr h

theorem ins_length {out : List Int} {i : Int} {j : Nat} (hj : j ≤ out.length) : (out.take j ++ [i] ++ out.drop j).length = out.length + 1 := by
  simp only [List.length_append, List.length_take, List.length_drop, List.length_singleton]; omega

end Go.Proofs.Ytomnhkliimkmgaa.MM

namespace Go.Proofs.Ytomnhkliimkmgaa.PrintWords
open Go Go.ChangeShapes Go.WideShapes
/-- The printed row names it from here. -/
theorem sized_ints {H : Type} {enc : TypeId × Value → H} {P : Program} {W : World} {base : Nat} {spare : Nat → Bool} {held : Bool} {t e : TypeId} {k : IntKind} {a : Option Addr} {len cap : Nat} {d : DataW H} {ps : List MemPlace} {ts : List TypeId} {ds : List (DataW H)} {j : Nat}
    (hsz : (DataW.weightsEach P ts ds).all (· ≤ reachBytes) = true) (ht : ts[j]? = some t) (hd : ds[j]? = some d) (hu : P.underlying t = some (.slice e)) (he : P.underlying e = some (.int k)) (hc : P.cellsOf e = 1) {B : Nat} (hB : P.bytesOf e = B)
    (h : DataW.Trod enc P W base spare held t (.slice a len cap) d ps) : len * B ≤ 140737488351232 :=
  Go.Proofs.YtomnhkliimkmgaaW.PrintWords.sized_ints hsz ht hd hu he hc hB h
end Go.Proofs.Ytomnhkliimkmgaa.PrintWords
