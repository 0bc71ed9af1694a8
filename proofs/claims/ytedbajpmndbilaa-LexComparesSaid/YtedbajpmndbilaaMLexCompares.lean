/- Plain mathematics for LexCompares: lists, orders, no program in sight. -/
import Derived.Test.YtedbajpmndbilaaWWords
import Derived.Test.YtedbajpmndbilaaWSized
set_option linter.unusedVariables false
set_option linter.unusedSimpArgs false
/-! Words over the print: rounds, wraps, reads by number. -/
namespace Go.Proofs.Ytedbajpmndbilaa.MM
open Go.RowKit Go.Proofs.YtedbajpmndbilaaW.PrintWords

theorem wrap64_id {x : Int} (h0 : -9223372036854775808 ≤ x) (h1 : x < 9223372036854775808) : wrap64 x = x := by
  unfold wrap64; omega

theorem wrap_nat {i n : Nat} (h : i < n) (hn : n ≤ 140737488355328) : wrap64 ((i : Int) + 1) = ((i + 1 : Nat) : Int) := by
  rw [wrap64_id (by omega) (by omega)]; omega

theorem rd_nat (xs : List Int) (i : Nat) : rd xs (i : Int) = xs.getD i 0 := by simp [rd]

theorem rdB_nat (xs : List Bool) (i : Nat) : rdOf false xs (i : Int) = xs.getD i false := by simp [rdOf]

theorem wf_i64 {x : Int} (h : (Go.Lit.int .i64 x).wf = true) : -9223372036854775808 ≤ x ∧ x ≤ 9223372036854775807 := by
  simp only [Go.Lit.wf, Bool.and_eq_true, decide_eq_true_eq] at h
  exact h

theorem wf_u8 {x : Int} (h : (Go.Lit.int .u8 x).wf = true) : 0 ≤ x ∧ x ≤ 255 := by
  simp only [Go.Lit.wf, Bool.and_eq_true, decide_eq_true_eq] at h
  exact h

theorem Ev.at_ {α : Type} {g : Nat → Option α} {r : α} (k : Nat) (h : ∀ j, g (j + k) = some r) : Ev g r :=
  ⟨k, fun j hj => by obtain ⟨m, rfl⟩ : ∃ m, j = m + k := ⟨j - k, by omega⟩; exact h m⟩

theorem Ev.same {α : Type} {g : Nat → Option α} {r r' : α} (h : Ev g r) (h' : Ev g r') : r = r' := by
  obtain ⟨K, h⟩ := h
  obtain ⟨K', h'⟩ := h'
  have h1 := h (max K K') (by omega)
  rw [h' (max K K') (by omega)] at h1
  exact (Option.some.inj h1).symm

theorem lset_self {α : Type} {l : List α} {i : Nat} {v d : α} (h : i < l.length) : (l.set i v).getD i d = v := by
  rw [List.getD_eq_getElem?_getD, List.getElem?_set_self h]; rfl

theorem lset_ne {α : Type} {l : List α} {i j : Nat} {v d : α} (h : i ≠ j) : (l.set i v).getD j d = l.getD j d := by
  rw [List.getD_eq_getElem?_getD, List.getElem?_set_ne h, ← List.getD_eq_getElem?_getD]

theorem lset {α : Type} {l : List α} {i j : Nat} {v d : α} (h : i < l.length) : (l.set i v).getD j d = if i = j then v else l.getD j d := by
  by_cases e : i = j
  · subst e; rw [lset_self h, if_pos rfl]
  · rw [lset_ne e, if_neg e]

theorem getD_replicate {α : Type} {n i : Nat} {v : α} : (List.replicate n v).getD i v = v := by
  rw [List.getD_eq_getElem?_getD, List.getElem?_replicate]; split <;> rfl

theorem take_next {l : List Int} {i : Nat} (h : i < l.length) : l.take (i + 1) = l.take i ++ [l.getD i 0] := by
  rw [List.take_succ_eq_append_getElem h, List.getD_eq_getElem?_getD, List.getElem?_eq_getElem h]; rfl

end Go.Proofs.Ytedbajpmndbilaa.MM

/-! Base: lexicographic comparison of lists of numbers; reads by number. -/
namespace Go.Proofs.Ytedbajpmndbilaa.MM

def cmpL : List Int → List Int → Int
  | [], [] => 0
  | [], _ :: _ => -1
  | _ :: _, [] => 1
  | a :: as, b :: bs => if a < b then -1 else if b < a then 1 else cmpL as bs

theorem cmpL_vals : ∀ a b : List Int, cmpL a b = -1 ∨ cmpL a b = 0 ∨ cmpL a b = 1
  | [], [] => by simp [cmpL]
  | [], _ :: _ => by simp [cmpL]
  | _ :: _, [] => by simp [cmpL]
  | a :: as, b :: bs => by
    have := cmpL_vals as bs
    simp only [cmpL]; split
    · simp
    · split <;> simp [*]

theorem cmpL_self : ∀ a : List Int, cmpL a a = 0
  | [] => by simp [cmpL]
  | a :: as => by simp [cmpL, cmpL_self as]

theorem cmpL_anti : ∀ a b : List Int, cmpL b a = - cmpL a b
  | [], [] => by simp [cmpL]
  | [], _ :: _ => by simp [cmpL]
  | _ :: _, [] => by simp [cmpL]
  | a :: as, b :: bs => by
    have := cmpL_anti as bs
    simp only [cmpL]
    by_cases h1 : a < b
    · have : ¬ b < a := by omega
      simp [*]
    · by_cases h2 : b < a <;> simp [*]

theorem cmpL_eq : ∀ {a b : List Int}, cmpL a b = 0 → a = b
  | [], [], _ => rfl
  | [], _ :: _, h => by simp [cmpL] at h
  | _ :: _, [], h => by simp [cmpL] at h
  | a :: as, b :: bs, h => by
    simp only [cmpL] at h
    by_cases h1 : a < b
    · simp [h1] at h
    · by_cases h2 : b < a
      · simp [h1, h2] at h
      · simp [h1, h2] at h
        have := cmpL_eq h
        have : a = b := by omega
        simp [*]

theorem cmpL_zero {a b : List Int} : cmpL a b = 0 ↔ a = b := ⟨cmpL_eq, fun h => by rw [h, cmpL_self]⟩

/-- less -/
def ltL (a b : List Int) : Prop := cmpL a b = -1

instance (a b : List Int) : Decidable (ltL a b) := by unfold ltL; infer_instance

theorem ltL_irrefl (a : List Int) : ¬ ltL a a := by simp [ltL, cmpL_self]

theorem ltL_trans : ∀ {a b c : List Int}, ltL a b → ltL b c → ltL a c
  | [], [], _, h, _ => by simp [ltL, cmpL] at h
  | _ :: _, [], _, h, _ => by simp [ltL, cmpL] at h
  | [], _ :: _, [], _, h => by simp [ltL, cmpL] at h
  | [], _ :: _, _ :: _, _, _ => by simp [ltL, cmpL]
  | _ :: _, _ :: _, [], _, h => by simp [ltL, cmpL] at h
  | a :: as, b :: bs, c :: cs, h, k => by
    simp only [ltL, cmpL] at h k ⊢
    by_cases h1 : a < b
    · by_cases k1 : b < c
      · have : a < c := by omega
        simp [this]
      · by_cases k2 : c < b
        · simp [k1, k2] at k
        · have : a < c := by omega
          simp [this]
    · by_cases h2 : b < a
      · simp [h1, h2] at h
      · have e : a = b := by omega
        subst e
        simp at h
        by_cases k1 : a < c
        · simp [k1]
        · by_cases k2 : c < a
          · simp [k1, k2] at k
          · simp [k1, k2] at k ⊢
            exact ltL_trans h k

theorem ltL_asymm {a b : List Int} (h : ltL a b) : ¬ ltL b a := fun k => ltL_irrefl a (ltL_trans h k)

theorem ltL_tri (a b : List Int) : ltL a b ∨ a = b ∨ ltL b a := by
  rcases cmpL_vals a b with h | h | h
  · exact .inl h
  · exact .inr (.inl (cmpL_eq h))
  · right; right; unfold ltL; rw [cmpL_anti a b, h]

theorem cmpL_gt {a b : List Int} : cmpL a b = 1 ↔ ltL b a := by
  unfold ltL; rw [cmpL_anti a b]; omega

theorem not_ltL {a b : List Int} : ¬ ltL a b ↔ a = b ∨ ltL b a := by
  constructor
  · intro h
    rcases ltL_tri a b with k | k | k
    · exact absurd k h
    · exact .inl k
    · exact .inr k
  · rintro (rfl | h)
    · exact ltL_irrefl _
    · exact ltL_asymm h

theorem cmpL_append : ∀ p a b : List Int, cmpL (p ++ a) (p ++ b) = cmpL a b
  | [], _, _ => rfl
  | x :: p, a, b => by simp [cmpL, cmpL_append p a b]

theorem ltL_append {p a b : List Int} : ltL (p ++ a) (p ++ b) ↔ ltL a b := by simp [ltL, cmpL_append]

theorem ltL_nil {a : List Int} : ltL [] a ↔ a ≠ [] := by cases a <;> simp [ltL, cmpL]

theorem not_ltL_nil (a : List Int) : ¬ ltL a [] := by cases a <;> simp [ltL, cmpL]

theorem ltL_prefix {a b : List Int} (h : b ≠ []) : ltL a (a ++ b) := by
  have := (ltL_append (p := a) (a := []) (b := b)).2 (ltL_nil.2 h)
  simpa using this

/-- read, nought outside -/
def gt (l : List Int) (i : Nat) : Int := l.getD i 0

/-- The first place where they differ tells. -/
theorem ltL_iff : ∀ {a b : List Int}, ltL a b ↔ ∃ x, x ≤ a.length ∧ x < b.length ∧ (∀ y, y < x → a[y]? = b[y]?) ∧ (x = a.length ∨ (x < a.length ∧ a.getD x 0 < b.getD x 0))
  | [], [] => by simp [ltL, cmpL]
  | [], b :: bs => by
    constructor
    · intro _; exact ⟨0, by simp, by simp, fun y h => by omega, .inl rfl⟩
    · intro _; simp [ltL, cmpL]
  | a :: as, [] => by simp [ltL, cmpL]
  | a :: as, b :: bs => by
    have ih := @ltL_iff as bs
    constructor
    · intro h
      simp only [ltL, cmpL] at h
      by_cases h1 : a < b
      · exact ⟨0, by simp, by simp, fun y h => by omega, .inr ⟨by simp, by simpa using h1⟩⟩
      · by_cases h2 : b < a
        · simp [h1, h2] at h
        · simp [h1, h2] at h
          obtain ⟨x, hx1, hx2, hx3, hx4⟩ := ih.1 h
          have e : a = b := by omega
          subst e
          refine ⟨x + 1, by simp; omega, by simp; omega, ?_, ?_⟩
          · intro y hy
            cases y with
            | zero => simp
            | succ y => simpa using hx3 y (by omega)
          · rcases hx4 with hx4 | hx4
            · left; simp [hx4]
            · right; exact ⟨by simp; omega, by simpa using hx4.2⟩
    · rintro ⟨x, hx1, hx2, hx3, hx4⟩
      cases x with
      | zero =>
        simp at hx4
        simp [ltL, cmpL, hx4]
      | succ x =>
        have e := hx3 0 (by omega)
        simp at e
        subst e
        have : ltL as bs := ih.2 ⟨x, by simpa using hx1, by simpa using hx2, fun y hy => by simpa using hx3 (y + 1) (by omega), by simpa using hx4⟩
        simp [ltL, cmpL] at this ⊢
        exact this

theorem ltL_mk {a b : List Int} (x : Nat) (h1 : x < a.length) (h2 : x < b.length) (h3 : ∀ y, y < x → a.getD y 0 = b.getD y 0) (h4 : a.getD x 0 < b.getD x 0) : ltL a b := by
  refine ltL_iff.2 ⟨x, by omega, h2, fun y hy => ?_, .inr ⟨h1, h4⟩⟩
  have := h3 y hy
  rw [List.getElem?_eq_getElem (by omega), List.getElem?_eq_getElem (by omega)]
  simp only [List.getD_eq_getElem?_getD, List.getElem?_eq_getElem (show y < a.length by omega), List.getElem?_eq_getElem (show y < b.length by omega)] at this
  simpa using this

theorem ltL_pre {a b : List Int} (h1 : a.length < b.length) (h3 : ∀ y, y < a.length → a.getD y 0 = b.getD y 0) : ltL a b := by
  refine ltL_iff.2 ⟨a.length, by omega, h1, fun y hy => ?_, .inl rfl⟩
  have := h3 y hy
  rw [List.getElem?_eq_getElem (by omega), List.getElem?_eq_getElem (by omega)]
  simp only [List.getD_eq_getElem?_getD, List.getElem?_eq_getElem (show y < a.length by omega), List.getElem?_eq_getElem (show y < b.length by omega)] at this
  simpa using this

end Go.Proofs.Ytedbajpmndbilaa.MM

namespace Go.Proofs.Ytedbajpmndbilaa.MM

theorem pigeon : ∀ (n : Nat) (a : List Int), a.Nodup → (∀ x ∈ a, 0 ≤ x ∧ x < (n : Int)) → a.length ≤ n
  | 0, a, _, h => by
    cases a with
    | nil => simp
    | cons x t => have := h x (by simp); omega
  | n + 1, a, hn, h => by
    have h1 := pigeon n (a.erase (n : Int)) (hn.erase _) (fun x hx => by
      have h2 := h x (List.mem_of_mem_erase hx)
      have h3 : x ≠ (n : Int) := fun e => by subst e; exact (List.Nodup.not_mem_erase hn) hx
      omega)
    by_cases hm : (n : Int) ∈ a
    · rw [List.length_erase_of_mem hm] at h1; omega
    · rw [List.erase_of_not_mem hm] at h1; omega

theorem pigeon_all {n : Nat} {a : List Int} (hn : a.Nodup) (h : ∀ x ∈ a, 0 ≤ x ∧ x < (n : Int)) (hl : a.length = n) {v : Int} (h0 : 0 ≤ v) (h1 : v < n) : v ∈ a := by
  by_cases hm : v ∈ a
  · exact hm
  · have := pigeon n (v :: a) (List.nodup_cons.2 ⟨hm, hn⟩) (fun x hx => by
      rcases List.mem_cons.1 hx with rfl | hx
      · exact ⟨h0, h1⟩
      · exact h x hx)
    simp at this; omega

def isPerm (a : List Int) : Prop := (∀ x ∈ a, 0 ≤ x ∧ x < (a.length : Int)) ∧ a.Nodup

instance (a : List Int) : Decidable (isPerm a) := by unfold isPerm; infer_instance

theorem isPerm.mem {a : List Int} (h : isPerm a) {v : Int} (h0 : 0 ≤ v) (h1 : v < a.length) : v ∈ a := pigeon_all h.2 h.1 rfl h0 h1

def inv (a : List Int) : List Int := (List.range a.length).map (fun (v : Nat) => ((a.idxOf (v : Int) : Nat) : Int))

theorem inv_length (a : List Int) : (inv a).length = a.length := by simp [inv]

theorem inv_get {a : List Int} {v : Nat} (h : v < a.length) : (inv a).getD v 0 = ((a.idxOf (v : Int) : Nat) : Int) := by
  unfold inv
  rw [List.getD_eq_getElem?_getD, List.getElem?_map, List.getElem?_range h]
  rfl

theorem getD_mem {a : List Int} {i : Nat} (h : i < a.length) : a.getD i 0 ∈ a := by
  simp [List.getD_eq_getElem?_getD, h]

theorem getD_inj {a : List Int} (hn : a.Nodup) {i j : Nat} (hi : i < a.length) (hj : j < a.length) (h : a.getD i 0 = a.getD j 0) : i = j := by
  simp only [List.getD_eq_getElem?_getD, List.getElem?_eq_getElem hi, List.getElem?_eq_getElem hj, Option.getD_some] at h
  rcases Nat.lt_trichotomy i j with hlt | heq | hgt
  · exact absurd h (List.pairwise_iff_getElem.1 hn i j hi hj hlt)
  · exact heq
  · exact absurd h.symm (List.pairwise_iff_getElem.1 hn j i hj hi hgt)

theorem idxOf_getD {a : List Int} {x : Int} (h : x ∈ a) : a.getD (a.idxOf x) 0 = x := by
  have h1 := List.idxOf_lt_length_of_mem h
  simp [List.getD_eq_getElem?_getD, List.getElem?_eq_getElem h1]

theorem inv_at {a : List Int} (h : isPerm a) {i : Nat} (hi : i < a.length) : (inv a).getD (a.getD i 0).toNat 0 = i := by
  have hm := h.1 _ (getD_mem hi)
  have e : (((a.getD i 0).toNat : Nat) : Int) = a.getD i 0 := by omega
  rw [inv_get (by omega), e]
  have := getD_inj h.2 (List.idxOf_lt_length_of_mem (getD_mem hi)) hi (idxOf_getD (getD_mem hi))
  rw [this]

theorem at_inv {a : List Int} (h : isPerm a) {v : Nat} (hv : v < a.length) : a.getD ((inv a).getD v 0).toNat 0 = v ∧ 0 ≤ (inv a).getD v 0 ∧ (inv a).getD v 0 < a.length := by
  have hm : (v : Int) ∈ a := h.mem (by omega) (by omega)
  have := List.idxOf_lt_length_of_mem hm
  rw [inv_get hv]
  refine ⟨?_, by omega, by omega⟩
  simpa using idxOf_getD hm

theorem ext_getD {a b : List Int} (hl : a.length = b.length) (h : ∀ i, i < a.length → a.getD i 0 = b.getD i 0) : a = b := by
  apply List.ext_getElem hl
  intro i h1 h2
  have := h i h1
  simpa only [List.getD_eq_getElem?_getD, List.getElem?_eq_getElem h1, List.getElem?_eq_getElem h2, Option.getD_some] using this

theorem isPerm_of {a : List Int} (h : ∀ x ∈ a, 0 ≤ x ∧ x < (a.length : Int)) (f : Int → Nat) (hf : ∀ i, i < a.length → f (a.getD i 0) = i) : isPerm a := by
  refine ⟨h, List.pairwise_iff_getElem.2 fun i j hi hj hij he => ?_⟩
  have e : a.getD i 0 = a.getD j 0 := by simp only [List.getD_eq_getElem?_getD, List.getElem?_eq_getElem hi, List.getElem?_eq_getElem hj, he]
  have := hf i hi
  rw [e, hf j hj] at this
  omega

theorem inv_perm {a : List Int} (h : isPerm a) : isPerm (inv a) := by
  refine isPerm_of (fun x hx => ?_) (fun x => (a.getD x.toNat 0).toNat) (fun i hi => ?_)
  · rw [inv_length]
    simp only [inv, List.mem_map, List.mem_range] at hx
    obtain ⟨v, hv, rfl⟩ := hx
    have := List.idxOf_lt_length_of_mem (h.mem (v := (v : Int)) (by omega) (by omega))
    omega
  · rw [inv_length] at hi
    rw [(at_inv h hi).1]; simp

theorem inv_inv {a : List Int} (h : isPerm a) : inv (inv a) = a := by
  refine ext_getD (by simp [inv_length]) (fun i hi => ?_)
  rw [inv_length, inv_length] at hi
  have h1 := h.1 _ (getD_mem hi)
  have h2 := inv_at h hi
  have h3 := inv_at (inv_perm h) (i := (a.getD i 0).toNat) (by rw [inv_length]; omega)
  rw [h2, Int.toNat_natCast] at h3
  rw [h3]; omega

/-- a sorted row is told by what is in it -/
theorem sorted_uniq {α : Type} {R : α → α → Prop} (has : ∀ x y, R x y → ¬ R y x) : ∀ {a b : List α}, a.Pairwise R → b.Pairwise R → (∀ x, x ∈ a ↔ x ∈ b) → a = b
  | [], [], _, _, _ => rfl
  | [], y :: b, _, _, h => by have := (h y).2 (by simp); simp at this
  | x :: a, [], _, _, h => by have := (h x).1 (by simp); simp at this
  | x :: a, y :: b, ha, hb, h => by
    rw [List.pairwise_cons] at ha hb
    have hxy : x = y := by
      rcases List.mem_cons.1 ((h x).1 (by simp)) with e | e
      · exact e
      · rcases List.mem_cons.1 ((h y).2 (by simp)) with e2 | e2
        · exact e2.symm
        · exact absurd (hb.1 x e) (has _ _ (ha.1 y e2))
    subst hxy
    have hir : ¬ R x x := fun hr => has _ _ hr hr
    congr 1
    refine sorted_uniq has ha.2 hb.2 (fun z => ?_)
    constructor
    · intro hz
      rcases List.mem_cons.1 ((h z).1 (List.mem_cons_of_mem _ hz)) with e | e
      · subst e; exact absurd (ha.1 z hz) hir
      · exact e
    · intro hz
      rcases List.mem_cons.1 ((h z).2 (List.mem_cons_of_mem _ hz)) with e | e
      · subst e; exact absurd (hb.1 z hz) hir
      · exact e

end Go.Proofs.Ytedbajpmndbilaa.MM

-- math: W Base Perm
namespace Go.Proofs.Ytedbajpmndbilaa.MM

/-- the ending of x is less than that of y -/
def sufLt (s : List Int) (x y : Int) : Prop := ltL (s.drop x.toNat) (s.drop y.toNat)

def IsSA (s a : List Int) : Prop := a.length = s.length ∧ (∀ x ∈ a, 0 ≤ x ∧ x < (s.length : Int)) ∧ a.Pairwise (sufLt s)

theorem getD_dropI (l : List Int) (i y : Nat) : (l.drop i).getD y 0 = l.getD (i + y) 0 := by
  simp [List.getD_eq_getElem?_getD, List.getElem?_drop]

theorem sufLt_asymm {s : List Int} {x y : Int} (h : sufLt s x y) : ¬ sufLt s y x := ltL_asymm h

theorem IsSA.nodup {s a : List Int} (h : IsSA s a) : a.Nodup := by
  refine List.Pairwise.imp (fun {x y} hxy => ?_) h.2.2
  rintro rfl
  exact ltL_irrefl _ hxy

theorem IsSA.perm {s a : List Int} (h : IsSA s a) : isPerm a := ⟨fun x hx => by rw [h.1]; exact h.2.1 x hx, h.nodup⟩

theorem IsSA.mem {s a : List Int} (h : IsSA s a) (v : Int) : v ∈ a ↔ 0 ≤ v ∧ v < s.length :=
  ⟨fun hv => h.2.1 v hv, fun hv => h.perm.mem hv.1 (by rw [h.1]; exact hv.2)⟩

theorem IsSA.uniq {s a b : List Int} (h : IsSA s a) (k : IsSA s b) : a = b :=
  sorted_uniq (R := sufLt s) (fun _ _ => sufLt_asymm) h.2.2 k.2.2 (fun v => by rw [h.mem, k.mem])

/-- different places have different endings -/
theorem suf_ne {s : List Int} {x y : Nat} (hx : x ≤ s.length) (hy : y ≤ s.length) (h : x ≠ y) : s.drop x ≠ s.drop y := by
  intro e
  have := congrArg List.length e
  simp at this
  omega

theorem suf_tri {s : List Int} {x y : Int} (hx0 : 0 ≤ x) (hx : x ≤ s.length) (hy0 : 0 ≤ y) (hy : y ≤ s.length) (h : x ≠ y) : sufLt s x y ∨ sufLt s y x := by
  rcases ltL_tri (s.drop x.toNat) (s.drop y.toNat) with k | k | k
  · exact .inl k
  · exact absurd k (suf_ne (by omega) (by omega) (by omega))
  · exact .inr k

theorem drop_cons_get {s : List Int} {x : Nat} (h : x < s.length) : s.drop x = s.getD x 0 :: s.drop (x + 1) := by
  rw [List.drop_eq_getElem_cons h, List.getD_eq_getElem?_getD, List.getElem?_eq_getElem h]; rfl

/-- by the first number, then by the endings behind -/
theorem sufLt_step {s : List Int} {x y : Nat} (hx : x < s.length) (hy : y < s.length) : sufLt s x y ↔ s.getD x 0 < s.getD y 0 ∨ (s.getD x 0 = s.getD y 0 ∧ sufLt s ((x : Int) + 1) ((y : Int) + 1)) := by
  unfold sufLt
  have e1 : ((x : Int) + 1).toNat = x + 1 := by omega
  have e2 : ((y : Int) + 1).toNat = y + 1 := by omega
  rw [e1, e2]
  simp only [Int.toNat_natCast]
  rw [drop_cons_get hx, drop_cons_get hy]
  unfold ltL
  simp only [cmpL]
  generalize s.getD x 0 = u
  generalize s.getD y 0 = v
  by_cases h1 : u < v
  · simp [h1]
  · by_cases h2 : v < u
    · simp [h1, h2]; omega
    · have h3 : u = v := by omega
      simp [h3]

theorem sufLt_nil {s : List Int} {x : Int} (h0 : 0 ≤ x) (h : x < s.length) : sufLt s s.length x := by
  unfold sufLt
  have : s.drop (s.length : Int).toNat = [] := by simp
  rw [this]
  refine ltL_nil.2 (fun e => ?_)
  have := congrArg List.length e
  simp at this
  omega

/-- r is a rank of every place, the empty ending too -/
theorem ranks_sort {s : List Int} {r : Nat → Int} (hlast : ∀ x, x < s.length → r s.length < r x)
    (hstep : ∀ x y, x < s.length → y < s.length → r x < r y → s.getD x 0 < s.getD y 0 ∨ (s.getD x 0 = s.getD y 0 ∧ r (x + 1) < r (y + 1))) :
    ∀ (d x y : Nat), x ≤ s.length → y ≤ s.length → s.length - x < d → r x < r y → sufLt s x y := by
  intro d
  induction d with
  | zero => intro x y hx hy h; omega
  | succ d ih =>
    intro x y hx hy hd h
    by_cases hxe : x = s.length
    · subst hxe
      by_cases hye : y = s.length
      · subst hye; omega
      · exact sufLt_nil (by omega) (by omega)
    · by_cases hye : y = s.length
      · subst hye
        have := hlast x (by omega)
        omega
      · refine (sufLt_step (by omega) (by omega)).2 ?_
        rcases hstep x y (by omega) (by omega) h with h1 | h1
        · exact .inl h1
        · exact .inr ⟨h1.1, by simpa using ih (x + 1) (y + 1) (by omega) (by omega) (by omega) h1.2⟩

end Go.Proofs.Ytedbajpmndbilaa.MM

-- math: W Base Perm SA
namespace Go.Proofs.Ytedbajpmndbilaa.MM

def rot (s : List Int) (i : Nat) : List Int := s.drop i ++ s.take i

theorem rot_length {s : List Int} {i : Nat} (h : i ≤ s.length) : (rot s i).length = s.length := by
  unfold rot; rw [List.length_append, List.length_drop, List.length_take]; omega

theorem rot_get {s : List Int} {i y : Nat} (hi : i < s.length) (hy : y < s.length) : (rot s i).getD y 0 = s.getD ((i + y) % s.length) 0 := by
  unfold rot
  by_cases h : i + y < s.length
  · rw [List.getD_eq_getElem?_getD, List.getElem?_append_left (by rw [List.length_drop]; omega), List.getElem?_drop, Nat.mod_eq_of_lt h, ← List.getD_eq_getElem?_getD]
  · rw [List.getD_eq_getElem?_getD, List.getElem?_append_right (by rw [List.length_drop]; omega), List.length_drop, List.getElem?_take, if_pos (by omega), ← List.getD_eq_getElem?_getD]
    congr 1
    rw [Nat.mod_eq_sub_mod (by omega), Nat.mod_eq_of_lt (by omega)]; omega

/-- what Turns answers -/
def turnR (s : List Int) (i j : Int) : Int := if 0 ≤ i ∧ i < s.length ∧ 0 ≤ j ∧ j < s.length then cmpL (rot s i.toNat) (rot s j.toNat) else 0

theorem rot_eq {s : List Int} {i j : Nat} (hi : i < s.length) (hj : j < s.length) (h : ∀ y, y < s.length → s.getD ((i + y) % s.length) 0 = s.getD ((j + y) % s.length) 0) : rot s i = rot s j := by
  refine ext_getD (by rw [rot_length (by omega), rot_length (by omega)]) (fun y hy => ?_)
  rw [rot_length (by omega)] at hy
  rw [rot_get hi hy, rot_get hj hy, h y hy]

theorem rot_lt {s : List Int} {i j c : Nat} (hi : i < s.length) (hj : j < s.length) (hc : c < s.length) (h : ∀ y, y < c → s.getD ((i + y) % s.length) 0 = s.getD ((j + y) % s.length) 0) (hlt : s.getD ((i + c) % s.length) 0 < s.getD ((j + c) % s.length) 0) : ltL (rot s i) (rot s j) := by
  refine ltL_mk c (by rw [rot_length (by omega)]; omega) (by rw [rot_length (by omega)]; omega) (fun y hy => ?_) ?_
  · rw [rot_get hi (by omega), rot_get hj (by omega), h y hy]
  · rw [rot_get hi hc, rot_get hj hc]; exact hlt

end Go.Proofs.Ytedbajpmndbilaa.MM

-- math: W Base Perm SA
namespace Go.Proofs.Ytedbajpmndbilaa.MM

/-- the ending of i is less than the next one -/
def sml (s : List Int) (i : Nat) : Bool := decide (ltL (s.drop i) (s.drop (i + 1)))

theorem sml_cmp (s : List Int) (i : Nat) : decide (cmpL (s.drop i) (s.drop (i + 1)) < 0) = sml s i := by
  unfold sml
  rw [decide_eq_decide]
  unfold ltL
  rcases cmpL_vals (s.drop i) (s.drop (i + 1)) with h | h | h <;> omega

theorem sml_last {s : List Int} {i : Nat} (h : s.length ≤ i + 1) : sml s i = false := by
  unfold sml
  rw [List.drop_of_length_le h]
  exact decide_eq_false (not_ltL_nil _)

theorem sml_step {s : List Int} {i : Nat} (h : i + 1 < s.length) : sml s i = (decide (s.getD i 0 < s.getD (i + 1) 0) || (decide (s.getD i 0 = s.getD (i + 1) 0) && sml s (i + 1))) := by
  have := sufLt_step (s := s) (x := i) (y := i + 1) (by omega) h
  unfold sufLt at this
  simp only [Int.toNat_natCast, show ((i : Int) + 1).toNat = i + 1 by omega, show (((i + 1 : Nat) : Int) + 1).toNat = i + 1 + 1 by omega] at this
  unfold sml
  rw [Bool.eq_iff_iff]
  simp only [decide_eq_true_eq, Bool.or_eq_true, Bool.and_eq_true]
  exact this

def smls (s : List Int) : List Bool := (List.range s.length).map (sml s)

theorem smls_length (s : List Int) : (smls s).length = s.length := by simp [smls]

theorem smls_get {s : List Int} {i : Nat} (h : i < s.length) : (smls s).getD i false = sml s i := by
  unfold smls
  rw [List.getD_eq_getElem?_getD, List.getElem?_map, List.getElem?_range h]; rfl

theorem extB {a b : List Bool} (hl : a.length = b.length) (h : ∀ i, i < a.length → a.getD i false = b.getD i false) : a = b := by
  apply List.ext_getElem hl
  intro i h1 h2
  have := h i h1
  simpa only [List.getD_eq_getElem?_getD, List.getElem?_eq_getElem h1, List.getElem?_eq_getElem h2, Option.getD_some] using this

def isFr (s : List Int) (i : Nat) : Bool := decide (0 < i) && sml s i && !sml s (i - 1)

def frs (s : List Int) (m : Nat) : List Int := ((List.range m).filter (isFr s)).map (fun (i : Nat) => (i : Int))

theorem frs_succ (s : List Int) (m : Nat) : frs s (m + 1) = frs s m ++ (if isFr s m = true then [(m : Int)] else []) := by
  unfold frs
  rw [List.range_succ, List.filter_append, List.map_append]
  congr 1
  by_cases h : isFr s m = true
  · simp [h]
  · simp [h]

theorem frs_len (s : List Int) (m : Nat) : (frs s m).length ≤ m := by
  unfold frs
  rw [List.length_map]
  have := List.length_filter_le (isFr s) (List.range m)
  simpa using this

theorem frs_mem {s : List Int} {m : Nat} {x : Int} (h : x ∈ frs s m) : ∃ i : Nat, x = i ∧ i < m ∧ 0 < i ∧ sml s i = true ∧ sml s (i - 1) = false := by
  unfold frs at h
  obtain ⟨i, hi, rfl⟩ := List.mem_map.1 h
  rw [List.mem_filter, List.mem_range] at hi
  obtain ⟨h1, h2⟩ := hi
  simp only [isFr, Bool.and_eq_true, decide_eq_true_eq, Bool.not_eq_true'] at h2
  exact ⟨i, rfl, h1, h2.1.1, h2.1.2, h2.2⟩

theorem frs_apart (s : List Int) : ∀ m, (frs s m).Pairwise (fun x y => x + 2 ≤ y)
  | 0 => by simp [frs]
  | m + 1 => by
    rw [frs_succ, List.pairwise_append]
    refine ⟨frs_apart s m, by split <;> simp, fun x hx y hy => ?_⟩
    split at hy
    · rename_i hf
      simp only [List.mem_singleton] at hy
      subst hy
      obtain ⟨i, rfl, h1, h2, h3, h4⟩ := frs_mem hx
      simp only [isFr, Bool.and_eq_true, decide_eq_true_eq, Bool.not_eq_true'] at hf
      have : i ≠ m - 1 := fun e => by rw [e, hf.2] at h3; cases h3
      omega
    · simp at hy

theorem pair_getD {R : Int → Int → Prop} {l : List Int} (h : l.Pairwise R) {i j : Nat} (hij : i < j) (hj : j < l.length) : R (l.getD i 0) (l.getD j 0) := by
  have := List.pairwise_iff_getElem.1 h i j (by omega) hj hij
  simpa only [List.getD_eq_getElem?_getD, List.getElem?_eq_getElem hj, List.getElem?_eq_getElem (show i < l.length by omega), Option.getD_some] using this

theorem frs_at {s : List Int} {m i : Nat} (h : i < (frs s m).length) : 1 ≤ (frs s m).getD i 0 ∧ (frs s m).getD i 0 < m ∧ 2 * (i : Int) + 1 ≤ (frs s m).getD i 0 := by
  induction i with
  | zero =>
    obtain ⟨j, h1, h2, h3, _⟩ := frs_mem (getD_mem h)
    omega
  | succ i ih =>
    obtain ⟨j, h1, h2, h3, _⟩ := frs_mem (getD_mem h)
    have := ih (by omega)
    have := pair_getD (frs_apart s m) (show i < i + 1 by omega) h
    omega

theorem frs_half (s : List Int) (m : Nat) : 2 * (frs s m).length ≤ m := by
  rcases Nat.eq_zero_or_pos (frs s m).length with h | h
  · omega
  · have := frs_at (s := s) (m := m) (i := (frs s m).length - 1) (by omega)
    omega

/-- where numbers rise all but the last are small -/
theorem sml_rises {s : List Int} (h : ∀ i, i + 1 < s.length → s.getD i 0 < s.getD (i + 1) 0) {i : Nat} (hi : i + 1 < s.length) : sml s i = true := by
  rw [sml_step hi]; simp only [h i hi, decide_true, Bool.true_or]

theorem sml_falls {s : List Int} (h : ∀ i, i + 1 < s.length → s.getD (i + 1) 0 < s.getD i 0) {i : Nat} (hi : i + 1 < s.length) : sml s i = false := by
  have := h i hi
  rw [sml_step hi]
  simp only [show ¬ s.getD i 0 < s.getD (i + 1) 0 by omega, show ¬ s.getD i 0 = s.getD (i + 1) 0 by omega, decide_false, Bool.false_and, Bool.or_self]

theorem frs_none {s : List Int} {b : Bool} (h : ∀ i, i + 1 < s.length → sml s i = b) : frs s s.length = [] := by
  apply List.eq_nil_iff_forall_not_mem.2
  intro x hx
  obtain ⟨i, rfl, h1, h2, h3, h4⟩ := frs_mem hx
  by_cases e : i + 1 < s.length
  · have := h i e
    have := h (i - 1) (by omega)
    simp_all
  · rw [sml_last (by omega)] at h3; cases h3

end Go.Proofs.Ytedbajpmndbilaa.MM

-- math: W Base Perm SA Kinds
namespace Go.Proofs.Ytedbajpmndbilaa.MM

def lcpL : List Int → List Int → Nat
  | a :: as, b :: bs => if a = b then lcpL as bs + 1 else 0
  | _, _ => 0

/-- how much two endings have alike -/
def lcp (s : List Int) (x y : Nat) : Nat := lcpL (s.drop x) (s.drop y)

theorem lcpL_comm : ∀ a b : List Int, lcpL a b = lcpL b a
  | [], [] => rfl
  | [], _ :: _ => rfl
  | _ :: _, [] => rfl
  | a :: as, b :: bs => by
    simp only [lcpL]
    by_cases h : a = b
    · rw [if_pos h, if_pos h.symm, lcpL_comm]
    · rw [if_neg h, if_neg (Ne.symm h)]

theorem lcpL_le : ∀ a b : List Int, lcpL a b ≤ a.length ∧ lcpL a b ≤ b.length
  | [], [] => by simp [lcpL]
  | [], _ :: _ => by simp [lcpL]
  | _ :: _, [] => by simp [lcpL]
  | a :: as, b :: bs => by
    have := lcpL_le as bs
    simp only [lcpL]
    by_cases h : a = b
    · rw [if_pos h]; simp only [List.length_cons]; omega
    · rw [if_neg h]; omega

theorem lcp_comm (s : List Int) (x y : Nat) : lcp s x y = lcp s y x := lcpL_comm _ _

theorem lcp_end {s : List Int} {x y : Nat} (h : s.length ≤ x ∨ s.length ≤ y) : lcp s x y = 0 := by
  unfold lcp
  have := lcpL_le (s.drop x) (s.drop y)
  rw [List.length_drop, List.length_drop] at this
  omega

theorem lcp_step {s : List Int} {x y : Nat} (hx : x < s.length) (hy : y < s.length) : lcp s x y = if s.getD x 0 = s.getD y 0 then lcp s (x + 1) (y + 1) + 1 else 0 := by
  unfold lcp
  rw [drop_cons_get hx, drop_cons_get hy, lcpL]

theorem lcp_le {s : List Int} {x y : Nat} (hx : x ≤ s.length) (hy : y ≤ s.length) : x + lcp s x y ≤ s.length ∧ y + lcp s x y ≤ s.length := by
  unfold lcp
  have := lcpL_le (s.drop x) (s.drop y)
  rw [List.length_drop, List.length_drop] at this
  omega

theorem lcp_self {s : List Int} : ∀ (d : Nat) {x : Nat}, x + d = s.length → lcp s x x = d
  | 0, x, h => lcp_end (by omega)
  | d + 1, x, h => by rw [lcp_step (by omega) (by omega), if_pos rfl, lcp_self d (by omega)]

/-- so much is alike -/
theorem lcp_add {s : List Int} : ∀ (m : Nat) {x y : Nat}, x + m ≤ s.length → y + m ≤ s.length → (∀ z, z < m → s.getD (x + z) 0 = s.getD (y + z) 0) → lcp s x y = m + lcp s (x + m) (y + m)
  | 0, x, y, _, _, _ => by simp
  | m + 1, x, y, hx, hy, h => by
    have h0 : s.getD x 0 = s.getD y 0 := by simpa using h 0 (by omega)
    rw [lcp_step (by omega) (by omega), if_pos h0, lcp_add m (x := x + 1) (y := y + 1) (by omega) (by omega) (fun z hz => by
      have := h (z + 1) (by omega)
      rw [show x + 1 + z = x + (z + 1) by omega, show y + 1 + z = y + (z + 1) by omega]; exact this)]
    rw [show x + 1 + m = x + (m + 1) by omega, show y + 1 + m = y + (m + 1) by omega]
    omega

theorem lcp_alike {s : List Int} : ∀ (m : Nat) {x y : Nat}, m ≤ lcp s x y → ∀ z, z < m → s.getD (x + z) 0 = s.getD (y + z) 0
  | 0, _, _, _, z, hz => by omega
  | m + 1, x, y, h, z, hz => by
    have hx : x < s.length := by
      rcases Nat.lt_or_ge x s.length with h1 | h1
      · exact h1
      · rw [lcp_end (.inl h1)] at h; omega
    have hy : y < s.length := by
      rcases Nat.lt_or_ge y s.length with h1 | h1
      · exact h1
      · rw [lcp_end (.inr h1)] at h; omega
    rw [lcp_step hx hy] at h
    by_cases he : s.getD x 0 = s.getD y 0
    · rw [if_pos he] at h
      cases z with
      | zero => simpa using he
      | succ z =>
        have := lcp_alike (s := s) m (x := x + 1) (y := y + 1) (by omega) z (by omega)
        rw [show x + 1 + z = x + (z + 1) by omega, show y + 1 + z = y + (z + 1) by omega] at this; exact this
    · rw [if_neg he] at h; omega

theorem lcp_split {s : List Int} {x y m : Nat} (h : m ≤ lcp s x y) (hx : x ≤ s.length) (hy : y ≤ s.length) : lcp s x y = m + lcp s (x + m) (y + m) := by
  have := lcp_le hx hy
  exact lcp_add m (by omega) (by omega) (lcp_alike m h)

/-- of three in order, the outer ones have no more alike than the last two -/
theorem lcpL_between : ∀ {a b c : List Int}, ltL a b → ltL b c → lcpL a c ≤ lcpL b c
  | [], _, _, _, _ => by simp [lcpL]
  | _ :: _, [], _, h, _ => by simp [ltL, cmpL] at h
  | _ :: _, _ :: _, [], _, h => by simp [ltL, cmpL] at h
  | a :: as, b :: bs, c :: cs, h, k => by
    simp only [ltL, cmpL] at h k
    simp only [lcpL]
    by_cases h1 : a < b
    · have : ¬ a = c := by
        by_cases k1 : b < c
        · omega
        · by_cases k2 : c < b
          · simp [k1, k2] at k
          · omega
      rw [if_neg this]; omega
    · by_cases h2 : b < a
      · simp [h1, h2] at h
      · have e : a = b := by omega
        subst e
        simp at h
        by_cases k1 : a < c
        · rw [if_neg (by omega)]; omega
        · by_cases k2 : c < a
          · simp [k1, k2] at k
          · simp [k1, k2] at k
            have e2 : a = c := by omega
            rw [if_pos e2, if_pos e2]
            have := lcpL_between h k
            omega

theorem pairwise_of_adj {R : Int → Int → Prop} (ht : ∀ x y z, R x y → R y z → R x z) : ∀ {l : List Int}, (∀ i, i + 1 < l.length → R (l.getD i 0) (l.getD (i + 1) 0)) → l.Pairwise R
  | [], _ => .nil
  | [_], _ => by simp
  | x :: y :: l, h => by
    have hp : (y :: l).Pairwise R := pairwise_of_adj ht (fun i hi => by
      have := h (i + 1) (by simp at hi ⊢; omega)
      simpa using this)
    have hxy : R x y := by simpa using h 0 (by simp)
    rw [List.pairwise_cons]
    refine ⟨fun z hz => ?_, hp⟩
    rcases List.mem_cons.1 hz with rfl | hz
    · exact hxy
    · exact ht _ _ _ hxy ((List.pairwise_cons.1 hp).1 z hz)

/-- the rank of a place; the empty ending is the least -/
def rk (a : List Int) (x : Nat) : Int := (inv a ++ [-1]).getD x 0

theorem rk_in {a : List Int} {x : Nat} (h : x < a.length) : rk a x = (inv a).getD x 0 := by
  unfold rk
  rw [List.getD_eq_getElem?_getD, List.getElem?_append_left (by rw [inv_length]; exact h), ← List.getD_eq_getElem?_getD]

theorem rk_end (a : List Int) : rk a a.length = -1 := by
  unfold rk
  rw [List.getD_eq_getElem?_getD, List.getElem?_append_right (by rw [inv_length]; omega), inv_length]
  simp

/-- a pair in order by its first numbers, then by the ranks behind -/
def adjOk (s a : List Int) (x y : Int) : Prop := s.getD x.toNat 0 < s.getD y.toNat 0 ∨ (s.getD x.toNat 0 = s.getD y.toNat 0 ∧ rk a (x.toNat + 1) < rk a (y.toNat + 1))

/-- what the programs look for -/
def adjBad (s a : List Int) (x y : Int) : Prop := s.getD y.toNat 0 < s.getD x.toNat 0 ∨ (s.getD x.toNat 0 = s.getD y.toNat 0 ∧ rk a (y.toNat + 1) < rk a (x.toNat + 1))

theorem rk_inj {a : List Int} (hp : isPerm a) {x y : Nat} (hx : x ≤ a.length) (hy : y ≤ a.length) (h : rk a x = rk a y) : x = y := by
  by_cases ex : x = a.length
  · by_cases ey : y = a.length
    · omega
    · subst ex
      rw [rk_end, rk_in (by omega)] at h
      have := (at_inv hp (v := y) (by omega)).2
      omega
  · by_cases ey : y = a.length
    · subst ey
      rw [rk_end, rk_in (by omega)] at h
      have := (at_inv hp (v := x) (by omega)).2
      omega
    · rw [rk_in (by omega), rk_in (by omega)] at h
      have h1 := (at_inv hp (v := x) (by omega)).1
      have h2 := (at_inv hp (v := y) (by omega)).1
      rw [h, h2] at h1
      omega

theorem adj_not_bad {s a : List Int} (hp : isPerm a) {x y : Int} (hx : 0 ≤ x ∧ x < a.length) (hy : 0 ≤ y ∧ y < a.length) (hxy : x ≠ y) : ¬ adjBad s a x y ↔ adjOk s a x y := by
  unfold adjBad adjOk
  have : rk a (x.toNat + 1) ≠ rk a (y.toNat + 1) := fun h => by
    have := rk_inj hp (by omega) (by omega) h
    omega
  omega

/-- no pair of neighbours is bad: in order -/
theorem sa_of_adj {s a : List Int} (hl : a.length = s.length) (hp : isPerm a) (h : ∀ i, i + 1 < a.length → ¬ adjBad s a (a.getD i 0) (a.getD (i + 1) 0)) : IsSA s a := by
  have hpw : a.Pairwise (adjOk s a) := by
    refine pairwise_of_adj (fun x y z h1 h2 => ?_) (fun i hi => ?_)
    · unfold adjOk at *; omega
    · have h1 := hp.1 _ (getD_mem (show i < a.length by omega))
      have h2 := hp.1 _ (getD_mem hi)
      refine (adj_not_bad hp h1 h2 (fun e => ?_)).1 (h i hi)
      have := getD_inj hp.2 (by omega) hi e
      omega
  have key : ∀ x y : Nat, x < s.length → y < s.length → rk a x < rk a y → s.getD x 0 < s.getD y 0 ∨ (s.getD x 0 = s.getD y 0 ∧ rk a (x + 1) < rk a (y + 1)) := by
    intro x y hx hy hr
    rw [rk_in (by omega), rk_in (by omega)] at hr
    have h1 := at_inv hp (v := x) (by omega)
    have h2 := at_inv hp (v := y) (by omega)
    have := pair_getD hpw (i := ((inv a).getD x 0).toNat) (j := ((inv a).getD y 0).toNat) (by omega) (by omega)
    rw [h1.1, h2.1] at this
    simpa [adjOk] using this
  refine ⟨hl, fun x hx => by rw [← hl]; exact hp.1 x hx, List.pairwise_iff_getElem.2 fun i j hi hj hij => ?_⟩
  have e1 : a[i] = a.getD i 0 := by rw [List.getD_eq_getElem?_getD, List.getElem?_eq_getElem hi]; rfl
  have e2 : a[j] = a.getD j 0 := by rw [List.getD_eq_getElem?_getD, List.getElem?_eq_getElem hj]; rfl
  rw [e1, e2]
  have h1 := hp.1 _ (getD_mem hi)
  have h2 := hp.1 _ (getD_mem hj)
  have := ranks_sort (s := s) (r := rk a) (fun x hx => by
    rw [← hl, rk_end, rk_in (by omega)]
    have := (at_inv hp (v := x) (by omega)).2
    omega) key (s.length + 1) (a.getD i 0).toNat (a.getD j 0).toNat (by omega) (by omega) (by omega) (by
      rw [rk_in (by omega), rk_in (by omega), inv_at hp hi, inv_at hp hj]; omega)
  rwa [Int.toNat_of_nonneg h1.1, Int.toNat_of_nonneg h2.1] at this

theorem sa_rank {s a : List Int} (h : IsSA s a) {x y : Nat} (hx : x < s.length) (hy : y < s.length) : (inv a).getD x 0 < (inv a).getD y 0 ↔ sufLt s x y := by
  have hl := h.1
  have h1 := at_inv h.perm (v := x) (by omega)
  have h2 := at_inv h.perm (v := y) (by omega)
  have fwd : ∀ {u v : Nat}, u < s.length → v < s.length → (inv a).getD u 0 < (inv a).getD v 0 → sufLt s u v := fun {u v} hu hv hr => by
    have h1 := at_inv h.perm (v := u) (by omega)
    have h2 := at_inv h.perm (v := v) (by omega)
    have := pair_getD h.2.2 (i := ((inv a).getD u 0).toNat) (j := ((inv a).getD v 0).toNat) (by omega) (by omega)
    rwa [h1.1, h2.1] at this
  constructor
  · exact fwd hx hy
  · intro hs
    rcases Int.lt_trichotomy ((inv a).getD x 0) ((inv a).getD y 0) with k | k | k
    · exact k
    · have : x = y := by
        have e := h1.1
        rw [k, h2.1] at e
        omega
      subst this
      exact absurd hs (ltL_irrefl _)
    · exact absurd (fwd hy hx k) (sufLt_asymm hs)

/-- in order, no pair of neighbours is bad -/
theorem adj_of_sa {s a : List Int} (h : IsSA s a) {i : Nat} (hi : i + 1 < a.length) : ¬ adjBad s a (a.getD i 0) (a.getD (i + 1) 0) := by
  have hl := h.1
  have hp := h.perm
  have h1 := hp.1 _ (getD_mem (show i < a.length by omega))
  have h2 := hp.1 _ (getD_mem hi)
  have hs := pair_getD h.2.2 (show i < i + 1 by omega) hi
  generalize a.getD i 0 = x at *
  generalize a.getD (i + 1) 0 = y at *
  obtain ⟨x, rfl⟩ : ∃ m : Nat, x = m := ⟨x.toNat, by omega⟩
  obtain ⟨y, rfl⟩ : ∃ m : Nat, y = m := ⟨y.toNat, by omega⟩
  have := (sufLt_step (by omega) (by omega)).1 hs
  unfold adjBad
  simp only [Int.toNat_natCast]
  rcases this with k | ⟨k1, k2⟩
  · omega
  · have : rk a (x + 1) < rk a (y + 1) := by
      by_cases ey : y + 1 = a.length
      · exfalso
        unfold sufLt at k2
        rw [List.drop_of_length_le (i := ((y : Int) + 1).toNat) (by omega)] at k2
        exact not_ltL_nil _ k2
      · by_cases ex : x + 1 = a.length
        · rw [ex, rk_end, rk_in (by omega)]
          have := (at_inv hp (v := y + 1) (by omega)).2
          omega
        · rw [rk_in (by omega), rk_in (by omega)]
          exact (sa_rank h (by omega) (by omega)).2 (by simpa using k2)
    omega

/-- Kasai's lemma: one place on, at most one less alike with the one ahead -/
theorem lcp_falls {s a : List Int} (h : IsSA s a) {i : Nat} (hi : i + 1 < s.length) {p q : Int}
    (hp : 0 < (inv a).getD i 0 ∧ a.getD ((inv a).getD i 0 - 1).toNat 0 = p) (hq : 0 < (inv a).getD (i + 1) 0 ∧ a.getD ((inv a).getD (i + 1) 0 - 1).toNat 0 = q) :
    lcp s i p.toNat ≤ lcp s (i + 1) q.toNat + 1 := by
  have hl := h.1
  have hpm := h.perm
  have hi1 := at_inv hpm (v := i) (by omega)
  have hi2 := at_inv hpm (v := i + 1) (by omega)
  have hpr := hpm.1 p (by rw [← hp.2]; exact getD_mem (by omega))
  have hqr := hpm.1 q (by rw [← hq.2]; exact getD_mem (by omega))
  obtain ⟨p, rfl⟩ : ∃ m : Nat, p = m := ⟨p.toNat, by omega⟩
  obtain ⟨q, rfl⟩ : ∃ m : Nat, q = m := ⟨q.toNat, by omega⟩
  simp only [Int.toNat_natCast]
  have hlt : sufLt s p i := by
    have := pair_getD h.2.2 (i := ((inv a).getD i 0 - 1).toNat) (j := ((inv a).getD i 0).toNat) (by omega) (by omega)
    rwa [hp.2, hi1.1] at this
  have hst := lcp_step (s := s) (x := i) (y := p) (by omega) (by omega)
  by_cases he : s.getD i 0 = s.getD p 0
  · rw [if_pos he] at hst
    by_cases hz : lcp s (i + 1) (p + 1) = 0
    · omega
    · have hp1 : p + 1 < s.length := by
        rcases Nat.lt_or_ge (p + 1) s.length with k | k
        · exact k
        · rw [lcp_end (.inr k)] at hz; omega
      have h3 := (sufLt_step (by omega) (by omega)).1 hlt
      have h4 : sufLt s ((p + 1 : Nat) : Int) ((i + 1 : Nat) : Int) := by
        rcases h3 with k | k
        · omega
        · simpa using k.2
      -- q is the last one less
      have h5 := (sa_rank h hp1 hi).2 h4
      have hq2 := inv_at hpm (i := ((inv a).getD (i + 1) 0 - 1).toNat) (by omega)
      rw [hq.2, Int.toNat_natCast] at hq2
      have hp2 := at_inv hpm (v := p + 1) (by omega)
      by_cases e : p + 1 = q
      · rw [hst, e]; omega
      · have h6 : sufLt s ((p + 1 : Nat) : Int) (q : Int) := by
          refine (sa_rank h hp1 (by omega)).1 ?_
          have hne : (inv a).getD (p + 1) 0 ≠ (inv a).getD q 0 := fun hh => by
            have h7 := hp2.1
            have h8 := (at_inv hpm (v := q) (by omega)).1
            rw [hh, h8] at h7
            omega
          omega
        have h7 : sufLt s (q : Int) ((i + 1 : Nat) : Int) := by
          have := pair_getD h.2.2 (i := ((inv a).getD (i + 1) 0 - 1).toNat) (j := ((inv a).getD (i + 1) 0).toNat) (by omega) (by omega)
          rwa [hq.2, hi2.1] at this
        have h8 : lcp s (p + 1) (i + 1) ≤ lcp s q (i + 1) := by
          have := lcpL_between h6 h7
          simpa [lcp] using this
        rw [hst, lcp_comm s (i + 1) (p + 1), lcp_comm s (i + 1) q]; omega
  · rw [if_neg he] at hst; omega

end Go.Proofs.Ytedbajpmndbilaa.MM
namespace Go.Proofs.Ytedbajpmndbilaa.MM

/-- what Common answers -/
def comR (s : List Int) (i j : Int) : Int := if 0 ≤ i ∧ i ≤ s.length ∧ 0 ≤ j ∧ j ≤ s.length then (lcp s i.toNat j.toNat : Int) else 0

theorem comR_nat {s : List Int} {i j : Nat} (hi : i ≤ s.length) (hj : j ≤ s.length) : comR s (i : Int) (j : Int) = (lcp s i j : Int) := by
  unfold comR; rw [if_pos (by omega)]; simp

/-- where one looks on from what is alike -/
theorem lcp_stop {s : List Int} {i j n : Nat} (hi : i + n ≤ s.length) (hj : j + n ≤ s.length) (h : ∀ z, z < n → s.getD (i + z) 0 = s.getD (j + z) 0) (he : s.length ≤ i + n ∨ s.length ≤ j + n ∨ s.getD (i + n) 0 ≠ s.getD (j + n) 0) : lcp s i j = n := by
  rw [lcp_add n hi hj h]
  by_cases e : s.length ≤ i + n ∨ s.length ≤ j + n
  · rw [lcp_end e]; omega
  · rw [lcp_step (by omega) (by omega), if_neg (by omega)]; omega

/-- the place ahead in the order; -1: none -/
def ahd (a : List Int) (v : Nat) : Int := if a.idxOf (v : Int) = 0 then -1 else a.getD (a.idxOf (v : Int) - 1) 0

def ahdRow (a : List Int) : List Int := (List.range a.length).map (ahd a)

theorem ahdRow_length (a : List Int) : (ahdRow a).length = a.length := by simp [ahdRow]

theorem ahdRow_get {a : List Int} {v : Nat} (h : v < a.length) : (ahdRow a).getD v 0 = ahd a v := by
  unfold ahdRow
  rw [List.getD_eq_getElem?_getD, List.getElem?_map, List.getElem?_range h]; rfl

theorem idxOf_at {a : List Int} (hp : isPerm a) {i : Nat} (hi : i < a.length) : a.idxOf (a.getD i 0) = i := by
  have hm := getD_mem hi
  exact getD_inj hp.2 (List.idxOf_lt_length_of_mem hm) hi (idxOf_getD hm)

theorem ahd_at {a : List Int} (hp : isPerm a) {i : Nat} (hi : i < a.length) : ahd a (a.getD i 0).toNat = if i = 0 then -1 else a.getD (i - 1) 0 := by
  have hm := hp.1 _ (getD_mem hi)
  unfold ahd
  rw [show (((a.getD i 0).toNat : Nat) : Int) = a.getD i 0 by omega, idxOf_at hp hi]

theorem ahd_range {a : List Int} (hp : isPerm a) {v : Nat} (hv : v < a.length) : -1 ≤ ahd a v ∧ ahd a v < a.length := by
  have hm : (v : Int) ∈ a := hp.mem (by omega) (by omega)
  have hi := List.idxOf_lt_length_of_mem hm
  unfold ahd
  split
  · omega
  · have := hp.1 _ (getD_mem (a := a) (i := a.idxOf (v : Int) - 1) (by omega))
    omega

/-- how much a place has alike with the one ahead -/
def plc (s a : List Int) (v : Nat) : Int := if ahd a v = -1 then 0 else (lcp s v (ahd a v).toNat : Int)

def plcRow (s a : List Int) : List Int := (List.range a.length).map (plc s a)

theorem plcRow_length (s a : List Int) : (plcRow s a).length = a.length := by simp [plcRow]

theorem plcRow_get {s a : List Int} {v : Nat} (h : v < a.length) : (plcRow s a).getD v 0 = plc s a v := by
  unfold plcRow
  rw [List.getD_eq_getElem?_getD, List.getElem?_map, List.getElem?_range h]; rfl

/-- how much neighbours have alike -/
def lcpAt (s a : List Int) (i : Nat) : Int := if i = 0 then 0 else (lcp s (a.getD (i - 1) 0).toNat (a.getD i 0).toNat : Int)

def lcpRow (s a : List Int) : List Int := (List.range a.length).map (lcpAt s a)

theorem lcpRow_length (s a : List Int) : (lcpRow s a).length = a.length := by simp [lcpRow]

theorem lcpRow_get {s a : List Int} {i : Nat} (h : i < a.length) : (lcpRow s a).getD i 0 = lcpAt s a i := by
  unfold lcpRow
  rw [List.getD_eq_getElem?_getD, List.getElem?_map, List.getElem?_range h]; rfl

theorem plc_at {s a : List Int} (hp : isPerm a) {i : Nat} (hi : i < a.length) : plc s a (a.getD i 0).toNat = lcpAt s a i := by
  unfold plc lcpAt
  rw [ahd_at hp hi]
  by_cases h : i = 0
  · rw [if_pos h, if_pos h, if_pos rfl]
  · rw [if_neg h, if_neg h, lcp_comm]
    have := hp.1 _ (getD_mem (a := a) (i := i - 1) (by omega))
    rw [if_neg (by omega)]

theorem plc_le {s a : List Int} (hp : isPerm a) (hl : a.length = s.length) {v : Nat} (hv : v < a.length) : 0 ≤ plc s a v ∧ plc s a v ≤ s.length - v := by
  unfold plc
  have hr := ahd_range hp hv
  split
  · omega
  · have := lcp_le (s := s) (x := v) (y := (ahd a v).toNat) (by omega) (by omega)
    omega

/-- from place to place it falls by one at most: by Kasai's lemma -/
theorem plc_falls {s a : List Int} (h : IsSA s a) {v : Nat} (hv : v + 1 < s.length) (hq : ahd a (v + 1) ≠ -1) : plc s a v - 1 ≤ plc s a (v + 1) := by
  have hl := h.1
  have hp := h.perm
  unfold plc
  by_cases h0 : ahd a v = -1
  · rw [if_pos h0, if_neg hq]; omega
  · rw [if_neg h0, if_neg hq]
    have e1 : (inv a).getD v 0 = ((a.idxOf (v : Int) : Nat) : Int) := inv_get (by omega)
    have e2 : (inv a).getD (v + 1) 0 = ((a.idxOf ((v + 1 : Nat) : Int) : Nat) : Int) := inv_get (by omega)
    have n1 : a.idxOf (v : Int) ≠ 0 := fun e => h0 (by unfold ahd; rw [if_pos e])
    have n2 : a.idxOf ((v + 1 : Nat) : Int) ≠ 0 := fun e => hq (by unfold ahd; rw [if_pos e])
    have := lcp_falls h (i := v) hv (p := ahd a v) (q := ahd a (v + 1)) ⟨by omega, by unfold ahd; rw [if_neg n1, e1]; congr 1; omega⟩ ⟨by omega, by unfold ahd; rw [if_neg n2, e2]; congr 1; omega⟩
    omega

end Go.Proofs.Ytedbajpmndbilaa.MM
namespace Go.Proofs.Ytedbajpmndbilaa.MM

theorem plc_falls_all {s a : List Int} (h : IsSA s a) {v : Nat} (hv : v + 1 < s.length) : plc s a v - 1 ≤ plc s a (v + 1) := by
  by_cases hq : ahd a (v + 1) = -1
  · have hl := h.1
    have hp := h.perm
    have hpv : plc s a (v + 1) = 0 := by unfold plc; rw [if_pos hq]
    have hr := ahd_range hp (v := v) (by omega)
    have hidx : a.idxOf ((v + 1 : Nat) : Int) = 0 := by
      by_cases e : a.idxOf ((v + 1 : Nat) : Int) = 0
      · exact e
      · exfalso
        unfold ahd at hq
        rw [if_neg e] at hq
        have hm : ((v + 1 : Nat) : Int) ∈ a := hp.mem (by omega) (by omega)
        have := hp.1 _ (getD_mem (a := a) (i := a.idxOf ((v + 1 : Nat) : Int) - 1) (by have := List.idxOf_lt_length_of_mem hm; omega))
        omega
    rw [hpv]
    by_cases h0 : ahd a v = -1
    · unfold plc; rw [if_pos h0]; omega
    · obtain ⟨p, hpe⟩ : ∃ p : Nat, ahd a v = p := ⟨(ahd a v).toNat, by omega⟩
      have hpl : plc s a v = (lcp s v p : Int) := by unfold plc; rw [if_neg h0, hpe]; rfl
      rw [hpl]
      rcases Nat.lt_or_ge 1 (lcp s v p) with h2 | h2
      · exfalso
        have hst := lcp_step (s := s) (x := v) (y := p) (by omega) (by omega)
        by_cases he : s.getD v 0 = s.getD p 0
        · rw [if_pos he] at hst
          have hp1 : p + 1 < s.length := by
            rcases Nat.lt_or_ge (p + 1) s.length with k | k
            · exact k
            · rw [lcp_end (.inr k)] at hst; omega
          have hlt : sufLt s p v := by
            have hm : (v : Int) ∈ a := hp.mem (by omega) (by omega)
            have hi := List.idxOf_lt_length_of_mem hm
            have n1 : a.idxOf (v : Int) ≠ 0 := fun e => h0 (by unfold ahd; rw [if_pos e])
            have := pair_getD h.2.2 (i := a.idxOf (v : Int) - 1) (j := a.idxOf (v : Int)) (by omega) hi
            unfold ahd at hpe
            rw [if_neg n1] at hpe
            rwa [hpe, idxOf_getD hm] at this
          rcases (sufLt_step (by omega) (by omega)).1 hlt with k | k
          · omega
          · have h4 : sufLt s ((p + 1 : Nat) : Int) ((v + 1 : Nat) : Int) := by simpa using k.2
            have h5 := (sa_rank h hp1 hv).2 h4
            rw [inv_get (by omega), inv_get (by omega), hidx] at h5
            omega
        · rw [if_neg he] at hst; omega
      · omega
  · exact plc_falls h hv hq

/-- one byte again and again: the shorter endings come first -/
def runSA (n : Nat) : List Int := (List.range n).map (fun (i : Nat) => ((n - 1 - i : Nat) : Int))

theorem runSA_length (n : Nat) : (runSA n).length = n := by simp [runSA]

theorem runSA_get {n i : Nat} (h : i < n) : (runSA n).getD i 0 = ((n - 1 - i : Nat) : Int) := by
  unfold runSA
  rw [List.getD_eq_getElem?_getD, List.getElem?_map, List.getElem?_range h]; rfl

theorem runSA_sa (n : Nat) (c : Int) : IsSA (List.replicate n c) (runSA n) := by
  refine ⟨by rw [runSA_length]; simp, fun x hx => ?_, List.pairwise_iff_getElem.2 fun i j hi hj hij => ?_⟩
  · unfold runSA at hx
    obtain ⟨i, hi, rfl⟩ := List.mem_map.1 hx
    rw [List.mem_range] at hi
    rw [List.length_replicate]; omega
  · rw [runSA_length] at hi hj
    have e1 : (runSA n)[i] = ((n - 1 - i : Nat) : Int) := by rw [← runSA_get hi, List.getD_eq_getElem?_getD, List.getElem?_eq_getElem (by rw [runSA_length]; exact hi)]; rfl
    have e2 : (runSA n)[j] = ((n - 1 - j : Nat) : Int) := by rw [← runSA_get hj, List.getD_eq_getElem?_getD, List.getElem?_eq_getElem (by rw [runSA_length]; exact hj)]; rfl
    rw [e1, e2]
    unfold sufLt
    simp only [Int.toNat_natCast, List.drop_replicate]
    refine ltL_pre (by simp only [List.length_replicate]; omega) (fun y hy => ?_)
    simp only [List.length_replicate] at hy
    simp only [List.getD_eq_getElem?_getD, List.getElem?_replicate]
    rw [if_pos (by omega), if_pos (by omega)]

theorem run_lcp {n i : Nat} {c : Int} (h0 : 0 < i) (hi : i < n) : lcp (List.replicate n c) (n - i) (n - 1 - i) = i := by
  refine lcp_stop (by simp only [List.length_replicate]; omega) (by simp only [List.length_replicate]; omega) (fun z hz => ?_) (.inl (by simp only [List.length_replicate]; omega))
  simp only [List.getD_eq_getElem?_getD, List.getElem?_replicate]
  rw [if_pos (by omega), if_pos (by omega)]

end Go.Proofs.Ytedbajpmndbilaa.MM

namespace Go.Proofs.Ytedbajpmndbilaa.PrintWords
open Go Go.ChangeShapes Go.WideShapes
/-- The printed row names it from here. -/
theorem sized_ints {H : Type} {enc : TypeId × Value → H} {P : Program} {W : World} {base : Nat} {spare : Nat → Bool} {held : Bool} {t e : TypeId} {k : IntKind} {a : Option Addr} {len cap : Nat} {d : DataW H} {ps : List MemPlace} {ts : List TypeId} {ds : List (DataW H)} {j : Nat}
    (hsz : (DataW.weightsEach P ts ds).all (· ≤ reachBytes) = true) (ht : ts[j]? = some t) (hd : ds[j]? = some d) (hu : P.underlying t = some (.slice e)) (he : P.underlying e = some (.int k)) (hc : P.cellsOf e = 1) {B : Nat} (hB : P.bytesOf e = B)
    (h : DataW.Trod enc P W base spare held t (.slice a len cap) d ps) : len * B ≤ 140737488351232 :=
  Go.Proofs.YtedbajpmndbilaaW.PrintWords.sized_ints hsz ht hd hu he hc hB h
end Go.Proofs.Ytedbajpmndbilaa.PrintWords
