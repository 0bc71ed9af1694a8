/- Plain mathematics for LeastTurned: lists, orders, no program in sight. -/
import Derived.Test.YtadldiloeccnlaaWWords
import Derived.Test.YtadldiloeccnlaaWSized
set_option linter.unusedVariables false
set_option linter.unusedSimpArgs false
/-! Words over the print: rounds, wraps, reads by number. -/
namespace Go.Proofs.Ytadldiloeccnlaa.MM
open Go.RowKit Go.Proofs.YtadldiloeccnlaaW.PrintWords

theorem wrap64_id {x : Int} (h0 : -9223372036854775808 ≤ x) (h1 : x < 9223372036854775808) : wrap64 x = x := by
  unfold wrap64; omega

theorem wrap_nat {i n : Nat} (h : i < n) (hn : n ≤ 140737488355328) : wrap64 ((i : Int) + 1) = ((i + 1 : Nat) : Int) := by
  rw [wrap64_id (by omega) (by omega)]; omega

theorem rd_nat (xs : List Int) (i : Nat) : rd xs (i : Int) = xs.getD i 0 := by simp [rd]

theorem rdB_nat (xs : List Bool) (i : Nat) : rdOf false xs (i : Int) = xs.getD i false := by simp [rdOf]

theorem wf_i64 {x : Int} (h : (Go.Lit.int .i64 x).wf = true) : -9223372036854775808 ≤ x ∧ x ≤ 9223372036854775807 := by
  simp only [Go.Lit.wf, Bool.and_eq_true, decide_eq_true_eq] at h
  exact h

theorem wf_u8 {x : Int} (h : (Go.Lit.int .u8 x).wf = true) : 0 ≤ x ∧ x ≤ 255 := by
  simp only [Go.Lit.wf, Bool.and_eq_true, decide_eq_true_eq] at h
  exact h

theorem Ev.at_ {α : Type} {g : Nat → Option α} {r : α} (k : Nat) (h : ∀ j, g (j + k) = some r) : Ev g r :=
  ⟨k, fun j hj => by obtain ⟨m, rfl⟩ : ∃ m, j = m + k := ⟨j - k, by omega⟩; exact h m⟩

theorem Ev.same {α : Type} {g : Nat → Option α} {r r' : α} (h : Ev g r) (h' : Ev g r') : r = r' := by
  obtain ⟨K, h⟩ := h
  obtain ⟨K', h'⟩ := h'
  have h1 := h (max K K') (by omega)
  rw [h' (max K K') (by omega)] at h1
  exact (Option.some.inj h1).symm

theorem lset_self {α : Type} {l : List α} {i : Nat} {v d : α} (h : i < l.length) : (l.set i v).getD i d = v := by
  rw [List.getD_eq_getElem?_getD, List.getElem?_set_self h]; rfl

theorem lset_ne {α : Type} {l : List α} {i j : Nat} {v d : α} (h : i ≠ j) : (l.set i v).getD j d = l.getD j d := by
  rw [List.getD_eq_getElem?_getD, List.getElem?_set_ne h, ← List.getD_eq_getElem?_getD]

theorem lset {α : Type} {l : List α} {i j : Nat} {v d : α} (h : i < l.length) : (l.set i v).getD j d = if i = j then v else l.getD j d := by
  by_cases e : i = j
  · subst e; rw [lset_self h, if_pos rfl]
  · rw [lset_ne e, if_neg e]

theorem getD_replicate {α : Type} {n i : Nat} {v : α} : (List.replicate n v).getD i v = v := by
  rw [List.getD_eq_getElem?_getD, List.getElem?_replicate]; split <;> rfl

theorem take_next {l : List Int} {i : Nat} (h : i < l.length) : l.take (i + 1) = l.take i ++ [l.getD i 0] := by
  rw [List.take_succ_eq_append_getElem h, List.getD_eq_getElem?_getD, List.getElem?_eq_getElem h]; rfl

end Go.Proofs.Ytadldiloeccnlaa.MM

/-! Base: lexicographic comparison of lists of numbers; reads by number. -/
namespace Go.Proofs.Ytadldiloeccnlaa.MM

def cmpL : List Int → List Int → Int
  | [], [] => 0
  | [], _ :: _ => -1
  | _ :: _, [] => 1
  | a :: as, b :: bs => if a < b then -1 else if b < a then 1 else cmpL as bs

theorem cmpL_vals : ∀ a b : List Int, cmpL a b = -1 ∨ cmpL a b = 0 ∨ cmpL a b = 1
  | [], [] => by simp [cmpL]
  | [], _ :: _ => by simp [cmpL]
  | _ :: _, [] => by simp [cmpL]
  | a :: as, b :: bs => by
    have := cmpL_vals as bs
    simp only [cmpL]; split
    · simp
    · split <;> simp [*]

theorem cmpL_self : ∀ a : List Int, cmpL a a = 0
  | [] => by simp [cmpL]
  | a :: as => by simp [cmpL, cmpL_self as]

theorem cmpL_anti : ∀ a b : List Int, cmpL b a = - cmpL a b
  | [], [] => by simp [cmpL]
  | [], _ :: _ => by simp [cmpL]
  | _ :: _, [] => by simp [cmpL]
  | a :: as, b :: bs => by
    have := cmpL_anti as bs
    simp only [cmpL]
    by_cases h1 : a < b
    · have : ¬ b < a := by omega
      simp [*]
    · by_cases h2 : b < a <;> simp [*]

theorem cmpL_eq : ∀ {a b : List Int}, cmpL a b = 0 → a = b
  | [], [], _ => rfl
  | [], _ :: _, h => by simp [cmpL] at h
  | _ :: _, [], h => by simp [cmpL] at h
  | a :: as, b :: bs, h => by
    simp only [cmpL] at h
    by_cases h1 : a < b
    · simp [h1] at h
    · by_cases h2 : b < a
      · simp [h1, h2] at h
      · simp [h1, h2] at h
        have := cmpL_eq h
        have : a = b := by omega
        simp [*]

theorem cmpL_zero {a b : List Int} : cmpL a b = 0 ↔ a = b := ⟨cmpL_eq, fun h => by rw [h, cmpL_self]⟩

/-- less -/
def ltL (a b : List Int) : Prop := cmpL a b = -1

instance (a b : List Int) : Decidable (ltL a b) := by unfold ltL; infer_instance

theorem ltL_irrefl (a : List Int) : ¬ ltL a a := by simp [ltL, cmpL_self]

theorem ltL_trans : ∀ {a b c : List Int}, ltL a b → ltL b c → ltL a c
  | [], [], _, h, _ => by simp [ltL, cmpL] at h
  | _ :: _, [], _, h, _ => by simp [ltL, cmpL] at h
  | [], _ :: _, [], _, h => by simp [ltL, cmpL] at h
  | [], _ :: _, _ :: _, _, _ => by simp [ltL, cmpL]
  | _ :: _, _ :: _, [], _, h => by simp [ltL, cmpL] at h
  | a :: as, b :: bs, c :: cs, h, k => by
    simp only [ltL, cmpL] at h k ⊢
    by_cases h1 : a < b
    · by_cases k1 : b < c
      · have : a < c := by omega
        simp [this]
      · by_cases k2 : c < b
        · simp [k1, k2] at k
        · have : a < c := by omega
          simp [this]
    · by_cases h2 : b < a
      · simp [h1, h2] at h
      · have e : a = b := by omega
        subst e
        simp at h
        by_cases k1 : a < c
        · simp [k1]
        · by_cases k2 : c < a
          · simp [k1, k2] at k
          · simp [k1, k2] at k ⊢
            exact ltL_trans h k

theorem ltL_asymm {a b : List Int} (h : ltL a b) : ¬ ltL b a := fun k => ltL_irrefl a (ltL_trans h k)

theorem ltL_tri (a b : List Int) : ltL a b ∨ a = b ∨ ltL b a := by
  rcases cmpL_vals a b with h | h | h
  · exact .inl h
  · exact .inr (.inl (cmpL_eq h))
  · right; right; unfold ltL; rw [cmpL_anti a b, h]

theorem cmpL_gt {a b : List Int} : cmpL a b = 1 ↔ ltL b a := by
  unfold ltL; rw [cmpL_anti a b]; omega

theorem not_ltL {a b : List Int} : ¬ ltL a b ↔ a = b ∨ ltL b a := by
  constructor
  · intro h
    rcases ltL_tri a b with k | k | k
    · exact absurd k h
    · exact .inl k
    · exact .inr k
  · rintro (rfl | h)
    · exact ltL_irrefl _
    · exact ltL_asymm h

theorem cmpL_append : ∀ p a b : List Int, cmpL (p ++ a) (p ++ b) = cmpL a b
  | [], _, _ => rfl
  | x :: p, a, b => by simp [cmpL, cmpL_append p a b]

theorem ltL_append {p a b : List Int} : ltL (p ++ a) (p ++ b) ↔ ltL a b := by simp [ltL, cmpL_append]

theorem ltL_nil {a : List Int} : ltL [] a ↔ a ≠ [] := by cases a <;> simp [ltL, cmpL]

theorem not_ltL_nil (a : List Int) : ¬ ltL a [] := by cases a <;> simp [ltL, cmpL]

theorem ltL_prefix {a b : List Int} (h : b ≠ []) : ltL a (a ++ b) := by
  have := (ltL_append (p := a) (a := []) (b := b)).2 (ltL_nil.2 h)
  simpa using this

/-- read, nought outside -/
def gt (l : List Int) (i : Nat) : Int := l.getD i 0

/-- The first place where they differ tells. -/
theorem ltL_iff : ∀ {a b : List Int}, ltL a b ↔ ∃ x, x ≤ a.length ∧ x < b.length ∧ (∀ y, y < x → a[y]? = b[y]?) ∧ (x = a.length ∨ (x < a.length ∧ a.getD x 0 < b.getD x 0))
  | [], [] => by simp [ltL, cmpL]
  | [], b :: bs => by
    constructor
    · intro _; exact ⟨0, by simp, by simp, fun y h => by omega, .inl rfl⟩
    · intro _; simp [ltL, cmpL]
  | a :: as, [] => by simp [ltL, cmpL]
  | a :: as, b :: bs => by
    have ih := @ltL_iff as bs
    constructor
    · intro h
      simp only [ltL, cmpL] at h
      by_cases h1 : a < b
      · exact ⟨0, by simp, by simp, fun y h => by omega, .inr ⟨by simp, by simpa using h1⟩⟩
      · by_cases h2 : b < a
        · simp [h1, h2] at h
        · simp [h1, h2] at h
          obtain ⟨x, hx1, hx2, hx3, hx4⟩ := ih.1 h
          have e : a = b := by omega
          subst e
          refine ⟨x + 1, by simp; omega, by simp; omega, ?_, ?_⟩
          · intro y hy
            cases y with
            | zero => simp
            | succ y => simpa using hx3 y (by omega)
          · rcases hx4 with hx4 | hx4
            · left; simp [hx4]
            · right; exact ⟨by simp; omega, by simpa using hx4.2⟩
    · rintro ⟨x, hx1, hx2, hx3, hx4⟩
      cases x with
      | zero =>
        simp at hx4
        simp [ltL, cmpL, hx4]
      | succ x =>
        have e := hx3 0 (by omega)
        simp at e
        subst e
        have : ltL as bs := ih.2 ⟨x, by simpa using hx1, by simpa using hx2, fun y hy => by simpa using hx3 (y + 1) (by omega), by simpa using hx4⟩
        simp [ltL, cmpL] at this ⊢
        exact this

theorem ltL_mk {a b : List Int} (x : Nat) (h1 : x < a.length) (h2 : x < b.length) (h3 : ∀ y, y < x → a.getD y 0 = b.getD y 0) (h4 : a.getD x 0 < b.getD x 0) : ltL a b := by
  refine ltL_iff.2 ⟨x, by omega, h2, fun y hy => ?_, .inr ⟨h1, h4⟩⟩
  have := h3 y hy
  rw [List.getElem?_eq_getElem (by omega), List.getElem?_eq_getElem (by omega)]
  simp only [List.getD_eq_getElem?_getD, List.getElem?_eq_getElem (show y < a.length by omega), List.getElem?_eq_getElem (show y < b.length by omega)] at this
  simpa using this

theorem ltL_pre {a b : List Int} (h1 : a.length < b.length) (h3 : ∀ y, y < a.length → a.getD y 0 = b.getD y 0) : ltL a b := by
  refine ltL_iff.2 ⟨a.length, by omega, h1, fun y hy => ?_, .inl rfl⟩
  have := h3 y hy
  rw [List.getElem?_eq_getElem (by omega), List.getElem?_eq_getElem (by omega)]
  simp only [List.getD_eq_getElem?_getD, List.getElem?_eq_getElem (show y < a.length by omega), List.getElem?_eq_getElem (show y < b.length by omega)] at this
  simpa using this

end Go.Proofs.Ytadldiloeccnlaa.MM

namespace Go.Proofs.Ytadldiloeccnlaa.MM

theorem pigeon : ∀ (n : Nat) (a : List Int), a.Nodup → (∀ x ∈ a, 0 ≤ x ∧ x < (n : Int)) → a.length ≤ n
  | 0, a, _, h => by
    cases a with
    | nil => simp
    | cons x t => have := h x (by simp); omega
  | n + 1, a, hn, h => by
    have h1 := pigeon n (a.erase (n : Int)) (hn.erase _) (fun x hx => by
      have h2 := h x (List.mem_of_mem_erase hx)
      have h3 : x ≠ (n : Int) := fun e => by subst e; exact (List.Nodup.not_mem_erase hn) hx
      omega)
    by_cases hm : (n : Int) ∈ a
    · rw [List.length_erase_of_mem hm] at h1; omega
    · rw [List.erase_of_not_mem hm] at h1; omega

theorem pigeon_all {n : Nat} {a : List Int} (hn : a.Nodup) (h : ∀ x ∈ a, 0 ≤ x ∧ x < (n : Int)) (hl : a.length = n) {v : Int} (h0 : 0 ≤ v) (h1 : v < n) : v ∈ a := by
  by_cases hm : v ∈ a
  · exact hm
  · have := pigeon n (v :: a) (List.nodup_cons.2 ⟨hm, hn⟩) (fun x hx => by
      rcases List.mem_cons.1 hx with rfl | hx
      · exact ⟨h0, h1⟩
      · exact h x hx)
    simp at this; omega

def isPerm (a : List Int) : Prop := (∀ x ∈ a, 0 ≤ x ∧ x < (a.length : Int)) ∧ a.Nodup

instance (a : List Int) : Decidable (isPerm a) := by unfold isPerm; infer_instance

theorem isPerm.mem {a : List Int} (h : isPerm a) {v : Int} (h0 : 0 ≤ v) (h1 : v < a.length) : v ∈ a := pigeon_all h.2 h.1 rfl h0 h1

def inv (a : List Int) : List Int := (List.range a.length).map (fun (v : Nat) => ((a.idxOf (v : Int) : Nat) : Int))

theorem inv_length (a : List Int) : (inv a).length = a.length := by simp [inv]

theorem inv_get {a : List Int} {v : Nat} (h : v < a.length) : (inv a).getD v 0 = ((a.idxOf (v : Int) : Nat) : Int) := by
  unfold inv
  rw [List.getD_eq_getElem?_getD, List.getElem?_map, List.getElem?_range h]
  rfl

theorem getD_mem {a : List Int} {i : Nat} (h : i < a.length) : a.getD i 0 ∈ a := by
  simp [List.getD_eq_getElem?_getD, h]

theorem getD_inj {a : List Int} (hn : a.Nodup) {i j : Nat} (hi : i < a.length) (hj : j < a.length) (h : a.getD i 0 = a.getD j 0) : i = j := by
  simp only [List.getD_eq_getElem?_getD, List.getElem?_eq_getElem hi, List.getElem?_eq_getElem hj, Option.getD_some] at h
  rcases Nat.lt_trichotomy i j with hlt | heq | hgt
  · exact absurd h (List.pairwise_iff_getElem.1 hn i j hi hj hlt)
  · exact heq
  · exact absurd h.symm (List.pairwise_iff_getElem.1 hn j i hj hi hgt)

theorem idxOf_getD {a : List Int} {x : Int} (h : x ∈ a) : a.getD (a.idxOf x) 0 = x := by
  have h1 := List.idxOf_lt_length_of_mem h
  simp [List.getD_eq_getElem?_getD, List.getElem?_eq_getElem h1]

theorem inv_at {a : List Int} (h : isPerm a) {i : Nat} (hi : i < a.length) : (inv a).getD (a.getD i 0).toNat 0 = i := by
  have hm := h.1 _ (getD_mem hi)
  have e : (((a.getD i 0).toNat : Nat) : Int) = a.getD i 0 := by omega
  rw [inv_get (by omega), e]
  have := getD_inj h.2 (List.idxOf_lt_length_of_mem (getD_mem hi)) hi (idxOf_getD (getD_mem hi))
  rw [this]

theorem at_inv {a : List Int} (h : isPerm a) {v : Nat} (hv : v < a.length) : a.getD ((inv a).getD v 0).toNat 0 = v ∧ 0 ≤ (inv a).getD v 0 ∧ (inv a).getD v 0 < a.length := by
  have hm : (v : Int) ∈ a := h.mem (by omega) (by omega)
  have := List.idxOf_lt_length_of_mem hm
  rw [inv_get hv]
  refine ⟨?_, by omega, by omega⟩
  simpa using idxOf_getD hm

theorem ext_getD {a b : List Int} (hl : a.length = b.length) (h : ∀ i, i < a.length → a.getD i 0 = b.getD i 0) : a = b := by
  apply List.ext_getElem hl
  intro i h1 h2
  have := h i h1
  simpa only [List.getD_eq_getElem?_getD, List.getElem?_eq_getElem h1, List.getElem?_eq_getElem h2, Option.getD_some] using this

theorem isPerm_of {a : List Int} (h : ∀ x ∈ a, 0 ≤ x ∧ x < (a.length : Int)) (f : Int → Nat) (hf : ∀ i, i < a.length → f (a.getD i 0) = i) : isPerm a := by
  refine ⟨h, List.pairwise_iff_getElem.2 fun i j hi hj hij he => ?_⟩
  have e : a.getD i 0 = a.getD j 0 := by simp only [List.getD_eq_getElem?_getD, List.getElem?_eq_getElem hi, List.getElem?_eq_getElem hj, he]
  have := hf i hi
  rw [e, hf j hj] at this
  omega

theorem inv_perm {a : List Int} (h : isPerm a) : isPerm (inv a) := by
  refine isPerm_of (fun x hx => ?_) (fun x => (a.getD x.toNat 0).toNat) (fun i hi => ?_)
  · rw [inv_length]
    simp only [inv, List.mem_map, List.mem_range] at hx
    obtain ⟨v, hv, rfl⟩ := hx
    have := List.idxOf_lt_length_of_mem (h.mem (v := (v : Int)) (by omega) (by omega))
    omega
  · rw [inv_length] at hi
    rw [(at_inv h hi).1]; simp

theorem inv_inv {a : List Int} (h : isPerm a) : inv (inv a) = a := by
  refine ext_getD (by simp [inv_length]) (fun i hi => ?_)
  rw [inv_length, inv_length] at hi
  have h1 := h.1 _ (getD_mem hi)
  have h2 := inv_at h hi
  have h3 := inv_at (inv_perm h) (i := (a.getD i 0).toNat) (by rw [inv_length]; omega)
  rw [h2, Int.toNat_natCast] at h3
  rw [h3]; omega

/-- a sorted row is told by what is in it -/
theorem sorted_uniq {α : Type} {R : α → α → Prop} (has : ∀ x y, R x y → ¬ R y x) : ∀ {a b : List α}, a.Pairwise R → b.Pairwise R → (∀ x, x ∈ a ↔ x ∈ b) → a = b
  | [], [], _, _, _ => rfl
  | [], y :: b, _, _, h => by have := (h y).2 (by simp); simp at this
  | x :: a, [], _, _, h => by have := (h x).1 (by simp); simp at this
  | x :: a, y :: b, ha, hb, h => by
    rw [List.pairwise_cons] at ha hb
    have hxy : x = y := by
      rcases List.mem_cons.1 ((h x).1 (by simp)) with e | e
      · exact e
      · rcases List.mem_cons.1 ((h y).2 (by simp)) with e2 | e2
        · exact e2.symm
        · exact absurd (hb.1 x e) (has _ _ (ha.1 y e2))
    subst hxy
    have hir : ¬ R x x := fun hr => has _ _ hr hr
    congr 1
    refine sorted_uniq has ha.2 hb.2 (fun z => ?_)
    constructor
    · intro hz
      rcases List.mem_cons.1 ((h z).1 (List.mem_cons_of_mem _ hz)) with e | e
      · subst e; exact absurd (ha.1 z hz) hir
      · exact e
    · intro hz
      rcases List.mem_cons.1 ((h z).2 (List.mem_cons_of_mem _ hz)) with e | e
      · subst e; exact absurd (hb.1 z hz) hir
      · exact e

end Go.Proofs.Ytadldiloeccnlaa.MM

-- math: W Base Perm
namespace Go.Proofs.Ytadldiloeccnlaa.MM

/-- the ending of x is less than that of y -/
def sufLt (s : List Int) (x y : Int) : Prop := ltL (s.drop x.toNat) (s.drop y.toNat)

def IsSA (s a : List Int) : Prop := a.length = s.length ∧ (∀ x ∈ a, 0 ≤ x ∧ x < (s.length : Int)) ∧ a.Pairwise (sufLt s)

theorem getD_dropI (l : List Int) (i y : Nat) : (l.drop i).getD y 0 = l.getD (i + y) 0 := by
  simp [List.getD_eq_getElem?_getD, List.getElem?_drop]

theorem sufLt_asymm {s : List Int} {x y : Int} (h : sufLt s x y) : ¬ sufLt s y x := ltL_asymm h

theorem IsSA.nodup {s a : List Int} (h : IsSA s a) : a.Nodup := by
  refine List.Pairwise.imp (fun {x y} hxy => ?_) h.2.2
  rintro rfl
  exact ltL_irrefl _ hxy

theorem IsSA.perm {s a : List Int} (h : IsSA s a) : isPerm a := ⟨fun x hx => by rw [h.1]; exact h.2.1 x hx, h.nodup⟩

theorem IsSA.mem {s a : List Int} (h : IsSA s a) (v : Int) : v ∈ a ↔ 0 ≤ v ∧ v < s.length :=
  ⟨fun hv => h.2.1 v hv, fun hv => h.perm.mem hv.1 (by rw [h.1]; exact hv.2)⟩

theorem IsSA.uniq {s a b : List Int} (h : IsSA s a) (k : IsSA s b) : a = b :=
  sorted_uniq (R := sufLt s) (fun _ _ => sufLt_asymm) h.2.2 k.2.2 (fun v => by rw [h.mem, k.mem])

/-- different places have different endings -/
theorem suf_ne {s : List Int} {x y : Nat} (hx : x ≤ s.length) (hy : y ≤ s.length) (h : x ≠ y) : s.drop x ≠ s.drop y := by
  intro e
  have := congrArg List.length e
  simp at this
  omega

theorem suf_tri {s : List Int} {x y : Int} (hx0 : 0 ≤ x) (hx : x ≤ s.length) (hy0 : 0 ≤ y) (hy : y ≤ s.length) (h : x ≠ y) : sufLt s x y ∨ sufLt s y x := by
  rcases ltL_tri (s.drop x.toNat) (s.drop y.toNat) with k | k | k
  · exact .inl k
  · exact absurd k (suf_ne (by omega) (by omega) (by omega))
  · exact .inr k

theorem drop_cons_get {s : List Int} {x : Nat} (h : x < s.length) : s.drop x = s.getD x 0 :: s.drop (x + 1) := by
  rw [List.drop_eq_getElem_cons h, List.getD_eq_getElem?_getD, List.getElem?_eq_getElem h]; rfl

/-- by the first number, then by the endings behind -/
theorem sufLt_step {s : List Int} {x y : Nat} (hx : x < s.length) (hy : y < s.length) : sufLt s x y ↔ s.getD x 0 < s.getD y 0 ∨ (s.getD x 0 = s.getD y 0 ∧ sufLt s ((x : Int) + 1) ((y : Int) + 1)) := by
  unfold sufLt
  have e1 : ((x : Int) + 1).toNat = x + 1 := by omega
  have e2 : ((y : Int) + 1).toNat = y + 1 := by omega
  rw [e1, e2]
  simp only [Int.toNat_natCast]
  rw [drop_cons_get hx, drop_cons_get hy]
  unfold ltL
  simp only [cmpL]
  generalize s.getD x 0 = u
  generalize s.getD y 0 = v
  by_cases h1 : u < v
  · simp [h1]
  · by_cases h2 : v < u
    · simp [h1, h2]; omega
    · have h3 : u = v := by omega
      simp [h3]

theorem sufLt_nil {s : List Int} {x : Int} (h0 : 0 ≤ x) (h : x < s.length) : sufLt s s.length x := by
  unfold sufLt
  have : s.drop (s.length : Int).toNat = [] := by simp
  rw [this]
  refine ltL_nil.2 (fun e => ?_)
  have := congrArg List.length e
  simp at this
  omega

/-- r is a rank of every place, the empty ending too -/
theorem ranks_sort {s : List Int} {r : Nat → Int} (hlast : ∀ x, x < s.length → r s.length < r x)
    (hstep : ∀ x y, x < s.length → y < s.length → r x < r y → s.getD x 0 < s.getD y 0 ∨ (s.getD x 0 = s.getD y 0 ∧ r (x + 1) < r (y + 1))) :
    ∀ (d x y : Nat), x ≤ s.length → y ≤ s.length → s.length - x < d → r x < r y → sufLt s x y := by
  intro d
  induction d with
  | zero => intro x y hx hy h; omega
  | succ d ih =>
    intro x y hx hy hd h
    by_cases hxe : x = s.length
    · subst hxe
      by_cases hye : y = s.length
      · subst hye; omega
      · exact sufLt_nil (by omega) (by omega)
    · by_cases hye : y = s.length
      · subst hye
        have := hlast x (by omega)
        omega
      · refine (sufLt_step (by omega) (by omega)).2 ?_
        rcases hstep x y (by omega) (by omega) h with h1 | h1
        · exact .inl h1
        · exact .inr ⟨h1.1, by simpa using ih (x + 1) (y + 1) (by omega) (by omega) (by omega) h1.2⟩

end Go.Proofs.Ytadldiloeccnlaa.MM

-- math: W Base Perm SA
namespace Go.Proofs.Ytadldiloeccnlaa.MM

def rot (s : List Int) (i : Nat) : List Int := s.drop i ++ s.take i

theorem rot_length {s : List Int} {i : Nat} (h : i ≤ s.length) : (rot s i).length = s.length := by
  unfold rot; rw [List.length_append, List.length_drop, List.length_take]; omega

theorem rot_get {s : List Int} {i y : Nat} (hi : i < s.length) (hy : y < s.length) : (rot s i).getD y 0 = s.getD ((i + y) % s.length) 0 := by
  unfold rot
  by_cases h : i + y < s.length
  · rw [List.getD_eq_getElem?_getD, List.getElem?_append_left (by rw [List.length_drop]; omega), List.getElem?_drop, Nat.mod_eq_of_lt h, ← List.getD_eq_getElem?_getD]
  · rw [List.getD_eq_getElem?_getD, List.getElem?_append_right (by rw [List.length_drop]; omega), List.length_drop, List.getElem?_take, if_pos (by omega), ← List.getD_eq_getElem?_getD]
    congr 1
    rw [Nat.mod_eq_sub_mod (by omega), Nat.mod_eq_of_lt (by omega)]; omega

/-- what Turns answers -/
def turnR (s : List Int) (i j : Int) : Int := if 0 ≤ i ∧ i < s.length ∧ 0 ≤ j ∧ j < s.length then cmpL (rot s i.toNat) (rot s j.toNat) else 0

theorem rot_eq {s : List Int} {i j : Nat} (hi : i < s.length) (hj : j < s.length) (h : ∀ y, y < s.length → s.getD ((i + y) % s.length) 0 = s.getD ((j + y) % s.length) 0) : rot s i = rot s j := by
  refine ext_getD (by rw [rot_length (by omega), rot_length (by omega)]) (fun y hy => ?_)
  rw [rot_length (by omega)] at hy
  rw [rot_get hi hy, rot_get hj hy, h y hy]

theorem rot_lt {s : List Int} {i j c : Nat} (hi : i < s.length) (hj : j < s.length) (hc : c < s.length) (h : ∀ y, y < c → s.getD ((i + y) % s.length) 0 = s.getD ((j + y) % s.length) 0) (hlt : s.getD ((i + c) % s.length) 0 < s.getD ((j + c) % s.length) 0) : ltL (rot s i) (rot s j) := by
  refine ltL_mk c (by rw [rot_length (by omega)]; omega) (by rw [rot_length (by omega)]; omega) (fun y hy => ?_) ?_
  · rw [rot_get hi (by omega), rot_get hj (by omega), h y hy]
  · rw [rot_get hi hc, rot_get hj hc]; exact hlt

end Go.Proofs.Ytadldiloeccnlaa.MM

-- math: W Base Perm SA
namespace Go.Proofs.Ytadldiloeccnlaa.MM

def powL (w : List Int) : Nat → List Int
  | 0 => []
  | n + 1 => powL w n ++ w

theorem powL_length (w : List Int) : ∀ n, (powL w n).length = n * w.length
  | 0 => by simp [powL]
  | n + 1 => by rw [powL, List.length_append, powL_length w n, Nat.succ_mul]

theorem powL_front (w : List Int) : ∀ n, powL w (n + 1) = w ++ powL w n
  | 0 => by simp [powL]
  | n + 1 => by
    have h : powL w (n + 1) = w ++ powL w n := powL_front w n
    have h2 : powL w (n + 1) = powL w n ++ w := rfl
    rw [powL, h, List.append_assoc, ← h2, h]

theorem powL_get (w : List Int) (hw : 0 < w.length) : ∀ (n x : Nat), x < n * w.length → (powL w n).getD x 0 = w.getD (x % w.length) 0
  | 0, x, h => by omega
  | n + 1, x, h => by
    rw [powL_front]
    by_cases hx : x < w.length
    · rw [Nat.mod_eq_of_lt hx, List.getD_eq_getElem?_getD, List.getElem?_append_left hx, ← List.getD_eq_getElem?_getD]
    · rw [Nat.succ_mul] at h
      rw [List.getD_eq_getElem?_getD, List.getElem?_append_right (by omega), ← List.getD_eq_getElem?_getD, powL_get w hw n _ (by omega), ← Nat.mod_eq_sub_mod (by omega)]

theorem powL_mem {w : List Int} {x : Int} : ∀ {n}, x ∈ powL w n → x ∈ w
  | 0, h => by simp [powL] at h
  | n + 1, h => by
    rw [powL, List.mem_append] at h
    exact h.elim powL_mem id

end Go.Proofs.Ytadldiloeccnlaa.MM

-- math: W Base Perm SA Rot Pow
namespace Go.Proofs.Ytadldiloeccnlaa.MM

def rbe (s : List Int) (m p : Nat) : Prop := ltL (rot s m) (rot s p) ∨ (rot s m = rot s p ∧ m ≤ p)

def isLst (s : List Int) (m : Nat) : Prop := (∀ p, p < s.length → rbe s m p) ∧ (0 < s.length → m < s.length) ∧ (s.length = 0 → m = 0)

def dead (s : List Int) (p : Nat) : Prop := ∃ q, q < s.length ∧ q ≠ p ∧ rbe s q p

theorem rbe_anti {s : List Int} {m p : Nat} (h : rbe s m p) (h' : rbe s p m) : m = p := by
  rcases h with h | ⟨e, h⟩
  · rcases h' with h' | ⟨e', _⟩
    · exact absurd h' (ltL_asymm h)
    · rw [e'] at h; exact absurd h (ltL_irrefl _)
  · rcases h' with h' | ⟨_, h'⟩
    · rw [e] at h'; exact absurd h' (ltL_irrefl _)
    · omega

theorem lst_uniq {s : List Int} {m m' : Nat} (h : isLst s m) (h' : isLst s m') : m = m' := by
  by_cases h0 : s.length = 0
  · rw [h.2.2 h0, h'.2.2 h0]
  · exact rbe_anti (h.1 _ (h'.2.1 (by omega))) (h'.1 _ (h.2.1 (by omega)))

theorem lst_of_dead {s : List Int} {m l : Nat} (hd : ∀ p, p < s.length → p ≠ m → dead s p) (h0 : 0 < s.length) (hl : isLst s l) : m = l := by
  refine Classical.byContradiction fun h => ?_
  obtain ⟨q, hq, hne, hb⟩ := hd l (hl.2.1 h0) (fun e => h e.symm)
  exact hne (rbe_anti hb (hl.1 q hq))

theorem rbe_step {s : List Int} {k i : Nat} (hi : k ≤ i) (h : ¬ ltL (rot s i) (rot s k)) : rbe s k i := by
  rcases ltL_tri (rot s k) (rot s i) with a | a | a
  · exact .inl a
  · exact .inr ⟨a, hi⟩
  · exact absurd a h

theorem rbe_lt {s : List Int} {k i p : Nat} (h : ltL (rot s i) (rot s k)) (h' : rbe s k p) : rbe s i p := by
  rcases h' with a | ⟨a, _⟩
  · exact .inl (ltL_trans h a)
  · exact .inl (by rw [← a]; exact h)

theorem lst_upto (s : List Int) : ∀ b, 0 < b → ∃ m, m < b ∧ ∀ p, p < b → rbe s m p
  | 0, h => by omega
  | 1, _ => ⟨0, by omega, fun p hp => .inr ⟨by rw [show p = 0 by omega], by omega⟩⟩
  | b + 2, _ => by
    obtain ⟨m, hm, h⟩ := lst_upto s (b + 1) (by omega)
    by_cases hl : ltL (rot s (b + 1)) (rot s m)
    · refine ⟨b + 1, by omega, fun p hp => ?_⟩
      by_cases e : p = b + 1
      · subst e; exact .inr ⟨rfl, Nat.le_refl _⟩
      · exact rbe_lt hl (h p (by omega))
    · refine ⟨m, by omega, fun p hp => ?_⟩
      by_cases e : p = b + 1
      · subst e; exact rbe_step (by omega) hl
      · exact h p (by omega)

theorem lst_ex (s : List Int) : ∃ m, isLst s m := by
  by_cases h0 : s.length = 0
  · exact ⟨0, fun p hp => by omega, fun h => by omega, fun _ => rfl⟩
  · obtain ⟨m, hm, h⟩ := lst_upto s s.length (by omega)
    exact ⟨m, h, fun _ => hm, fun e => absurd e h0⟩

theorem mod_mod_add (a b n : Nat) : (a % n + b) % n = (a + b) % n := by rw [Nat.mod_add_mod]

/-- an unlike byte: all that was walked over from the greater one is dead -/
theorem dead_walk {s : List Int} {i j k : Nat} (hk : k < s.length) (h : ∀ y, y < k → s.getD ((i + y) % s.length) 0 = s.getD ((j + y) % s.length) 0)
    (hlt : s.getD ((j + k) % s.length) 0 < s.getD ((i + k) % s.length) 0) {x : Nat} (hx : x ≤ k) (hix : i + x < s.length) : dead s (i + x) := by
  have hq := Nat.mod_lt (j + x) (show 0 < s.length by omega)
  have hl : ltL (rot s ((j + x) % s.length)) (rot s (i + x)) := by
    refine rot_lt (c := k - x) hq hix (by omega) (fun y hy => ?_) ?_
    · rw [mod_mod_add, Nat.add_assoc, Nat.add_assoc, h (x + y) (by omega)]
    · rw [mod_mod_add, Nat.add_assoc, Nat.add_assoc, show x + (k - x) = k by omega]; exact hlt
  exact ⟨_, hq, fun e => by rw [e] at hl; exact ltL_irrefl _ hl, .inl hl⟩

def Inv2 (s : List Int) (i j : Nat) : Prop := i ≠ j ∧ (∀ p, p < s.length → (p < i ∨ p < j) → p ≠ i → p ≠ j → dead s p)

theorem Inv2.symm {s : List Int} {i j : Nat} (h : Inv2 s i j) : Inv2 s j i := ⟨fun e => h.1 e.symm, fun p h1 h2 h3 h4 => h.2 p h1 h2.symm h4 h3⟩

theorem Inv2.jump {s : List Int} {i j k : Nat} (I : Inv2 s i j) (hk : k < s.length) (h : ∀ y, y < k → s.getD ((i + y) % s.length) 0 = s.getD ((j + y) % s.length) 0)
    (hlt : s.getD ((j + k) % s.length) 0 < s.getD ((i + k) % s.length) 0) : (i + k + 1 ≠ j → Inv2 s (i + k + 1) j) ∧ (i + k + 1 = j → Inv2 s j (j + 1)) := by
  have D : ∀ p, p < s.length → i ≤ p → p ≤ i + k → dead s p := fun p hp h1 h2 => by
    have := dead_walk hk h hlt (x := p - i) (by omega) (by omega)
    rwa [show i + (p - i) = p by omega] at this
  refine ⟨fun hne => ⟨hne, fun p hp h1 h2 h3 => ?_⟩, fun he => ⟨by omega, fun p hp h1 h2 h3 => ?_⟩⟩
  · by_cases c : i ≤ p ∧ p ≤ i + k
    · exact D p hp c.1 c.2
    · exact I.2 p hp (by omega) (by omega) h3
  · by_cases c : i ≤ p ∧ p ≤ i + k
    · exact D p hp c.1 c.2
    · exact I.2 p hp (by omega) (by omega) (by omega)

/-- all alike: the first of the two is the least -/
theorem Inv2.same {s : List Int} {i j l : Nat} (I : Inv2 s i j) (hi : i < s.length) (hj : j < s.length) (h : ∀ y, y < s.length → s.getD ((i + y) % s.length) 0 = s.getD ((j + y) % s.length) 0) (hl : isLst s l) : min i j = l := by
  have key : ∀ {i j : Nat}, Inv2 s i j → i < j → i < s.length → j < s.length → (∀ y, y < s.length → s.getD ((i + y) % s.length) 0 = s.getD ((j + y) % s.length) 0) → i = l := by
    intro i j I hij hi hj h
    refine lst_of_dead (fun p hp hne => ?_) (by omega) hl
    by_cases c : p < j
    · exact I.2 p hp (.inr c) hne (by omega)
    · have hq := Nat.mod_lt (i + (p - j)) (show 0 < s.length by omega)
      refine ⟨(i + (p - j)) % s.length, hq, ?_, .inr ⟨?_, ?_⟩⟩
      · rw [Nat.mod_eq_of_lt (by omega)]; omega
      · refine rot_eq hq hp (fun y hy => ?_)
        rw [mod_mod_add, Nat.add_assoc]
        have hz := Nat.mod_lt (p - j + y) (show 0 < s.length by omega)
        have := h ((p - j + y) % s.length) hz
        rw [Nat.add_mod_mod, Nat.add_mod_mod, show j + (p - j + y) = p + y by omega] at this
        exact this
      · rw [Nat.mod_eq_of_lt (by omega)]; omega
  rcases Nat.lt_or_ge i j with c | c
  · rw [Nat.min_eq_left (by omega)]; exact key I c hi hj h
  · rw [Nat.min_eq_right c]; exact key I.symm (by have := I.1; omega) hj hi (fun y hy => (h y hy).symm)

/-- one of the two is behind the end: the other is the least -/
theorem Inv2.done {s : List Int} {i j l : Nat} (I : Inv2 s i j) (hm : i < s.length ∨ j < s.length) (he : s.length ≤ i ∨ s.length ≤ j) (hl : isLst s l) : min i j = l := by
  rcases he with he | he
  · have hj : j < s.length := by omega
    rw [Nat.min_eq_right (by omega)]
    exact lst_of_dead (fun p hp hne => I.2 p hp (by omega) (by omega) hne) (by omega) hl
  · have hi : i < s.length := by omega
    rw [Nat.min_eq_left (by omega)]
    exact lst_of_dead (fun p hp hne => I.2 p hp (by omega) hne (by omega)) (by omega) hl

theorem inv2_start (s : List Int) : Inv2 s 0 1 := ⟨by omega, fun p _ h1 h2 h3 => by omega⟩

theorem rot_rot {s : List Int} {k p : Nat} (hk : k < s.length) (hp : p < s.length) : rot (rot s k) p = rot s ((k + p) % s.length) := by
  have hm := Nat.mod_lt (k + p) (show 0 < s.length by omega)
  refine ext_getD (by rw [rot_length (by rw [rot_length (by omega)]; omega), rot_length (by omega), rot_length (by omega)]) (fun y hy => ?_)
  rw [rot_length (by rw [rot_length (by omega)]; omega), rot_length (by omega)] at hy
  have hpy := Nat.mod_lt (p + y) (show 0 < s.length by omega)
  rw [rot_get (by rw [rot_length (by omega)]; exact hp) (by rw [rot_length (by omega)]; exact hy), rot_length (by omega), rot_get hk hpy, rot_get hm hy, mod_mod_add, Nat.add_mod_mod, Nat.add_assoc]

theorem rot_zero (s : List Int) : rot s 0 = s := by simp [rot]

theorem rbe_le {s : List Int} {m p : Nat} (h : rbe s m p) : ltL (rot s m) (rot s p) ∨ rot s m = rot s p := h.imp id And.left

theorem turned_lst {s : List Int} {k m m' : Nat} (hk : k < s.length) (h : isLst s m) (h' : isLst (rot s k) m') : rot (rot s k) m' = rot s m := by
  have hn : (rot s k).length = s.length := rot_length (by omega)
  have hm := h.2.1 (by omega)
  have hm' := h'.2.1 (by omega)
  rw [hn] at hm'
  have hq := Nat.mod_lt (k + m') (show 0 < s.length by omega)
  have hp := Nat.mod_lt (m + s.length - k) (show 0 < s.length by omega)
  have a := rbe_le (h.1 _ hq)
  have b := rbe_le (h'.1 ((m + s.length - k) % s.length) (by rw [hn]; exact hp))
  rw [rot_rot hk hm', rot_rot hk hp, Nat.add_mod_mod, show k + (m + s.length - k) = m + s.length by omega, Nat.add_mod_right, Nat.mod_eq_of_lt hm] at b
  rw [rot_rot hk hm']
  rcases a with a | a
  · rcases b with b | b
    · exact absurd b (ltL_asymm a)
    · exact b
  · exact a.symm

theorem lst_self {s : List Int} {m : Nat} (h0 : 0 < s.length) (h : isLst s m) : isLst (rot s m) 0 := by
  have hm := h.2.1 h0
  have hn : (rot s m).length = s.length := rot_length (by omega)
  refine ⟨fun p hp => ?_, fun _ => by omega, fun _ => rfl⟩
  rw [hn] at hp
  have hq := Nat.mod_lt (m + p) h0
  unfold rbe
  rw [rot_zero, rot_rot hm hp]
  rcases rbe_le (h.1 _ hq) with a | a
  · exact .inl a
  · exact .inr ⟨a, Nat.zero_le _⟩

theorem ltL_same {a b : List Int} (hl : a.length = b.length) (h : ltL a b) : ∃ x, x < a.length ∧ (∀ y, y < x → a.getD y 0 = b.getD y 0) ∧ a.getD x 0 < b.getD x 0 := by
  obtain ⟨x, h1, h2, h3, h4⟩ := ltL_iff.1 h
  rcases h4 with h4 | h4
  · omega
  · exact ⟨x, h4.1, fun y hy => by rw [List.getD_eq_getElem?_getD, List.getD_eq_getElem?_getD, h3 y hy], h4.2⟩

theorem lst_pow {w : List Int} {m n : Nat} (h0 : 0 < w.length) (hn : 0 < n) (h : isLst w m) : isLst (powL w n) m := by
  have hm := h.2.1 h0
  have hl := powL_length w n
  have hge : w.length ≤ n * w.length := Nat.le_mul_of_pos_left _ hn
  have hp0 : 0 < (powL w n).length := by omega
  have G : ∀ p y, (powL w n).getD ((p + y) % (powL w n).length) 0 = w.getD ((p % w.length + y) % w.length) 0 := fun p y => by
    have := Nat.mod_lt (p + y) hp0
    rw [powL_get w h0 n _ (by omega), hl, Nat.mod_mul_left_mod, mod_mod_add]
  refine ⟨fun p hp => ?_, fun _ => by omega, fun e => by omega⟩
  have hq := Nat.mod_lt p h0
  have hple := Nat.mod_le p w.length
  have em : m % w.length = m := Nat.mod_eq_of_lt hm
  rcases h.1 _ hq with a | ⟨a, b⟩
  · obtain ⟨x, h1, h2, h3⟩ := ltL_same (by rw [rot_length (by omega), rot_length (by omega)]) a
    rw [rot_length (by omega)] at h1
    refine .inl (rot_lt (c := x) (by omega) hp (by omega) (fun y hy => ?_) ?_)
    · have := h2 y hy
      rw [rot_get hm (by omega), rot_get hq (by omega)] at this
      rw [G, G, em]; exact this
    · rw [rot_get hm h1, rot_get hq h1] at h3
      rw [G, G, em]; exact h3
  · refine .inr ⟨rot_eq (by omega) hp (fun y _ => ?_), by omega⟩
    rw [G, G, em]
    have hy := Nat.mod_lt y h0
    have := congrArg (fun l => l.getD (y % w.length) 0) a
    simp only [rot_get hm hy, rot_get hq hy, Nat.add_mod_mod] at this
    exact this

end Go.Proofs.Ytadldiloeccnlaa.MM

namespace Go.Proofs.Ytadldiloeccnlaa.PrintWords
open Go Go.ChangeShapes Go.WideShapes
/-- The printed row names it from here. -/
theorem sized_ints {H : Type} {enc : TypeId × Value → H} {P : Program} {W : World} {base : Nat} {spare : Nat → Bool} {held : Bool} {t e : TypeId} {k : IntKind} {a : Option Addr} {len cap : Nat} {d : DataW H} {ps : List MemPlace} {ts : List TypeId} {ds : List (DataW H)} {j : Nat}
    (hsz : (DataW.weightsEach P ts ds).all (· ≤ reachBytes) = true) (ht : ts[j]? = some t) (hd : ds[j]? = some d) (hu : P.underlying t = some (.slice e)) (he : P.underlying e = some (.int k)) (hc : P.cellsOf e = 1) {B : Nat} (hB : P.bytesOf e = B)
    (h : DataW.Trod enc P W base spare held t (.slice a len cap) d ps) : len * B ≤ 140737488351232 :=
  Go.Proofs.YtadldiloeccnlaaW.PrintWords.sized_ints hsz ht hd hu he hc hB h
end Go.Proofs.Ytadldiloeccnlaa.PrintWords
