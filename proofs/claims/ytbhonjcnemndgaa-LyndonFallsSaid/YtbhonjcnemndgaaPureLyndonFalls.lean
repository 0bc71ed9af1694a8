/- LyndonFalls: what the statement LyndonFalls says of the printed functions, proved for every input that its guards let in. Conditions: none beside the statement's own. -/
import Derived.Test.YtbhonjcnemndgaaHLyndonFallsx3
import Derived.Test.YtbhonjcnemndgaaMLyndonFalls
set_option linter.unusedVariables false
set_option linter.unusedSimpArgs false
namespace Go.Proofs.Ytbhonjcnemndgaa.Pure
open Go Go.RowKit Go.Proofs.Ytbhonjcnemndgaa.PLyndonFalls Go.Proofs.YtbhonjcnemndgaaW.PrintWords Go.Proofs.YtbhonjcnemndgaaW.PrintLast Go.Proofs.Ytbhonjcnemndgaa.MM

-- math: W Base Perm Lyn
theorem fac_l2 (s : List Int) (hn : s.length ≤ 17592186044416) (a0 : Nat)
    (IH : ∀ a, a0 < a → a ≤ s.length → ∃ l, Facts (s.drop a) l ∧ ∀ acc : List Int, acc.length ≤ a → Ev (fun k => lyndon_Factors.l0 k s acc (a : Int)) (acc ++ l)) (p j : Nat) (hp : 0 < p) (hpj : p ≤ j) (hj : j ≤ s.length) (hend : j = s.length ∨ s.getD j 0 < s.getD (j - p) 0) :
    ∀ (d a : Nat), j - a ≤ d → a0 ≤ a → a ≤ j → (a0 < a ∨ p ≤ j - a) → (p ≤ j - a → (∀ x, x < j - a → s.getD (a + x) 0 = s.getD (a + x % p) 0) ∧ isLyn ((s.drop a).take p)) →
    ∃ l, Facts (s.drop a) l ∧ ∀ acc : List Int, acc.length ≤ a → Ev (fun k => lyndon_Factors.l2 k s acc (a : Int) ((j : Int) - p) (j : Int)) (acc ++ l) := by
  intro d
  induction d with
  | zero =>
    intro a hd ha haj ho hinv
    obtain ⟨l, hf, hev⟩ := IH a (by omega) (by omega)
    refine ⟨l, hf, fun acc hacc => ?_⟩
    refine Ev.step (fun k => by rw [lyndon_Factors.l2]) ?_
    simp only [if_neg (show ¬ (a : Int) ≤ (j : Int) - p by omega)]
    exact hev acc hacc
  | succ d ih =>
    intro a hd ha haj ho hinv
    by_cases hpa : p ≤ j - a
    · obtain ⟨hper, hlyn⟩ := hinv hpa
      obtain ⟨l, hf, hev⟩ := ih (a + p) (by omega) (by omega) (by omega) (by omega) (fun hpa2 => by
        refine ⟨fun x hx => ?_, ?_⟩
        · have h1 := hper (p + x) (by omega)
          have h2 := hper (p + x % p) (by have := Nat.mod_lt x hp; omega)
          rw [Nat.add_mod_left] at h1 h2
          rw [Nat.mod_mod] at h2
          rw [Nat.add_assoc, h1, Nat.add_assoc, h2]
        · have e : (s.drop (a + p)).take p = (s.drop a).take p := by
            refine ext_getD (by rw [List.length_take, List.length_take, List.length_drop, List.length_drop]; omega) (fun x hx => ?_)
            rw [List.length_take] at hx
            rw [getD_take _ _ _ (by omega), getD_take _ _ _ (by omega), getD_drop, getD_drop]
            have h1 := hper (p + x) (by omega)
            rw [Nat.add_mod_left, Nat.mod_eq_of_lt (by omega)] at h1
            rw [Nat.add_assoc, h1]
          rw [e]; exact hlyn)
      have hdl : (s.drop a).length = s.length - a := List.length_drop ..
      have hmost : ∀ m', p < m' → m' ≤ (s.drop a).length → ¬ isLyn ((s.drop a).take m') := fun m' h1 h2 =>
        lyn_most (j := j - a) hp hpa (by omega) (fun x hx => by rw [getD_drop, getD_drop]; exact hper x hx) (by
          rcases hend with h | h
          · left; omega
          · right; rw [getD_drop, getD_drop, show a + (j - a) = j by omega, show a + (j - a - p) = j - p by omega]; exact h) h1 h2
      refine ⟨(p : Int) :: l, .cons (by omega) hlyn hmost (by rw [List.drop_drop]; exact hf), fun acc hacc => ?_⟩
      refine Ev.step (fun k => by rw [lyndon_Factors.l2]) ?_
      have hx := hev (acc ++ [(p : Int)]) (by rw [List.length_append, List.length_singleton]; omega)
      have c1 : (a : Int) ≤ (j : Int) - p := by omega
      have c2 : acc.length < 17592186044416 := by omega
      have w1 : wrap64 ((j : Int) - ((j : Int) - p)) = (p : Int) := by rw [wrap64_id (by omega) (by omega)]; omega
      have w2 : wrap64 ((a : Int) + (p : Int)) = ((a + p : Nat) : Int) := by clear w1; rw [wrap64_id (by omega) (by omega)]; omega
      simp only [if_pos c1, if_pos c2, w1, w2]
      rw [List.append_assoc] at hx
      exact hx
    · obtain ⟨l, hf, hev⟩ := IH a (by omega) (by omega)
      refine ⟨l, hf, fun acc hacc => ?_⟩
      refine Ev.step (fun k => by rw [lyndon_Factors.l2]) ?_
      simp only [if_neg (show ¬ (a : Int) ≤ (j : Int) - p by omega)]
      exact hev acc hacc

theorem fac_l1 (s : List Int) (hn : s.length ≤ 17592186044416) (a : Nat)
    (IH : ∀ a', a < a' → a' ≤ s.length → ∃ l, Facts (s.drop a') l ∧ ∀ acc : List Int, acc.length ≤ a' → Ev (fun k => lyndon_Factors.l0 k s acc (a' : Int)) (acc ++ l)) :
    ∀ (d p j : Nat), j + d = s.length → 0 < p → a + p ≤ j → j ≤ s.length → (∀ x, x < j - a → s.getD (a + x) 0 = s.getD (a + x % p) 0) → isLyn ((s.drop a).take p) →
    ∃ l, Facts (s.drop a) l ∧ ∀ acc : List Int, acc.length ≤ a → Ev (fun k => lyndon_Factors.l1 k s acc (a : Int) ((j : Int) - p) (j : Int)) (acc ++ l) := by
  intro d
  induction d with
  | zero =>
    intro p j hd hp hpj hj hper hlyn
    obtain ⟨l, hf, hev⟩ := fac_l2 s hn a IH p j hp (by omega) hj (.inl (by omega)) (j - a) a (by omega) (Nat.le_refl _) (by omega) (.inr (by omega)) (fun _ => ⟨hper, hlyn⟩)
    refine ⟨l, hf, fun acc hacc => ?_⟩
    refine Ev.step (fun k => by rw [lyndon_Factors.l1]) ?_
    simp only [if_neg (show ¬ (j : Int) < s.length by omega)]
    refine Ev.step (fun k => by rw [lyndon_Factors.j2]) ?_
    simp only [if_neg (show ¬ false = true by decide)]
    exact hev acc hacc
  | succ d ih =>
    intro p j hd hp hpj hj hper hlyn
    have hjl : j < s.length := by omega
    have hi : ((j : Int) - p) = ((j - p : Nat) : Int) := by omega
    have hdl : (s.drop a).length = s.length - a := List.length_drop ..
    by_cases hlt : s.getD (j - p) 0 < s.getD j 0
    · -- greater: one word till here
      have hg := lyn_grow (t := s.drop a) (p := p) (j := j - a) hp (by omega) (by omega) (fun x hx => by rw [getD_drop, getD_drop]; exact hper x hx) hlyn (by
        rw [getD_drop, getD_drop, show a + (j - a) = j by omega, show a + (j - a - p) = j - p by omega]; exact hlt)
      obtain ⟨l, hf, hev⟩ := ih (j - a + 1) (j + 1) (by omega) (by omega) (by omega) (by omega) (fun x hx => by rw [Nat.mod_eq_of_lt (by omega)]) hg
      refine ⟨l, hf, fun acc hacc => ?_⟩
      refine Ev.step (fun k => by rw [lyndon_Factors.l1]) ?_
      simp only [hi, rd_nat]
      simp only [if_pos (show (j : Int) < s.length by omega), if_pos (show (0 : Int) ≤ ((j - p : Nat) : Int) by omega), if_pos (show ((j - p : Nat) : Int) < s.length by omega), if_pos (show 0 ≤ (j : Int) by omega), decide_eq_true (show s.getD (j - p) 0 ≤ s.getD j 0 by omega)]
      refine Ev.step (fun k => by rw [lyndon_Factors.j2]) ?_
      simp only [rd_nat, if_true, if_pos hlt, wrap_nat hjl (show s.length ≤ 140737488355328 by omega)]
      simp only [if_pos (show (j : Int) < s.length by omega), if_pos (show (0 : Int) ≤ ((j - p : Nat) : Int) by omega), if_pos (show ((j - p : Nat) : Int) < s.length by omega), if_pos (show 0 ≤ (j : Int) by omega)]
      have := hev acc hacc
      rw [show ((j + 1 : Nat) : Int) - ((j - a + 1 : Nat) : Int) = (a : Int) by omega] at this
      exact this
    · by_cases heq : s.getD (j - p) 0 = s.getD j 0
      · obtain ⟨l, hf, hev⟩ := ih p (j + 1) (by omega) hp (by omega) (by omega) (fun x hx => by
          by_cases hxj : x = j - a
          · subst hxj
            rw [show a + (j - a) = j by omega, ← heq]
            have h1 := hper (j - a - p) (by omega)
            rw [show a + (j - a - p) = j - p by omega] at h1
            rw [h1, ← Nat.mod_eq_sub_mod (by omega)]
          · exact hper x (by omega)) hlyn
        refine ⟨l, hf, fun acc hacc => ?_⟩
        refine Ev.step (fun k => by rw [lyndon_Factors.l1]) ?_
        simp only [hi, rd_nat]
        simp only [if_pos (show (j : Int) < s.length by omega), if_pos (show (0 : Int) ≤ ((j - p : Nat) : Int) by omega), if_pos (show ((j - p : Nat) : Int) < s.length by omega), if_pos (show 0 ≤ (j : Int) by omega), decide_eq_true (show s.getD (j - p) 0 ≤ s.getD j 0 by omega)]
        refine Ev.step (fun k => by rw [lyndon_Factors.j2]) ?_
        simp only [rd_nat, if_true, if_neg hlt, wrap_nat hjl (show s.length ≤ 140737488355328 by omega), wrap_nat (show j - p < s.length by omega) (show s.length ≤ 140737488355328 by omega)]
        simp only [if_pos (show (j : Int) < s.length by omega), if_pos (show (0 : Int) ≤ ((j - p : Nat) : Int) by omega), if_pos (show ((j - p : Nat) : Int) < s.length by omega), if_pos (show 0 ≤ (j : Int) by omega)]
        have := hev acc hacc
        rw [show ((j + 1 : Nat) : Int) - (p : Int) = ((j - p + 1 : Nat) : Int) by omega] at this
        exact this
      · obtain ⟨l, hf, hev⟩ := fac_l2 s hn a IH p j hp (by omega) hj (.inr (by omega)) (j - a) a (by omega) (Nat.le_refl _) (by omega) (.inr (by omega)) (fun _ => ⟨hper, hlyn⟩)
        refine ⟨l, hf, fun acc hacc => ?_⟩
        refine Ev.step (fun k => by rw [lyndon_Factors.l1]) ?_
        rw [hi]
        simp only [rd_nat]
        simp only [if_pos (show (j : Int) < s.length by omega), if_pos (show (0 : Int) ≤ ((j - p : Nat) : Int) by omega), if_pos (show ((j - p : Nat) : Int) < s.length by omega), if_pos (show 0 ≤ (j : Int) by omega), decide_eq_false (show ¬ s.getD (j - p) 0 ≤ s.getD j 0 by omega)]
        refine Ev.step (fun k => by rw [lyndon_Factors.j2]) ?_
        simp only [if_neg (show ¬ false = true by decide)]
        rw [← hi]
        exact hev acc hacc

theorem fac_l0 (s : List Int) (hn : s.length ≤ 17592186044416) : ∀ (d a : Nat), s.length - a ≤ d → a ≤ s.length → ∃ l, Facts (s.drop a) l ∧ ∀ acc : List Int, acc.length ≤ a → Ev (fun k => lyndon_Factors.l0 k s acc (a : Int)) (acc ++ l) := by
  intro d
  induction d with
  | zero =>
    intro a hd ha
    refine ⟨[], by rw [List.drop_of_length_le (by omega)]; exact .nil, fun acc hacc => ?_⟩
    refine Ev.step (fun k => by rw [lyndon_Factors.l0]) ?_
    simp only [if_neg (show ¬ (a : Int) < s.length by omega), List.append_nil]
    exact Ev.now _
  | succ d ih =>
    intro a hd ha
    by_cases hlt : a < s.length
    · obtain ⟨l, hf, hev⟩ := fac_l1 s hn a (fun a' h1 h2 => ih a' (by omega) h2) (s.length - (a + 1)) 1 (a + 1) (by omega) (by omega) (by omega) (by omega) (fun x hx => by rw [show x = 0 by omega]) (by
        rw [List.drop_eq_getElem_cons hlt]; exact lyn_one _)
      refine ⟨l, hf, fun acc hacc => ?_⟩
      refine Ev.step (fun k => by rw [lyndon_Factors.l0]) ?_
      simp only [if_pos (show (a : Int) < s.length by omega), wrap_nat hlt (show s.length ≤ 140737488355328 by omega)]
      have := hev acc hacc
      rw [show ((a + 1 : Nat) : Int) - ((1 : Nat) : Int) = (a : Int) by omega] at this
      exact this
    · exact ih a (by omega) ha

theorem lyndon_Factors_ev (s : List Int) (hn : s.length ≤ 17592186044416) : ∃ l, Facts s l ∧ Ev (fun k => lyndon_Factors.f k s) l := by
  obtain ⟨l, hf, hev⟩ := fac_l0 s hn s.length 0 (by omega) (by omega)
  refine ⟨l, hf, ?_⟩
  have := hev [] (by simp)
  rw [List.nil_append] at this
  exact Ev.congr (fun k => rfl) this

theorem lyndon_Is_ev (s : List Int) (hn : s.length ≤ 17592186044416) : Ev (fun k => lyndon_Is.f k s) (decide (isLyn s)) := by
  obtain ⟨l, hf, hev⟩ := lyndon_Factors_ev s hn
  refine Ev.congr (fun k => by rw [lyndon_Is.f]) ?_
  refine Ev.bind hev ?_
  have e : ((l.length : Int) == 1) = decide (isLyn s) := by
    rw [Bool.eq_iff_iff, beq_iff_eq, decide_eq_true_eq, ← hf.one]; omega
  rw [e]; exact Ev.now _


-- math: W Base Perm
theorem ref4_Ints_l0 (a b : List Int) (hl : a.length = b.length) (hn : a.length ≤ 140737488355328) : ∀ (d i : Nat), i + d = a.length → (∀ j, j < i → a.getD j 0 = b.getD j 0) → Ev (fun k => whorlref4_Ints.l0 k a b (i : Int)) (decide (a = b)) := by
  intro d
  induction d with
  | zero =>
    intro i hd h
    refine Ev.step (fun k => by rw [whorlref4_Ints.l0]) ?_
    simp only [if_neg (show ¬ (i : Int) < a.length by omega)]
    rw [decide_eq_true (ext_getD hl (fun j hj => h j (by omega)))]
    exact Ev.now _
  | succ d ih =>
    intro i hd h
    have hi : i < a.length := by omega
    refine Ev.step (fun k => by rw [whorlref4_Ints.l0]) ?_
    simp only [if_pos (show (i : Int) < a.length by omega), if_pos (show 0 ≤ (i : Int) by omega), if_pos (show (i : Int) < b.length by omega), rd_nat, wrap_nat hi hn]
    by_cases e : a.getD i 0 = b.getD i 0
    · simp only [if_pos e]
      refine ih (i + 1) (by omega) (fun j hj => ?_)
      by_cases e2 : j = i
      · rw [e2]; exact e
      · exact h j (by omega)
    · simp only [if_neg e]
      rw [decide_eq_false (fun hab => e (by rw [hab]))]
      exact Ev.now _

theorem ref4_Ints_ev (a b : List Int) (hn : a.length ≤ 140737488355328) : Ev (fun k => whorlref4_Ints.f k a b) (decide (a = b)) := by
  refine Ev.congr (fun k => by rw [whorlref4_Ints.f]) ?_
  by_cases e : a.length = b.length
  · simp only [if_pos (show (a.length : Int) = b.length by omega)]
    exact ref4_Ints_l0 a b e hn a.length 0 (by omega) (fun j hj => by omega)
  · simp only [if_neg (show ¬ (a.length : Int) = b.length by omega)]
    rw [decide_eq_false (fun hab => e (by rw [hab]))]
    exact Ev.now _

-- with: lyndon ref4_Ints
theorem known_ev : Ev (fun k => whorllaw7_known.f k) true := Ev.of (whorllaw7_known.mono) (k := 60) (by decide +kernel)


-- math: W Base Perm SA
theorem ref4_Words_l0 (a b : List Int) (ha : a.length ≤ 140737488355328) : ∀ (d i : Nat), i + d = a.length → i ≤ b.length → a.take i = b.take i → Ev (fun k => whorlref4_Words.l0 k a b (i : Int)) (cmpL a b) := by
  intro d
  induction d with
  | zero =>
    intro i hd hb h
    have e : cmpL a b = cmpL (a.drop i) (b.drop i) := by
      conv => lhs; rw [← List.take_append_drop i a, ← List.take_append_drop i b, h]
      rw [cmpL_append]
    refine Ev.step (fun k => by rw [whorlref4_Words.l0]) ?_
    simp only [if_neg (show ¬ (i : Int) < a.length by omega)]
    refine Ev.step (fun k => by rw [whorlref4_Words.j1]) ?_
    simp only [if_neg (show ¬ false = true by decide)]
    rw [e, List.drop_of_length_le (show a.length ≤ i by omega)]
    by_cases h1 : a.length < b.length
    · simp only [if_pos (show (a.length : Int) < b.length by omega)]
      have : ltL [] (b.drop i) := ltL_nil.2 (fun e => by have := congrArg List.length e; rw [List.length_drop] at this; simp only [List.length_nil] at this; omega)
      rw [this]; exact Ev.now _
    · simp only [if_neg (show ¬ (a.length : Int) < b.length by omega), if_neg (show ¬ (a.length : Int) > b.length by omega)]
      rw [List.drop_of_length_le (show b.length ≤ i by omega)]
      exact Ev.now _
  | succ d ih =>
    intro i hd hb h
    have hi : i < a.length := by omega
    have e : cmpL a b = cmpL (a.drop i) (b.drop i) := by
      conv => lhs; rw [← List.take_append_drop i a, ← List.take_append_drop i b, h]
      rw [cmpL_append]
    refine Ev.step (fun k => by rw [whorlref4_Words.l0]) ?_
    simp only [if_pos (show (i : Int) < a.length by omega)]
    refine Ev.step (fun k => by rw [whorlref4_Words.j1]) ?_
    by_cases hib : i < b.length
    · simp only [show decide ((i : Int) < b.length) = true by simpa using hib, if_true, if_pos (show 0 ≤ (i : Int) by omega), if_pos (show (i : Int) < a.length by omega), if_pos (show (i : Int) < b.length by omega), rd_nat, wrap_nat hi ha]
      have e2 : cmpL (a.drop i) (b.drop i) = if a.getD i 0 < b.getD i 0 then -1 else if b.getD i 0 < a.getD i 0 then 1 else cmpL (a.drop (i + 1)) (b.drop (i + 1)) := by
        rw [drop_cons_get hi, drop_cons_get hib, cmpL]
      rw [e, e2]
      by_cases h1 : a.getD i 0 = b.getD i 0
      · have e3 : cmpL (a.drop (i + 1)) (b.drop (i + 1)) = cmpL a b := by
          rw [e, e2, if_neg (by omega), if_neg (by omega)]
        simp only [if_pos h1]
        rw [if_neg (show ¬ a.getD i 0 < b.getD i 0 by omega), if_neg (show ¬ b.getD i 0 < a.getD i 0 by omega), e3]
        exact ih (i + 1) (by omega) (by omega) (by rw [take_next hi, take_next hib, h, h1])
      · by_cases h2 : a.getD i 0 < b.getD i 0
        · simp only [if_neg h1, if_pos h2]; exact Ev.now _
        · simp only [if_neg h1, if_neg h2]
          rw [if_pos (show b.getD i 0 < a.getD i 0 by omega)]
          exact Ev.now _
    · simp only [show decide ((i : Int) < b.length) = false by simpa using hib, if_neg (show ¬ false = true by decide), if_neg (show ¬ (a.length : Int) < b.length by omega), if_pos (show (a.length : Int) > b.length by omega)]
      rw [e, List.drop_of_length_le (show b.length ≤ i by omega), drop_cons_get hi]
      exact Ev.now _

theorem ref4_Words_ev (a b : List Int) (ha : a.length ≤ 140737488355328) : Ev (fun k => whorlref4_Words.f k a b) (cmpL a b) :=
  Ev.congr (fun k => rfl) (ref4_Words_l0 a b ha a.length 0 (by omega) (by omega) (by simp))


-- with: ref4_Words
def endR (s : List Int) (i j : Int) : Int := if 0 ≤ i ∧ i ≤ s.length ∧ 0 ≤ j ∧ j ≤ s.length then cmpL (s.drop i.toNat) (s.drop j.toNat) else 0

theorem ref4_Endings_ev (s : List Int) (hn : s.length ≤ 140737488355328) (i j : Int) : Ev (fun k => whorlref4_Endings.f k s i j) (endR s i j) := by
  refine Ev.congr (fun k => by rw [whorlref4_Endings.f]) ?_
  unfold endR
  by_cases h1 : i < 0
  · simp only [if_pos h1]; rw [if_neg (by omega)]; exact Ev.now _
  by_cases h2 : i > s.length
  · simp only [if_neg h1, if_pos h2]; rw [if_neg (by omega)]; exact Ev.now _
  by_cases h3 : j < 0
  · simp only [if_neg h1, if_neg h2, if_pos h3]; rw [if_neg (by omega)]; exact Ev.now _
  by_cases h4 : j > s.length
  · simp only [if_neg h1, if_neg h2, if_neg h3, if_pos h4]; rw [if_neg (by omega)]; exact Ev.now _
  simp only [if_neg h1, if_neg h2, if_neg h3, if_neg h4, if_pos (show 0 ≤ i by omega), if_pos (show i ≤ s.length by omega), if_pos (show 0 ≤ j by omega), if_pos (show j ≤ s.length by omega)]
  rw [if_pos (by omega)]
  exact Ev.bind (ref4_Words_ev _ _ (by rw [List.length_drop]; omega)) (Ev.now _)


-- math: Lyn
-- with: ref4_Endings
theorem ref7_Is_l0 (s : List Int) (hn : s.length ≤ 140737488355328) : ∀ (d i : Nat), s.length ≤ i + d → 0 < i → i ≤ s.length + 1 → (∀ j, 0 < j → j < i → j < s.length → ltL s (s.drop j)) → Ev (fun k => whorlref7_Is.l0 k s (i : Int)) (decide (isLyn s)) := by
  intro d
  induction d with
  | zero =>
    intro i hd h0 hi h
    refine Ev.step (fun k => by rw [whorlref7_Is.l0]) ?_
    simp only [if_neg (show ¬ (i : Int) < s.length by omega)]
    have e : decide ((s.length : Int) > 0) = decide (isLyn s) := by
      rw [decide_eq_decide]
      constructor
      · intro hp
        exact ⟨by rintro rfl; simp at hp, fun j hj0 hj => h j hj0 (by omega) hj⟩
      · intro hl
        have := List.length_pos_iff.2 hl.1
        omega
    rw [e]; exact Ev.now _
  | succ d ih =>
    intro i hd h0 hi h
    by_cases hlt : i < s.length
    · refine Ev.step (fun k => by rw [whorlref7_Is.l0]) ?_
      simp only [if_pos (show (i : Int) < s.length by omega)]
      refine Ev.bind (ref4_Endings_ev s hn 0 i) ?_
      have e : endR s 0 i = cmpL s (s.drop i) := by
        unfold endR; rw [if_pos (by omega)]; simp
      rw [e]
      by_cases hc : ltL s (s.drop i)
      · have hc' : cmpL s (s.drop i) = -1 := hc
        simp only [hc', if_neg (show ¬ (-1 : Int) ≥ 0 by decide), wrap_nat hlt hn]
        refine ih (i + 1) (by omega) (by omega) (by omega) (fun j hj0 hj hjl => ?_)
        by_cases e2 : j = i
        · rw [e2]; exact hc
        · exact h j hj0 (by omega) hjl
      · have hc' : cmpL s (s.drop i) ≥ 0 := by
          unfold ltL at hc
          rcases cmpL_vals s (s.drop i) with k | k | k <;> omega
        simp only [if_pos hc']
        rw [decide_eq_false (fun hl => hc (hl.2 i h0 hlt))]
        exact Ev.now _
    · refine Ev.step (fun k => by rw [whorlref7_Is.l0]) ?_
      simp only [if_neg (show ¬ (i : Int) < s.length by omega)]
      have e : decide ((s.length : Int) > 0) = decide (isLyn s) := by
        rw [decide_eq_decide]
        constructor
        · intro hp
          exact ⟨by rintro rfl; simp at hp, fun j hj0 hj => h j hj0 (by omega) hj⟩
        · intro hl
          have := List.length_pos_iff.2 hl.1
          omega
      rw [e]; exact Ev.now _

theorem ref7_Is_ev (s : List Int) (hn : s.length ≤ 140737488355328) : Ev (fun k => whorlref7_Is.f k s) (decide (isLyn s)) :=
  Ev.congr (fun k => rfl) (ref7_Is_l0 s hn s.length 1 (by omega) (by omega) (by omega) (fun j h0 h1 h2 => by omega))


-- fn: known7 ref7_Is ref4_Words lyndon
-- math: Lyn
theorem falls_l0 (s : List Int) (hn : s.length ≤ 200) (l : List Int) (hll : l.length ≤ 200) : ∀ (t : List Int) (i at_ : Nat) (last : List Int), i + t.length = l.length → l.drop i = t → at_ ≤ s.length → last.length ≤ 200 → Facts (s.drop at_) t →
    (0 < i → ∀ m t2, t = m :: t2 → ¬ ltL last ((s.drop at_).take m.toNat)) → Ev (fun k => whorllaw7_LyndonFalls.l0 k s l (at_ : Int) last (i : Int)) true := by
  intro t
  induction t with
  | nil =>
    intro i at_ last hi hd ha hla hf hlt
    refine Ev.step (fun k => by rw [whorllaw7_LyndonFalls.l0]) ?_
    have hae : at_ = s.length := by
      generalize he : s.drop at_ = q at hf
      cases hf with
      | nil =>
        have := congrArg List.length he
        rw [List.length_drop, List.length_nil] at this
        omega
    simp only [List.length_nil] at hi
    simp only [if_neg (show ¬ (i : Int) < (l.length : Int) by omega), if_pos (show (at_ : Int) = (s.length : Int) by omega)]
    exact Ev.bind known_ev (Ev.now _)
  | cons m t ih =>
    intro i at_ last hi hd ha hla hf hlt
    simp only [List.length_cons] at hi
    have hil : i < l.length := by omega
    have hget : l.getD i 0 = m := by
      rw [drop_cons_get hil] at hd
      injection hd
    have htd : l.drop (i + 1) = t := by
      rw [drop_cons_get hil] at hd
      injection hd
    have hpos := hf.pos m (by simp)
    have hsum := hf.sum
    have hfull := hf
    obtain ⟨n, rfl⟩ : ∃ n : Nat, m = n := ⟨m.toNat, by omega⟩
    generalize hg : (n : Int) :: t = q at hf
    generalize hg2 : s.drop at_ = u at hf
    cases hf with
    | nil => simp at hg
    | @cons _ l1 n1 a b c d =>
      simp only [List.cons.injEq] at hg
      obtain ⟨hg, rfl⟩ := hg
      obtain rfl : n = n1 := by omega
      subst hg2
      rw [List.length_drop] at a
      rw [List.drop_drop] at d
      have hcut : (s.take (at_ + n)).drop at_ = (s.drop at_).take n := by rw [List.drop_take]; congr 1; omega
      have hcl : ((s.drop at_).take n).length ≤ 200 := by rw [List.length_take, List.length_drop]; omega
      have hnext : Ev (fun k => whorllaw7_LyndonFalls.l0 k s l ((at_ + n : Nat) : Int) ((s.drop at_).take n) ((i + 1 : Nat) : Int)) true := by
        refine ih (i + 1) (at_ + n) _ (by omega) htd (by omega) hcl d (fun _ m2 t2 ht2 => ?_)
        subst ht2
        have hp2 := hfull.pos m2 (by simp)
        obtain ⟨m2, rfl⟩ : ∃ z : Nat, m2 = z := ⟨m2.toNat, by omega⟩
        have := hfull.falls
        rw [List.drop_drop] at this
        simpa using this
      have e1 : (i : Int) < (l.length : Int) := by omega
      have e2 : 0 ≤ (i : Int) := by omega
      have e3 : ¬ (n : Int) < 1 := by omega
      have e4 : ¬ (n : Int) > (s.length : Int) - (at_ : Int) := by omega
      have e5 : 0 ≤ (at_ : Int) := by omega
      have e6 : (at_ : Int) ≤ ((at_ + n : Nat) : Int) := by omega
      have e7 : ((at_ + n : Nat) : Int) ≤ (s.length : Int) := by omega
      refine Ev.step (fun k => by rw [whorllaw7_LyndonFalls.l0]) ?_
      rw [wrap64_id (x := (s.length : Int) - (at_ : Int)) (by omega) (by omega)]
      simp only [if_pos e1, if_pos e2, rd_nat, hget, if_neg e3, decide_eq_false e4]
      refine Ev.step (fun k => by rw [whorllaw7_LyndonFalls.j1]) ?_
      simp only [rd_nat, hget]
      rw [wrap64_id (x := (at_ : Int) + (n : Int)) (by omega) (by omega), show (at_ : Int) + (n : Int) = ((at_ + n : Nat) : Int) by omega]
      simp only [if_neg (show ¬ false = true by decide), if_pos e1, if_pos e2, if_pos e5, if_pos e6, if_pos e7, Int.toNat_natCast, hcut, Option.bind_some, wrap_nat hil (show l.length ≤ 140737488355328 by omega)]
      refine Ev.bind (ref7_Is_ev _ (by omega)) ?_
      simp only [decide_eq_true b, if_true]
      by_cases h0 : (i : Int) > 0
      · simp only [if_pos h0]
        refine Ev.bind (ref4_Words_ev _ _ (by omega)) ?_
        have := hlt (by omega) _ _ rfl
        simp only [Int.toNat_natCast] at this
        have hc : ¬ cmpL last ((s.drop at_).take n) < 0 := fun h => this (by unfold ltL; rcases cmpL_vals last ((s.drop at_).take n) with k | k | k <;> omega)
        simp only [if_neg hc]
        exact hnext
      · simp only [if_neg h0]
        exact hnext

theorem LyndonFalls : whorllaw7_LyndonFalls.Pure := by
  intro s h1 h2 h3
  refine Ev.rounds ?_
  refine Ev.congr (fun k => by rw [whorllaw7_LyndonFalls.f]) ?_
  by_cases g1 : (s.length : Int) > 200
  · simp only [if_pos g1]; exact Ev.now _
  simp only [if_neg g1]
  obtain ⟨l, hf, hev⟩ := lyndon_Factors_ev s (by omega)
  refine Ev.bind hev ?_
  have hl := hf.len
  exact falls_l0 s (by omega) l (by omega) l 0 0 [] (by simp) (by simp) (by omega) (by simp) (by simpa using hf) (fun h => by omega)

end Go.Proofs.Ytbhonjcnemndgaa.Pure
