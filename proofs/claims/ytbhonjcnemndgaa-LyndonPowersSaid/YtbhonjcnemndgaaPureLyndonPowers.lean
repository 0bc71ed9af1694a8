/- LyndonPowers: what the statement LyndonPowers says of the printed functions, proved for every input that its guards let in. Conditions: none beside the statement's own. -/
import Derived.Test.YtbhonjcnemndgaaHLyndonPowersx2
import Derived.Test.YtbhonjcnemndgaaMLyndonPowers
set_option linter.unusedVariables false
set_option linter.unusedSimpArgs false
namespace Go.Proofs.Ytbhonjcnemndgaa.Pure
open Go Go.RowKit Go.Proofs.Ytbhonjcnemndgaa.PLyndonPowers Go.Proofs.YtbhonjcnemndgaaW.PrintWords Go.Proofs.YtbhonjcnemndgaaW.PrintLast Go.Proofs.Ytbhonjcnemndgaa.MM

-- math: W Base Perm Lyn
theorem fac_l2 (s : List Int) (hn : s.length ≤ 17592186044416) (a0 : Nat)
    (IH : ∀ a, a0 < a → a ≤ s.length → ∃ l, Facts (s.drop a) l ∧ ∀ acc : List Int, acc.length ≤ a → Ev (fun k => lyndon_Factors.l0 k s acc (a : Int)) (acc ++ l)) (p j : Nat) (hp : 0 < p) (hpj : p ≤ j) (hj : j ≤ s.length) (hend : j = s.length ∨ s.getD j 0 < s.getD (j - p) 0) :
    ∀ (d a : Nat), j - a ≤ d → a0 ≤ a → a ≤ j → (a0 < a ∨ p ≤ j - a) → (p ≤ j - a → (∀ x, x < j - a → s.getD (a + x) 0 = s.getD (a + x % p) 0) ∧ isLyn ((s.drop a).take p)) →
    ∃ l, Facts (s.drop a) l ∧ ∀ acc : List Int, acc.length ≤ a → Ev (fun k => lyndon_Factors.l2 k s acc (a : Int) ((j : Int) - p) (j : Int)) (acc ++ l) := by
  intro d
  induction d with
  | zero =>
    intro a hd ha haj ho hinv
    obtain ⟨l, hf, hev⟩ := IH a (by omega) (by omega)
    refine ⟨l, hf, fun acc hacc => ?_⟩
    refine Ev.step (fun k => by rw [lyndon_Factors.l2]) ?_
    simp only [if_neg (show ¬ (a : Int) ≤ (j : Int) - p by omega)]
    exact hev acc hacc
  | succ d ih =>
    intro a hd ha haj ho hinv
    by_cases hpa : p ≤ j - a
    · obtain ⟨hper, hlyn⟩ := hinv hpa
      obtain ⟨l, hf, hev⟩ := ih (a + p) (by omega) (by omega) (by omega) (by omega) (fun hpa2 => by
        refine ⟨fun x hx => ?_, ?_⟩
        · have h1 := hper (p + x) (by omega)
          have h2 := hper (p + x % p) (by have := Nat.mod_lt x hp; omega)
          rw [Nat.add_mod_left] at h1 h2
          rw [Nat.mod_mod] at h2
          rw [Nat.add_assoc, h1, Nat.add_assoc, h2]
        · have e : (s.drop (a + p)).take p = (s.drop a).take p := by
            refine ext_getD (by rw [List.length_take, List.length_take, List.length_drop, List.length_drop]; omega) (fun x hx => ?_)
            rw [List.length_take] at hx
            rw [getD_take _ _ _ (by omega), getD_take _ _ _ (by omega), getD_drop, getD_drop]
            have h1 := hper (p + x) (by omega)
            rw [Nat.add_mod_left, Nat.mod_eq_of_lt (by omega)] at h1
            rw [Nat.add_assoc, h1]
          rw [e]; exact hlyn)
      have hdl : (s.drop a).length = s.length - a := List.length_drop ..
      have hmost : ∀ m', p < m' → m' ≤ (s.drop a).length → ¬ isLyn ((s.drop a).take m') := fun m' h1 h2 =>
        lyn_most (j := j - a) hp hpa (by omega) (fun x hx => by rw [getD_drop, getD_drop]; exact hper x hx) (by
          rcases hend with h | h
          · left; omega
          · right; rw [getD_drop, getD_drop, show a + (j - a) = j by omega, show a + (j - a - p) = j - p by omega]; exact h) h1 h2
      refine ⟨(p : Int) :: l, .cons (by omega) hlyn hmost (by rw [List.drop_drop]; exact hf), fun acc hacc => ?_⟩
      refine Ev.step (fun k => by rw [lyndon_Factors.l2]) ?_
      have hx := hev (acc ++ [(p : Int)]) (by rw [List.length_append, List.length_singleton]; omega)
      have c1 : (a : Int) ≤ (j : Int) - p := by omega
      have c2 : acc.length < 17592186044416 := by omega
      have w1 : wrap64 ((j : Int) - ((j : Int) - p)) = (p : Int) := by rw [wrap64_id (by omega) (by omega)]; omega
      have w2 : wrap64 ((a : Int) + (p : Int)) = ((a + p : Nat) : Int) := by clear w1; rw [wrap64_id (by omega) (by omega)]; omega
      simp only [if_pos c1, if_pos c2, w1, w2]
      rw [List.append_assoc] at hx
      exact hx
    · obtain ⟨l, hf, hev⟩ := IH a (by omega) (by omega)
      refine ⟨l, hf, fun acc hacc => ?_⟩
      refine Ev.step (fun k => by rw [lyndon_Factors.l2]) ?_
      simp only [if_neg (show ¬ (a : Int) ≤ (j : Int) - p by omega)]
      exact hev acc hacc

theorem fac_l1 (s : List Int) (hn : s.length ≤ 17592186044416) (a : Nat)
    (IH : ∀ a', a < a' → a' ≤ s.length → ∃ l, Facts (s.drop a') l ∧ ∀ acc : List Int, acc.length ≤ a' → Ev (fun k => lyndon_Factors.l0 k s acc (a' : Int)) (acc ++ l)) :
    ∀ (d p j : Nat), j + d = s.length → 0 < p → a + p ≤ j → j ≤ s.length → (∀ x, x < j - a → s.getD (a + x) 0 = s.getD (a + x % p) 0) → isLyn ((s.drop a).take p) →
    ∃ l, Facts (s.drop a) l ∧ ∀ acc : List Int, acc.length ≤ a → Ev (fun k => lyndon_Factors.l1 k s acc (a : Int) ((j : Int) - p) (j : Int)) (acc ++ l) := by
  intro d
  induction d with
  | zero =>
    intro p j hd hp hpj hj hper hlyn
    obtain ⟨l, hf, hev⟩ := fac_l2 s hn a IH p j hp (by omega) hj (.inl (by omega)) (j - a) a (by omega) (Nat.le_refl _) (by omega) (.inr (by omega)) (fun _ => ⟨hper, hlyn⟩)
    refine ⟨l, hf, fun acc hacc => ?_⟩
    refine Ev.step (fun k => by rw [lyndon_Factors.l1]) ?_
    simp only [if_neg (show ¬ (j : Int) < s.length by omega)]
    refine Ev.step (fun k => by rw [lyndon_Factors.j2]) ?_
    simp only [if_neg (show ¬ false = true by decide)]
    exact hev acc hacc
  | succ d ih =>
    intro p j hd hp hpj hj hper hlyn
    have hjl : j < s.length := by omega
    have hi : ((j : Int) - p) = ((j - p : Nat) : Int) := by omega
    have hdl : (s.drop a).length = s.length - a := List.length_drop ..
    by_cases hlt : s.getD (j - p) 0 < s.getD j 0
    · -- greater: one word till here
      have hg := lyn_grow (t := s.drop a) (p := p) (j := j - a) hp (by omega) (by omega) (fun x hx => by rw [getD_drop, getD_drop]; exact hper x hx) hlyn (by
        rw [getD_drop, getD_drop, show a + (j - a) = j by omega, show a + (j - a - p) = j - p by omega]; exact hlt)
      obtain ⟨l, hf, hev⟩ := ih (j - a + 1) (j + 1) (by omega) (by omega) (by omega) (by omega) (fun x hx => by rw [Nat.mod_eq_of_lt (by omega)]) hg
      refine ⟨l, hf, fun acc hacc => ?_⟩
      refine Ev.step (fun k => by rw [lyndon_Factors.l1]) ?_
      simp only [hi, rd_nat]
      simp only [if_pos (show (j : Int) < s.length by omega), if_pos (show (0 : Int) ≤ ((j - p : Nat) : Int) by omega), if_pos (show ((j - p : Nat) : Int) < s.length by omega), if_pos (show 0 ≤ (j : Int) by omega), decide_eq_true (show s.getD (j - p) 0 ≤ s.getD j 0 by omega)]
      refine Ev.step (fun k => by rw [lyndon_Factors.j2]) ?_
      simp only [rd_nat, if_true, if_pos hlt, wrap_nat hjl (show s.length ≤ 140737488355328 by omega)]
      simp only [if_pos (show (j : Int) < s.length by omega), if_pos (show (0 : Int) ≤ ((j - p : Nat) : Int) by omega), if_pos (show ((j - p : Nat) : Int) < s.length by omega), if_pos (show 0 ≤ (j : Int) by omega)]
      have := hev acc hacc
      rw [show ((j + 1 : Nat) : Int) - ((j - a + 1 : Nat) : Int) = (a : Int) by omega] at this
      exact this
    · by_cases heq : s.getD (j - p) 0 = s.getD j 0
      · obtain ⟨l, hf, hev⟩ := ih p (j + 1) (by omega) hp (by omega) (by omega) (fun x hx => by
          by_cases hxj : x = j - a
          · subst hxj
            rw [show a + (j - a) = j by omega, ← heq]
            have h1 := hper (j - a - p) (by omega)
            rw [show a + (j - a - p) = j - p by omega] at h1
            rw [h1, ← Nat.mod_eq_sub_mod (by omega)]
          · exact hper x (by omega)) hlyn
        refine ⟨l, hf, fun acc hacc => ?_⟩
        refine Ev.step (fun k => by rw [lyndon_Factors.l1]) ?_
        simp only [hi, rd_nat]
        simp only [if_pos (show (j : Int) < s.length by omega), if_pos (show (0 : Int) ≤ ((j - p : Nat) : Int) by omega), if_pos (show ((j - p : Nat) : Int) < s.length by omega), if_pos (show 0 ≤ (j : Int) by omega), decide_eq_true (show s.getD (j - p) 0 ≤ s.getD j 0 by omega)]
        refine Ev.step (fun k => by rw [lyndon_Factors.j2]) ?_
        simp only [rd_nat, if_true, if_neg hlt, wrap_nat hjl (show s.length ≤ 140737488355328 by omega), wrap_nat (show j - p < s.length by omega) (show s.length ≤ 140737488355328 by omega)]
        simp only [if_pos (show (j : Int) < s.length by omega), if_pos (show (0 : Int) ≤ ((j - p : Nat) : Int) by omega), if_pos (show ((j - p : Nat) : Int) < s.length by omega), if_pos (show 0 ≤ (j : Int) by omega)]
        have := hev acc hacc
        rw [show ((j + 1 : Nat) : Int) - (p : Int) = ((j - p + 1 : Nat) : Int) by omega] at this
        exact this
      · obtain ⟨l, hf, hev⟩ := fac_l2 s hn a IH p j hp (by omega) hj (.inr (by omega)) (j - a) a (by omega) (Nat.le_refl _) (by omega) (.inr (by omega)) (fun _ => ⟨hper, hlyn⟩)
        refine ⟨l, hf, fun acc hacc => ?_⟩
        refine Ev.step (fun k => by rw [lyndon_Factors.l1]) ?_
        rw [hi]
        simp only [rd_nat]
        simp only [if_pos (show (j : Int) < s.length by omega), if_pos (show (0 : Int) ≤ ((j - p : Nat) : Int) by omega), if_pos (show ((j - p : Nat) : Int) < s.length by omega), if_pos (show 0 ≤ (j : Int) by omega), decide_eq_false (show ¬ s.getD (j - p) 0 ≤ s.getD j 0 by omega)]
        refine Ev.step (fun k => by rw [lyndon_Factors.j2]) ?_
        simp only [if_neg (show ¬ false = true by decide)]
        rw [← hi]
        exact hev acc hacc

theorem fac_l0 (s : List Int) (hn : s.length ≤ 17592186044416) : ∀ (d a : Nat), s.length - a ≤ d → a ≤ s.length → ∃ l, Facts (s.drop a) l ∧ ∀ acc : List Int, acc.length ≤ a → Ev (fun k => lyndon_Factors.l0 k s acc (a : Int)) (acc ++ l) := by
  intro d
  induction d with
  | zero =>
    intro a hd ha
    refine ⟨[], by rw [List.drop_of_length_le (by omega)]; exact .nil, fun acc hacc => ?_⟩
    refine Ev.step (fun k => by rw [lyndon_Factors.l0]) ?_
    simp only [if_neg (show ¬ (a : Int) < s.length by omega), List.append_nil]
    exact Ev.now _
  | succ d ih =>
    intro a hd ha
    by_cases hlt : a < s.length
    · obtain ⟨l, hf, hev⟩ := fac_l1 s hn a (fun a' h1 h2 => ih a' (by omega) h2) (s.length - (a + 1)) 1 (a + 1) (by omega) (by omega) (by omega) (by omega) (fun x hx => by rw [show x = 0 by omega]) (by
        rw [List.drop_eq_getElem_cons hlt]; exact lyn_one _)
      refine ⟨l, hf, fun acc hacc => ?_⟩
      refine Ev.step (fun k => by rw [lyndon_Factors.l0]) ?_
      simp only [if_pos (show (a : Int) < s.length by omega), wrap_nat hlt (show s.length ≤ 140737488355328 by omega)]
      have := hev acc hacc
      rw [show ((a + 1 : Nat) : Int) - ((1 : Nat) : Int) = (a : Int) by omega] at this
      exact this
    · exact ih a (by omega) ha

theorem lyndon_Factors_ev (s : List Int) (hn : s.length ≤ 17592186044416) : ∃ l, Facts s l ∧ Ev (fun k => lyndon_Factors.f k s) l := by
  obtain ⟨l, hf, hev⟩ := fac_l0 s hn s.length 0 (by omega) (by omega)
  refine ⟨l, hf, ?_⟩
  have := hev [] (by simp)
  rw [List.nil_append] at this
  exact Ev.congr (fun k => rfl) this

theorem lyndon_Is_ev (s : List Int) (hn : s.length ≤ 17592186044416) : Ev (fun k => lyndon_Is.f k s) (decide (isLyn s)) := by
  obtain ⟨l, hf, hev⟩ := lyndon_Factors_ev s hn
  refine Ev.congr (fun k => by rw [lyndon_Is.f]) ?_
  refine Ev.bind hev ?_
  have e : ((l.length : Int) == 1) = decide (isLyn s) := by
    rw [Bool.eq_iff_iff, beq_iff_eq, decide_eq_true_eq, ← hf.one]; omega
  rw [e]; exact Ev.now _


-- math: W Base Perm
theorem ref4_Ints_l0 (a b : List Int) (hl : a.length = b.length) (hn : a.length ≤ 140737488355328) : ∀ (d i : Nat), i + d = a.length → (∀ j, j < i → a.getD j 0 = b.getD j 0) → Ev (fun k => whorlref4_Ints.l0 k a b (i : Int)) (decide (a = b)) := by
  intro d
  induction d with
  | zero =>
    intro i hd h
    refine Ev.step (fun k => by rw [whorlref4_Ints.l0]) ?_
    simp only [if_neg (show ¬ (i : Int) < a.length by omega)]
    rw [decide_eq_true (ext_getD hl (fun j hj => h j (by omega)))]
    exact Ev.now _
  | succ d ih =>
    intro i hd h
    have hi : i < a.length := by omega
    refine Ev.step (fun k => by rw [whorlref4_Ints.l0]) ?_
    simp only [if_pos (show (i : Int) < a.length by omega), if_pos (show 0 ≤ (i : Int) by omega), if_pos (show (i : Int) < b.length by omega), rd_nat, wrap_nat hi hn]
    by_cases e : a.getD i 0 = b.getD i 0
    · simp only [if_pos e]
      refine ih (i + 1) (by omega) (fun j hj => ?_)
      by_cases e2 : j = i
      · rw [e2]; exact e
      · exact h j (by omega)
    · simp only [if_neg e]
      rw [decide_eq_false (fun hab => e (by rw [hab]))]
      exact Ev.now _

theorem ref4_Ints_ev (a b : List Int) (hn : a.length ≤ 140737488355328) : Ev (fun k => whorlref4_Ints.f k a b) (decide (a = b)) := by
  refine Ev.congr (fun k => by rw [whorlref4_Ints.f]) ?_
  by_cases e : a.length = b.length
  · simp only [if_pos (show (a.length : Int) = b.length by omega)]
    exact ref4_Ints_l0 a b e hn a.length 0 (by omega) (fun j hj => by omega)
  · simp only [if_neg (show ¬ (a.length : Int) = b.length by omega)]
    rw [decide_eq_false (fun hab => e (by rw [hab]))]
    exact Ev.now _

-- with: lyndon ref4_Ints
theorem known_ev : Ev (fun k => whorllaw7_known.f k) true := Ev.of (whorllaw7_known.mono) (k := 60) (by decide +kernel)


-- fn: known7
def powL (w : List Int) : Nat → List Int
  | 0 => []
  | n + 1 => powL w n ++ w

theorem powL_length (w : List Int) : ∀ n, (powL w n).length = n * w.length
  | 0 => by simp [powL]
  | n + 1 => by rw [powL, List.length_append, powL_length w n, Nat.succ_mul]

theorem powL_front (w : List Int) : ∀ n, powL w (n + 1) = w ++ powL w n
  | 0 => by simp [powL]
  | n + 1 => by
    have h : powL w (n + 1) = w ++ powL w n := powL_front w n
    have h2 : powL w (n + 1) = powL w n ++ w := rfl
    rw [powL, h, List.append_assoc, ← h2, h]

theorem powL_get (w : List Int) (hw : 0 < w.length) : ∀ (n x : Nat), x < n * w.length → (powL w n).getD x 0 = w.getD (x % w.length) 0
  | 0, x, h => by omega
  | n + 1, x, h => by
    rw [powL_front]
    by_cases hx : x < w.length
    · rw [Nat.mod_eq_of_lt hx, List.getD_eq_getElem?_getD, List.getElem?_append_left hx, ← List.getD_eq_getElem?_getD]
    · rw [Nat.succ_mul] at h
      rw [List.getD_eq_getElem?_getD, List.getElem?_append_right (by omega), ← List.getD_eq_getElem?_getD, powL_get w hw n _ (by omega), ← Nat.mod_eq_sub_mod (by omega)]

theorem powL_facts {w : List Int} (hw : isLyn w) : ∀ n, Facts (powL w n) (List.replicate n (w.length : Int))
  | 0 => .nil
  | n + 1 => by
    have h0 := List.length_pos_iff.2 hw.1
    have hl := powL_length w (n + 1)
    rw [Nat.succ_mul] at hl
    have e : (powL w (n + 1)).take w.length = w := by rw [powL_front, List.take_left]
    rw [List.replicate_succ]
    refine .cons (by omega) (by rw [e]; exact hw) (fun m' h1 h2 => ?_) (by rw [powL_front, List.drop_left]; exact powL_facts hw n)
    refine lyn_most (j := (powL w (n + 1)).length) h0 (by omega) (Nat.le_refl _) (fun x hx => ?_) (.inl rfl) h1 h2
    rw [powL_get w h0 _ _ (by rw [Nat.succ_mul]; omega), powL_get w h0 _ _ (by rw [Nat.succ_mul]; have := Nat.mod_lt x h0; omega), Nat.mod_mod]

theorem powL_facts_iff {w l : List Int} {n : Nat} (hn : 0 < n) (hf : Facts (powL w n) l) : l = List.replicate n (w.length : Int) ↔ isLyn w := by
  constructor
  · intro e
    subst e
    obtain ⟨m, rfl⟩ : ∃ m, n = m + 1 := ⟨n - 1, by omega⟩
    rw [List.replicate_succ] at hf
    generalize hq : (w.length : Int) :: List.replicate m (w.length : Int) = q at hf
    generalize ht : powL w (m + 1) = t at hf
    cases hf with
    | nil => simp at hq
    | @cons _ l1 n1 a b c d =>
      simp only [List.cons.injEq] at hq
      have : n1 = w.length := by omega
      subst this
      rwa [← ht, powL_front, List.take_left] at b
  · intro hl
    exact hf.det (powL_facts hl n)

theorem powers_l0 (w : List Int) (hw : w.length ≤ 20) (n : Nat) (h0 : 0 < n) (hn : n ≤ 8) : ∀ (d i : Nat), i + d = n → Ev (fun k => whorllaw7_LyndonPowers.l0 k w (n : Int) (powL w i) (List.replicate i (w.length : Int)) (i : Int)) true := by
  intro d
  induction d with
  | zero =>
    intro i hd
    obtain rfl : i = n := by omega
    have hl := powL_length w i
    have hm : i * w.length ≤ 8 * 20 := Nat.mul_le_mul hn hw
    refine Ev.step (fun k => by rw [whorllaw7_LyndonPowers.l0]) ?_
    simp only [if_neg (show ¬ (i : Int) < i by omega)]
    obtain ⟨l, hf, hev⟩ := lyndon_Factors_ev (powL w i) (by omega)
    refine Ev.bind hev ?_
    refine Ev.bind (ref4_Ints_ev _ _ (by have := hf.len; omega)) ?_
    refine Ev.bind (lyndon_Is_ev w (by omega)) ?_
    have e : (decide (l = List.replicate i (w.length : Int)) == decide (isLyn w)) = true := by
      rw [beq_iff_eq, decide_eq_decide]; exact powL_facts_iff h0 hf
    simp only [e, if_true]
    exact Ev.bind known_ev (Ev.now _)
  | succ d ih =>
    intro i hd
    have hl := powL_length w i
    have hm : i * w.length ≤ 8 * 20 := Nat.mul_le_mul (by omega) hw
    refine Ev.step (fun k => by rw [whorllaw7_LyndonPowers.l0]) ?_
    simp only [if_pos (show (i : Int) < n by omega), if_pos (show (powL w i).length + w.length < 140737488355328 by omega), List.length_replicate, if_pos (show i < 17592186044416 by omega), wrap_nat (show i < n by omega) (show n ≤ 140737488355328 by omega)]
    have := ih (i + 1) (by omega)
    rw [List.replicate_succ'] at this
    exact this

theorem LyndonPowers : whorllaw7_LyndonPowers.Pure := by
  intro w n h1 h2 h3 h4
  refine Ev.rounds ?_
  have hg : Ev (fun k => whorllaw7_LyndonPowers.j0 k w n true) true := Ev.step (fun k => by rw [whorllaw7_LyndonPowers.j0]) (by simp only [if_true]; exact Ev.now _)
  refine Ev.congr (fun k => by rw [whorllaw7_LyndonPowers.f]) ?_
  by_cases g1 : (w.length : Int) < 1
  · simp only [if_pos g1]; exact hg
  by_cases g2 : (w.length : Int) > 20
  · simp only [if_neg g1, if_pos g2]; exact hg
  by_cases g3 : n < 1
  · simp only [if_neg g1, if_neg g2, if_pos g3]; exact hg
  by_cases g4 : n > 8
  · simp only [if_neg g1, if_neg g2, if_neg g3, g4, decide_true]; exact hg
  simp only [if_neg g1, if_neg g2, if_neg g3, g4, decide_false]
  refine Ev.step (fun k => by rw [whorllaw7_LyndonPowers.j0]) ?_
  simp only [if_neg (show ¬ false = true by decide)]
  obtain ⟨m, rfl⟩ : ∃ m : Nat, n = m := ⟨n.toNat, by omega⟩
  exact powers_l0 w (by omega) m (by omega) (by omega) m 0 (by omega)

end Go.Proofs.Ytbhonjcnemndgaa.Pure
