/- KindsTells: what the statement KindsTells says of the printed functions, proved for every input that its guards let in. Conditions: none beside the statement's own. -/
import Derived.Test.YtkcmafocoflcpaaPKindsTellsx3
import Derived.Test.YtkcmafocoflcpaaMKindsTells
set_option linter.unusedVariables false
set_option linter.unusedSimpArgs false
namespace Go.Proofs.Ytkcmafocoflcpaa.Pure
open Go Go.RowKit Go.Proofs.Ytkcmafocoflcpaa.PKindsTells Go.Proofs.YtkcmafocoflcpaaW.PrintWords Go.Proofs.YtkcmafocoflcpaaW.PrintLast Go.Proofs.Ytkcmafocoflcpaa.MM

-- math: W Base Perm SA Kinds
theorem kinds_Small_l0 (s : List Int) (hn : s.length ≤ 140737488355328) : ∀ (d : Nat) (l : List Bool), l.length = s.length → d + 1 ≤ s.length → (∀ j, d ≤ j → j < s.length → l.getD j false = sml s j) →
    Ev (fun k => kinds_Small.l0 k s l ((d : Int) - 1)) (smls s) := by
  intro d
  induction d with
  | zero =>
    intro l hl hd h
    refine Ev.step (fun k => by rw [kinds_Small.l0]) ?_
    simp only [if_neg (show ¬ ((0 : Nat) : Int) - 1 ≥ 0 by omega)]
    rw [extB (a := l) (b := smls s) (by rw [hl, smls_length]) (fun i hi => by rw [smls_get (by omega)]; exact h i (by omega) (by omega))]
    exact Ev.now _
  | succ d ih =>
    intro l hl hd h
    refine Ev.step (fun k => by rw [kinds_Small.l0]) ?_
    have e : ((d + 1 : Nat) : Int) - 1 = (d : Int) := by omega
    have w1 : wrap64 ((d : Int) + 1) = ((d + 1 : Nat) : Int) := wrap_nat (n := d + 1) (by omega) (by omega)
    have w2 : wrap64 ((d : Int) - 1) = (d : Int) - 1 := wrap64_id (by omega) (by omega)
    simp only [e, w1, w2, rd_nat, rdB_nat, Int.toNat_natCast]
    simp only [if_pos (show (d : Int) ≥ 0 by omega), if_pos (show 0 ≤ (d : Int) by omega), if_pos (show (d : Int) < s.length by omega), if_pos (show (0 : Int) ≤ ((d + 1 : Nat) : Int) by omega), if_pos (show ((d + 1 : Nat) : Int) < s.length by omega),
      if_pos (show (d : Int) < l.length by omega), if_pos (show ((d + 1 : Nat) : Int) < l.length by omega)]
    have hs := sml_step (s := s) (i := d) (by omega)
    have key : ∀ b : Bool, b = sml s d → Ev (fun k => kinds_Small.l0 k s (l.set d b) ((d : Int) - 1)) (smls s) := fun b hb => by
      refine ih _ (by rw [List.length_set, hl]) (by omega) (fun j hj1 hj2 => ?_)
      rw [lset (by omega)]
      by_cases e2 : d = j
      · rw [if_pos e2, hb, e2]
      · rw [if_neg e2]; exact h j (by omega) hj2
    by_cases h1 : s.getD d 0 < s.getD (d + 1) 0
    · simp only [if_pos h1]
      exact key _ (by rw [hs]; simp only [h1, decide_true, Bool.true_or])
    · by_cases h2 : s.getD d 0 = s.getD (d + 1) 0
      · simp only [if_neg h1, if_pos h2]
        exact key _ (by rw [hs, h (d + 1) (by omega) (by omega)]; simp only [h1, h2, decide_true, decide_false, Bool.false_or, Bool.true_and]; simp)
      · simp only [if_neg h1, if_neg h2]
        exact key _ (by rw [hs]; simp only [h1, h2, decide_false, Bool.false_and, Bool.or_self])

theorem kinds_Small_ev (s : List Int) (hn : s.length ≤ 140737488355328) : Ev (fun k => kinds_Small.f k s) (smls s) := by
  refine Ev.congr (fun k => by rw [kinds_Small.f]) ?_
  simp only [Int.toNat_natCast]
  simp only [if_pos (show 0 ≤ (s.length : Int) by omega), if_pos (show s.length ≤ 281474976710656 by omega)]
  rw [wrap64_id (by omega) (by omega)]
  by_cases h0 : s.length = 0
  · refine Ev.step (fun k => by rw [kinds_Small.l0]) ?_
    simp only [if_neg (show ¬ (s.length : Int) - 2 ≥ 0 by omega), h0]
    have : s = [] := List.eq_nil_of_length_eq_zero h0
    subst this
    exact Ev.now _
  · have e : (s.length : Int) - 2 = ((s.length - 1 : Nat) : Int) - 1 := by omega
    rw [e]
    refine kinds_Small_l0 s hn (s.length - 1) _ (by simp) (by omega) (fun j h1 h2 => ?_)
    rw [getD_replicate, sml_last (by omega)]

theorem kinds_First_l0 (s : List Int) (hn : s.length ≤ 140737488355328) : ∀ (d i : Nat) (acc : List Int), i + d = s.length → acc = frs s i → s.length ≤ 17592186044416 →
    Ev (fun k => kinds_First.l0 k acc (smls s) (s.length : Int) (i : Int)) (frs s s.length) := by
  intro d
  induction d with
  | zero =>
    intro i acc hd ha hm
    obtain rfl : i = s.length := by omega
    subst ha
    refine Ev.step (fun k => by rw [kinds_First.l0]) ?_
    simp only [if_neg (show ¬ (s.length : Int) < s.length by omega)]
    exact Ev.now _
  | succ d ih =>
    intro i acc hd ha hm
    have hi : i < s.length := by omega
    refine Ev.step (fun k => by rw [kinds_First.l0]) ?_
    have hl := frs_len s i
    rw [← ha] at hl
    simp only [if_pos (show (i : Int) < s.length by omega), if_pos (show 0 ≤ (i : Int) by omega), wrap_nat hi hn, smls_length, rdB_nat, smls_get hi]
    have key : ∀ acc' : List Int, acc' = acc ++ (if isFr s i = true then [(i : Int)] else []) → Ev (fun k => kinds_First.l0 k acc' (smls s) (s.length : Int) ((i + 1 : Nat) : Int)) (frs s s.length) := fun acc' h => ih (i + 1) acc' (by omega) (by rw [h, ha, frs_succ]) hm
    by_cases h0 : 0 < i
    · have w : wrap64 ((i : Int) - 1) = ((i - 1 : Nat) : Int) := by rw [wrap64_id (by omega) (by omega)]; omega
      simp only [if_pos (show (i : Int) > 0 by omega), w, rdB_nat, smls_get (show i - 1 < s.length by omega)]
      simp only [if_pos (show (0 : Int) ≤ ((i - 1 : Nat) : Int) by omega), if_pos (show ((i - 1 : Nat) : Int) < s.length by omega)]
      by_cases h1 : sml s i = true
      · simp only [h1, if_true]
        by_cases h2 : sml s (i - 1) = true
        · simp only [h2, if_true]
          exact key _ (by simp [isFr, h2])
        · have h2' : sml s (i - 1) = false := by simpa using h2
          simp only [h2', if_neg (show ¬ false = true by decide), if_pos (show acc.length < 17592186044416 by omega)]
          exact key _ (by simp [isFr, h0, h1, h2'])
      · have h1' : sml s i = false := by simpa using h1
        simp only [h1', if_neg (show ¬ false = true by decide)]
        exact key _ (by simp [isFr, h1'])
    · simp only [if_neg (show ¬ (i : Int) > 0 by omega)]
      exact key _ (by simp [isFr, h0])

theorem kinds_First_ev (s : List Int) (hn : s.length ≤ 17592186044416) : Ev (fun k => kinds_First.f k s) (frs s s.length) := by
  refine Ev.congr (fun k => by rw [kinds_First.f]) ?_
  refine Ev.bind (kinds_Small_ev s (by omega)) ?_
  exact kinds_First_l0 s (by omega) s.length 0 [] (by omega) (by simp [frs]) hn


-- math: W Base Perm
theorem ref4_Ints_l0 (a b : List Int) (hl : a.length = b.length) (hn : a.length ≤ 140737488355328) : ∀ (d i : Nat), i + d = a.length → (∀ j, j < i → a.getD j 0 = b.getD j 0) → Ev (fun k => whorlref4_Ints.l0 k a b (i : Int)) (decide (a = b)) := by
  intro d
  induction d with
  | zero =>
    intro i hd h
    refine Ev.step (fun k => by rw [whorlref4_Ints.l0]) ?_
    simp only [if_neg (show ¬ (i : Int) < a.length by omega)]
    rw [decide_eq_true (ext_getD hl (fun j hj => h j (by omega)))]
    exact Ev.now _
  | succ d ih =>
    intro i hd h
    have hi : i < a.length := by omega
    refine Ev.step (fun k => by rw [whorlref4_Ints.l0]) ?_
    simp only [if_pos (show (i : Int) < a.length by omega), if_pos (show 0 ≤ (i : Int) by omega), if_pos (show (i : Int) < b.length by omega), rd_nat, wrap_nat hi hn]
    by_cases e : a.getD i 0 = b.getD i 0
    · simp only [if_pos e]
      refine ih (i + 1) (by omega) (fun j hj => ?_)
      by_cases e2 : j = i
      · rw [e2]; exact e
      · exact h j (by omega)
    · simp only [if_neg e]
      rw [decide_eq_false (fun hab => e (by rw [hab]))]
      exact Ev.now _

theorem ref4_Ints_ev (a b : List Int) (hn : a.length ≤ 140737488355328) : Ev (fun k => whorlref4_Ints.f k a b) (decide (a = b)) := by
  refine Ev.congr (fun k => by rw [whorlref4_Ints.f]) ?_
  by_cases e : a.length = b.length
  · simp only [if_pos (show (a.length : Int) = b.length by omega)]
    exact ref4_Ints_l0 a b e hn a.length 0 (by omega) (fun j hj => by omega)
  · simp only [if_neg (show ¬ (a.length : Int) = b.length by omega)]
    rw [decide_eq_false (fun hab => e (by rw [hab]))]
    exact Ev.now _

-- with: kinds ref4_Ints
theorem known_ev : Ev (fun k => whorllaw11_known.f k) true := by
  refine Ev.congr (fun k => by rw [whorllaw11_known.f]) ?_
  refine Ev.bind (kinds_First_ev _ (by decide)) ?_
  refine Ev.bind (ref4_Ints_ev _ _ (Nat.le_trans (frs_len _ _) (by decide))) ?_
  have e : decide (frs [1, 0, 0, 2, 1] ([1, 0, 0, 2, 1] : List Int).length = [1]) = true := by decide
  simp only [e, if_true]
  refine Ev.bind (kinds_Small_ev _ (by decide)) ?_
  simp only [smls_length]
  exact Ev.now _


-- math: W Base Perm SA Kinds
theorem ref11_Words_l0 (a b : List Int) (ha : a.length ≤ 140737488355328) : ∀ (d i : Nat), i + d = a.length → i ≤ b.length → a.take i = b.take i → Ev (fun k => whorlref11_Words.l0 k a b (i : Int)) (cmpL a b) := by
  intro d
  induction d with
  | zero =>
    intro i hd hb h
    have e : cmpL a b = cmpL (a.drop i) (b.drop i) := by
      conv => lhs; rw [← List.take_append_drop i a, ← List.take_append_drop i b, h]
      rw [cmpL_append]
    refine Ev.step (fun k => by rw [whorlref11_Words.l0]) ?_
    simp only [if_neg (show ¬ (i : Int) < a.length by omega)]
    refine Ev.step (fun k => by rw [whorlref11_Words.j1]) ?_
    simp only [if_neg (show ¬ false = true by decide)]
    rw [e, List.drop_of_length_le (show a.length ≤ i by omega)]
    by_cases h1 : a.length < b.length
    · simp only [if_pos (show (a.length : Int) < b.length by omega)]
      have : ltL [] (b.drop i) := ltL_nil.2 (fun e => by have := congrArg List.length e; rw [List.length_drop] at this; simp only [List.length_nil] at this; omega)
      rw [this]; exact Ev.now _
    · simp only [if_neg (show ¬ (a.length : Int) < b.length by omega), if_neg (show ¬ (a.length : Int) > b.length by omega)]
      rw [List.drop_of_length_le (show b.length ≤ i by omega)]
      exact Ev.now _
  | succ d ih =>
    intro i hd hb h
    have hi : i < a.length := by omega
    have e : cmpL a b = cmpL (a.drop i) (b.drop i) := by
      conv => lhs; rw [← List.take_append_drop i a, ← List.take_append_drop i b, h]
      rw [cmpL_append]
    refine Ev.step (fun k => by rw [whorlref11_Words.l0]) ?_
    simp only [if_pos (show (i : Int) < a.length by omega)]
    refine Ev.step (fun k => by rw [whorlref11_Words.j1]) ?_
    by_cases hib : i < b.length
    · simp only [show decide ((i : Int) < b.length) = true by simpa using hib, if_true, if_pos (show 0 ≤ (i : Int) by omega), if_pos (show (i : Int) < a.length by omega), if_pos (show (i : Int) < b.length by omega), rd_nat, wrap_nat hi ha]
      have e2 : cmpL (a.drop i) (b.drop i) = if a.getD i 0 < b.getD i 0 then -1 else if b.getD i 0 < a.getD i 0 then 1 else cmpL (a.drop (i + 1)) (b.drop (i + 1)) := by
        rw [drop_cons_get hi, drop_cons_get hib, cmpL]
      rw [e, e2]
      by_cases h1 : a.getD i 0 < b.getD i 0
      · simp only [if_pos h1]; exact Ev.now _
      · by_cases h2 : a.getD i 0 > b.getD i 0
        · simp only [if_neg h1, if_pos h2]; exact Ev.now _
        · simp only [if_neg h1, if_neg h2]
          have e3 : cmpL (a.drop (i + 1)) (b.drop (i + 1)) = cmpL a b := by
            rw [e, e2, if_neg h1, if_neg h2]
          rw [e3]
          exact ih (i + 1) (by omega) (by omega) (by rw [take_next hi, take_next hib, h, show a.getD i 0 = b.getD i 0 by omega])
    · simp only [show decide ((i : Int) < b.length) = false by simpa using hib, if_neg (show ¬ false = true by decide), if_neg (show ¬ (a.length : Int) < b.length by omega), if_pos (show (a.length : Int) > b.length by omega)]
      rw [e, List.drop_of_length_le (show b.length ≤ i by omega), drop_cons_get hi]
      exact Ev.now _

theorem ref11_Words_ev (a b : List Int) (ha : a.length ≤ 140737488355328) : Ev (fun k => whorlref11_Words.f k a b) (cmpL a b) :=
  Ev.congr (fun k => rfl) (ref11_Words_l0 a b ha a.length 0 (by omega) (by omega) (by simp))


-- with: ref11
theorem ref11_Small_l0 (s : List Int) (hn : s.length < 140737488355328) : ∀ (d i : Nat) (acc : List Bool), i + d = s.length → acc = (List.range i).map (sml s) → Ev (fun k => whorlref11_Small.l0 k s acc (i : Int)) (smls s) := by
  intro d
  induction d with
  | zero =>
    intro i acc hd ha
    obtain rfl : i = s.length := by omega
    subst ha
    refine Ev.step (fun k => by rw [whorlref11_Small.l0]) ?_
    simp only [if_neg (show ¬ (s.length : Int) < s.length by omega)]
    exact Ev.now _
  | succ d ih =>
    intro i acc hd ha
    have hi : i < s.length := by omega
    refine Ev.step (fun k => by rw [whorlref11_Small.l0]) ?_
    have hl : acc.length = i := by rw [ha]; simp
    simp only [wrap_nat hi (show s.length ≤ 140737488355328 by omega), Int.toNat_natCast]
    simp only [if_pos (show (i : Int) < s.length by omega), if_pos (show 0 ≤ (i : Int) by omega), if_pos (show (i : Int) ≤ s.length by omega), if_pos (show (0 : Int) ≤ ((i + 1 : Nat) : Int) by omega), if_pos (show ((i + 1 : Nat) : Int) ≤ s.length by omega)]
    refine Ev.bind (ref11_Words_ev _ _ (by rw [List.length_drop]; omega)) ?_
    simp only [if_pos (show acc.length < 140737488355328 by omega)]
    refine ih (i + 1) _ (by omega) ?_
    rw [List.range_succ, List.map_append, ha]
    congr 1
    simp only [List.map_cons, List.map_nil, List.cons.injEq, and_true]
    exact sml_cmp s i

theorem ref11_Small_ev (s : List Int) (hn : s.length < 140737488355328) : Ev (fun k => whorlref11_Small.f k s) (smls s) :=
  Ev.congr (fun k => rfl) (ref11_Small_l0 s hn s.length 0 [] (by omega) (by simp))

theorem ref11_First_l0 (s : List Int) (hn : s.length ≤ 17592186044416) : ∀ (d i : Nat) (acc : List Int), i + d = s.length → 0 < i → acc = frs s i → Ev (fun k => whorlref11_First.l0 k s (smls s) acc (i : Int)) (frs s s.length) := by
  intro d
  induction d with
  | zero =>
    intro i acc hd h0 ha
    obtain rfl : i = s.length := by omega
    subst ha
    refine Ev.step (fun k => by rw [whorlref11_First.l0]) ?_
    simp only [if_neg (show ¬ (s.length : Int) < s.length by omega)]
    exact Ev.now _
  | succ d ih =>
    intro i acc hd h0 ha
    have hi : i < s.length := by omega
    refine Ev.step (fun k => by rw [whorlref11_First.l0]) ?_
    have hl := frs_len s i
    rw [← ha] at hl
    have w : wrap64 ((i : Int) - 1) = ((i - 1 : Nat) : Int) := by rw [wrap64_id (by omega) (by omega)]; omega
    simp only [if_pos (show (i : Int) < s.length by omega), if_pos (show 0 ≤ (i : Int) by omega), wrap_nat hi (show s.length ≤ 140737488355328 by omega), smls_length, rdB_nat, smls_get hi, w, smls_get (show i - 1 < s.length by omega)]
    simp only [if_pos (show (0 : Int) ≤ ((i - 1 : Nat) : Int) by omega), if_pos (show ((i - 1 : Nat) : Int) < s.length by omega)]
    have key : ∀ acc' : List Int, acc' = acc ++ (if isFr s i = true then [(i : Int)] else []) → Ev (fun k => whorlref11_First.l0 k s (smls s) acc' ((i + 1 : Nat) : Int)) (frs s s.length) := fun acc' h => ih (i + 1) acc' (by omega) (by omega) (by rw [h, ha, frs_succ])
    by_cases h1 : sml s i = true
    · simp only [h1, if_true]
      by_cases h2 : sml s (i - 1) = true
      · simp only [h2, if_true]
        exact key _ (by simp [isFr, h2])
      · have h2' : sml s (i - 1) = false := by simpa using h2
        simp only [h2', if_neg (show ¬ false = true by decide), if_pos (show acc.length < 17592186044416 by omega)]
        exact key _ (by simp [isFr, h0, h1, h2'])
    · have h1' : sml s i = false := by simpa using h1
      simp only [h1', if_neg (show ¬ false = true by decide)]
      exact key _ (by simp [isFr, h1'])

theorem ref11_First_ev (s : List Int) (hn : s.length ≤ 17592186044416) : Ev (fun k => whorlref11_First.f k s) (frs s s.length) := by
  refine Ev.congr (fun k => by rw [whorlref11_First.f]) ?_
  refine Ev.bind (ref11_Small_ev s (by omega)) ?_
  by_cases h0 : s.length = 0
  · have : s = [] := List.eq_nil_of_length_eq_zero h0
    subst this
    refine Ev.step (fun k => by rw [whorlref11_First.l0]) ?_
    exact Ev.now _
  · exact ref11_First_l0 s hn (s.length - 1) 1 [] (by omega) (by omega) (by simp [frs, isFr])


-- fn: known11 ref11_Small
theorem tells_l0 (s : List Int) (hs : s.length ≤ 150) : ∀ (d i : Nat), i + d = s.length → Ev (fun k => whorllaw11_KindsTells.l0 k s (smls s) (smls s) (i : Int)) true := by
  intro d
  induction d with
  | zero =>
    intro i hd
    refine Ev.step (fun k => by rw [whorllaw11_KindsTells.l0]) ?_
    simp only [smls_length, if_neg (show ¬ (i : Int) < s.length by omega)]
    refine Ev.bind (kinds_First_ev s (by omega)) ?_
    refine Ev.bind (ref11_First_ev s (by omega)) ?_
    refine Ev.bind (ref4_Ints_ev _ _ (Nat.le_trans (frs_len _ _) (by omega))) ?_
    simp only [decide_true, if_true]
    exact Ev.bind known_ev (Ev.now _)
  | succ d ih =>
    intro i hd
    have hi : i < s.length := by omega
    refine Ev.step (fun k => by rw [whorllaw11_KindsTells.l0]) ?_
    simp only [smls_length, if_pos (show (i : Int) < s.length by omega), if_pos (show 0 ≤ (i : Int) by omega), bne_self_eq_false, if_neg (show ¬ false = true by decide), wrap_nat hi (show s.length ≤ 140737488355328 by omega)]
    exact ih (i + 1) (by omega)

theorem KindsTells : whorllaw11_KindsTells.Pure := by
  intro s h1 h2 h3
  refine Ev.rounds ?_
  refine Ev.congr (fun k => by rw [whorllaw11_KindsTells.f]) ?_
  by_cases hl : (s.length : Int) > 150
  · simp only [if_pos hl]; exact Ev.now _
  simp only [if_neg hl]
  refine Ev.bind (kinds_Small_ev s (by omega)) ?_
  refine Ev.bind (ref11_Small_ev s (by omega)) ?_
  simp only [if_true]
  exact tells_l0 s (by omega) s.length 0 (by omega)

end Go.Proofs.Ytkcmafocoflcpaa.Pure
