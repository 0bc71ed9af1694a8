/- KindsEnds: what the statement KindsEnds says of the printed functions, proved for every input that its guards let in. Conditions: none beside the statement's own. -/
import Derived.Test.YtkcmafocoflcpaaPKindsEndsx3
import Derived.Test.YtkcmafocoflcpaaMKindsEnds
set_option linter.unusedVariables false
set_option linter.unusedSimpArgs false
namespace Go.Proofs.Ytkcmafocoflcpaa.Pure
open Go Go.RowKit Go.Proofs.Ytkcmafocoflcpaa.PKindsEnds Go.Proofs.YtkcmafocoflcpaaW.PrintWords Go.Proofs.YtkcmafocoflcpaaW.PrintLast Go.Proofs.Ytkcmafocoflcpaa.MM

-- math: W Base Perm SA Kinds
theorem kinds_Small_l0 (s : List Int) (hn : s.length ≤ 140737488355328) : ∀ (d : Nat) (l : List Bool), l.length = s.length → d + 1 ≤ s.length → (∀ j, d ≤ j → j < s.length → l.getD j false = sml s j) →
    Ev (fun k => kinds_Small.l0 k s l ((d : Int) - 1)) (smls s) := by
  intro d
  induction d with
  | zero =>
    intro l hl hd h
    refine Ev.step (fun k => by rw [kinds_Small.l0]) ?_
    simp only [if_neg (show ¬ ((0 : Nat) : Int) - 1 ≥ 0 by omega)]
    rw [extB (a := l) (b := smls s) (by rw [hl, smls_length]) (fun i hi => by rw [smls_get (by omega)]; exact h i (by omega) (by omega))]
    exact Ev.now _
  | succ d ih =>
    intro l hl hd h
    refine Ev.step (fun k => by rw [kinds_Small.l0]) ?_
    have e : ((d + 1 : Nat) : Int) - 1 = (d : Int) := by omega
    have w1 : wrap64 ((d : Int) + 1) = ((d + 1 : Nat) : Int) := wrap_nat (n := d + 1) (by omega) (by omega)
    have w2 : wrap64 ((d : Int) - 1) = (d : Int) - 1 := wrap64_id (by omega) (by omega)
    simp only [e, w1, w2, rd_nat, rdB_nat, Int.toNat_natCast]
    simp only [if_pos (show (d : Int) ≥ 0 by omega), if_pos (show 0 ≤ (d : Int) by omega), if_pos (show (d : Int) < s.length by omega), if_pos (show (0 : Int) ≤ ((d + 1 : Nat) : Int) by omega), if_pos (show ((d + 1 : Nat) : Int) < s.length by omega),
      if_pos (show (d : Int) < l.length by omega), if_pos (show ((d + 1 : Nat) : Int) < l.length by omega)]
    have hs := sml_step (s := s) (i := d) (by omega)
    have key : ∀ b : Bool, b = sml s d → Ev (fun k => kinds_Small.l0 k s (l.set d b) ((d : Int) - 1)) (smls s) := fun b hb => by
      refine ih _ (by rw [List.length_set, hl]) (by omega) (fun j hj1 hj2 => ?_)
      rw [lset (by omega)]
      by_cases e2 : d = j
      · rw [if_pos e2, hb, e2]
      · rw [if_neg e2]; exact h j (by omega) hj2
    by_cases h1 : s.getD d 0 < s.getD (d + 1) 0
    · simp only [if_pos h1]
      exact key _ (by rw [hs]; simp only [h1, decide_true, Bool.true_or])
    · by_cases h2 : s.getD d 0 = s.getD (d + 1) 0
      · simp only [if_neg h1, if_pos h2]
        exact key _ (by rw [hs, h (d + 1) (by omega) (by omega)]; simp only [h1, h2, decide_true, decide_false, Bool.false_or, Bool.true_and]; simp)
      · simp only [if_neg h1, if_neg h2]
        exact key _ (by rw [hs]; simp only [h1, h2, decide_false, Bool.false_and, Bool.or_self])

theorem kinds_Small_ev (s : List Int) (hn : s.length ≤ 140737488355328) : Ev (fun k => kinds_Small.f k s) (smls s) := by
  refine Ev.congr (fun k => by rw [kinds_Small.f]) ?_
  simp only [Int.toNat_natCast]
  simp only [if_pos (show 0 ≤ (s.length : Int) by omega), if_pos (show s.length ≤ 281474976710656 by omega)]
  rw [wrap64_id (by omega) (by omega)]
  by_cases h0 : s.length = 0
  · refine Ev.step (fun k => by rw [kinds_Small.l0]) ?_
    simp only [if_neg (show ¬ (s.length : Int) - 2 ≥ 0 by omega), h0]
    have : s = [] := List.eq_nil_of_length_eq_zero h0
    subst this
    exact Ev.now _
  · have e : (s.length : Int) - 2 = ((s.length - 1 : Nat) : Int) - 1 := by omega
    rw [e]
    refine kinds_Small_l0 s hn (s.length - 1) _ (by simp) (by omega) (fun j h1 h2 => ?_)
    rw [getD_replicate, sml_last (by omega)]

theorem kinds_First_l0 (s : List Int) (hn : s.length ≤ 140737488355328) : ∀ (d i : Nat) (acc : List Int), i + d = s.length → acc = frs s i → s.length ≤ 17592186044416 →
    Ev (fun k => kinds_First.l0 k acc (smls s) (s.length : Int) (i : Int)) (frs s s.length) := by
  intro d
  induction d with
  | zero =>
    intro i acc hd ha hm
    obtain rfl : i = s.length := by omega
    subst ha
    refine Ev.step (fun k => by rw [kinds_First.l0]) ?_
    simp only [if_neg (show ¬ (s.length : Int) < s.length by omega)]
    exact Ev.now _
  | succ d ih =>
    intro i acc hd ha hm
    have hi : i < s.length := by omega
    refine Ev.step (fun k => by rw [kinds_First.l0]) ?_
    have hl := frs_len s i
    rw [← ha] at hl
    simp only [if_pos (show (i : Int) < s.length by omega), if_pos (show 0 ≤ (i : Int) by omega), wrap_nat hi hn, smls_length, rdB_nat, smls_get hi]
    have key : ∀ acc' : List Int, acc' = acc ++ (if isFr s i = true then [(i : Int)] else []) → Ev (fun k => kinds_First.l0 k acc' (smls s) (s.length : Int) ((i + 1 : Nat) : Int)) (frs s s.length) := fun acc' h => ih (i + 1) acc' (by omega) (by rw [h, ha, frs_succ]) hm
    by_cases h0 : 0 < i
    · have w : wrap64 ((i : Int) - 1) = ((i - 1 : Nat) : Int) := by rw [wrap64_id (by omega) (by omega)]; omega
      simp only [if_pos (show (i : Int) > 0 by omega), w, rdB_nat, smls_get (show i - 1 < s.length by omega)]
      simp only [if_pos (show (0 : Int) ≤ ((i - 1 : Nat) : Int) by omega), if_pos (show ((i - 1 : Nat) : Int) < s.length by omega)]
      by_cases h1 : sml s i = true
      · simp only [h1, if_true]
        by_cases h2 : sml s (i - 1) = true
        · simp only [h2, if_true]
          exact key _ (by simp [isFr, h2])
        · have h2' : sml s (i - 1) = false := by simpa using h2
          simp only [h2', if_neg (show ¬ false = true by decide), if_pos (show acc.length < 17592186044416 by omega)]
          exact key _ (by simp [isFr, h0, h1, h2'])
      · have h1' : sml s i = false := by simpa using h1
        simp only [h1', if_neg (show ¬ false = true by decide)]
        exact key _ (by simp [isFr, h1'])
    · simp only [if_neg (show ¬ (i : Int) > 0 by omega)]
      exact key _ (by simp [isFr, h0])

theorem kinds_First_ev (s : List Int) (hn : s.length ≤ 17592186044416) : Ev (fun k => kinds_First.f k s) (frs s s.length) := by
  refine Ev.congr (fun k => by rw [kinds_First.f]) ?_
  refine Ev.bind (kinds_Small_ev s (by omega)) ?_
  exact kinds_First_l0 s (by omega) s.length 0 [] (by omega) (by simp [frs]) hn


-- math: W Base Perm
theorem ref4_Ints_l0 (a b : List Int) (hl : a.length = b.length) (hn : a.length ≤ 140737488355328) : ∀ (d i : Nat), i + d = a.length → (∀ j, j < i → a.getD j 0 = b.getD j 0) → Ev (fun k => whorlref4_Ints.l0 k a b (i : Int)) (decide (a = b)) := by
  intro d
  induction d with
  | zero =>
    intro i hd h
    refine Ev.step (fun k => by rw [whorlref4_Ints.l0]) ?_
    simp only [if_neg (show ¬ (i : Int) < a.length by omega)]
    rw [decide_eq_true (ext_getD hl (fun j hj => h j (by omega)))]
    exact Ev.now _
  | succ d ih =>
    intro i hd h
    have hi : i < a.length := by omega
    refine Ev.step (fun k => by rw [whorlref4_Ints.l0]) ?_
    simp only [if_pos (show (i : Int) < a.length by omega), if_pos (show 0 ≤ (i : Int) by omega), if_pos (show (i : Int) < b.length by omega), rd_nat, wrap_nat hi hn]
    by_cases e : a.getD i 0 = b.getD i 0
    · simp only [if_pos e]
      refine ih (i + 1) (by omega) (fun j hj => ?_)
      by_cases e2 : j = i
      · rw [e2]; exact e
      · exact h j (by omega)
    · simp only [if_neg e]
      rw [decide_eq_false (fun hab => e (by rw [hab]))]
      exact Ev.now _

theorem ref4_Ints_ev (a b : List Int) (hn : a.length ≤ 140737488355328) : Ev (fun k => whorlref4_Ints.f k a b) (decide (a = b)) := by
  refine Ev.congr (fun k => by rw [whorlref4_Ints.f]) ?_
  by_cases e : a.length = b.length
  · simp only [if_pos (show (a.length : Int) = b.length by omega)]
    exact ref4_Ints_l0 a b e hn a.length 0 (by omega) (fun j hj => by omega)
  · simp only [if_neg (show ¬ (a.length : Int) = b.length by omega)]
    rw [decide_eq_false (fun hab => e (by rw [hab]))]
    exact Ev.now _

-- with: kinds ref4_Ints
theorem known_ev : Ev (fun k => whorllaw11_known.f k) true := by
  refine Ev.congr (fun k => by rw [whorllaw11_known.f]) ?_
  refine Ev.bind (kinds_First_ev _ (by decide)) ?_
  refine Ev.bind (ref4_Ints_ev _ _ (Nat.le_trans (frs_len _ _) (by decide))) ?_
  have e : decide (frs [1, 0, 0, 2, 1] ([1, 0, 0, 2, 1] : List Int).length = [1]) = true := by decide
  simp only [e, if_true]
  refine Ev.bind (kinds_Small_ev _ (by decide)) ?_
  simp only [smls_length]
  exact Ev.now _


-- fn: known11
/-- the numbers -/
def endsRow (n : Nat) (from_ : Int) (up : Bool) : List Int := (List.range n).map (fun (i : Nat) => if up = true then from_ + i else from_ - i)

theorem endsRow_length (n : Nat) (f : Int) (up : Bool) : (endsRow n f up).length = n := by simp [endsRow]

theorem endsRow_get {n i : Nat} (h : i < n) (f : Int) (up : Bool) : (endsRow n f up).getD i 0 = if up = true then f + i else f - i := by
  unfold endsRow
  rw [List.getD_eq_getElem?_getD, List.getElem?_map, List.getElem?_range h]; rfl

theorem endsRow_small {n : Nat} (f : Int) (up : Bool) : ∀ i, i + 1 < (endsRow n f up).length → sml (endsRow n f up) i = up := by
  intro i hi
  have h : ∀ j, j < (endsRow n f up).length → (endsRow n f up).getD j 0 = if up = true then f + j else f - j := fun j hj => endsRow_get (by rwa [endsRow_length] at hj) f up
  cases up with
  | true => exact sml_rises (fun j hj => by rw [h j (by omega), h (j + 1) hj]; simp only [if_true]; omega) hi
  | false => exact sml_falls (fun j hj => by rw [h j (by omega), h (j + 1) hj]; simp only [if_neg (show ¬ false = true by decide)]; omega) hi

theorem ends_l1 (n : Nat) (hn : n ≤ 100) (f : Int) (up : Bool) : ∀ (d i : Nat), i + d = n → Ev (fun k => whorllaw11_KindsEnds.l1 k (n : Int) up (endsRow n f up) (smls (endsRow n f up)) (i : Int)) true := by
  intro d
  have hL := endsRow_length n f up
  induction d with
  | zero =>
    intro i hd
    refine Ev.step (fun k => by rw [whorllaw11_KindsEnds.l1]) ?_
    rw [wrap64_id (x := (i : Int) + 1) (by omega) (by omega)]
    simp only [if_neg (show ¬ (i : Int) + 1 < n by omega)]
    refine Ev.bind (kinds_First_ev _ (by omega)) ?_
    rw [frs_none (endsRow_small f up)]
    simp only [List.length_nil, if_pos (show ((0 : Nat) : Int) = 0 by rfl)]
    exact Ev.bind known_ev (Ev.now _)
  | succ d ih =>
    intro i hd
    refine Ev.step (fun k => by rw [whorllaw11_KindsEnds.l1]) ?_
    rw [wrap64_id (x := (i : Int) + 1) (by omega) (by omega)]
    by_cases h1 : i + 1 < n
    · simp only [if_pos (show (i : Int) + 1 < n by omega), if_pos (show 0 ≤ (i : Int) by omega), smls_length, hL, if_pos (show (i : Int) < n by omega), rdB_nat, smls_get (show i < (endsRow n f up).length by omega)]
      rw [endsRow_small f up i (by omega)]
      simp only [bne_self_eq_false, if_neg (show ¬ false = true by decide)]
      exact ih (i + 1) (by omega)
    · simp only [if_neg (show ¬ (i : Int) + 1 < n by omega)]
      refine Ev.bind (kinds_First_ev _ (by omega)) ?_
      rw [frs_none (endsRow_small f up)]
      simp only [List.length_nil, if_pos (show ((0 : Nat) : Int) = 0 by rfl)]
      exact Ev.bind known_ev (Ev.now _)

theorem ends_l0 (n : Nat) (h0 : 0 < n) (hn : n ≤ 100) (f : Int) (hf1 : -1099511627776 ≤ f) (hf2 : f ≤ 1099511627776) (up : Bool) : ∀ (d i : Nat) (acc : List Int), i + d = n → acc = endsRow i f up → Ev (fun k => whorllaw11_KindsEnds.l0 k (n : Int) f up acc (i : Int)) true := by
  intro d
  induction d with
  | zero =>
    intro i acc hd ha
    obtain rfl : i = n := by omega
    subst ha
    have hL := endsRow_length i f up
    refine Ev.step (fun k => by rw [whorllaw11_KindsEnds.l0]) ?_
    simp only [if_neg (show ¬ (i : Int) < i by omega)]
    refine Ev.bind (kinds_Small_ev _ (by omega)) ?_
    have w : wrap64 ((i : Int) - 1) = ((i - 1 : Nat) : Int) := by rw [wrap64_id (by omega) (by omega)]; omega
    simp only [smls_length, hL, if_true, w, rdB_nat, if_pos (show (0 : Int) ≤ ((i - 1 : Nat) : Int) by omega), if_pos (show ((i - 1 : Nat) : Int) < i by omega), smls_get (show i - 1 < (endsRow i f up).length by omega), sml_last (show (endsRow i f up).length ≤ i - 1 + 1 by omega)]
    refine Ev.step (fun k => by rw [whorllaw11_KindsEnds.j2]) ?_
    simp only [if_neg (show ¬ false = true by decide)]
    exact ends_l1 i hn f up i 0 (by omega)
  | succ d ih =>
    intro i acc hd ha
    refine Ev.step (fun k => by rw [whorllaw11_KindsEnds.l0]) ?_
    have hl : acc.length = i := by rw [ha, endsRow_length]
    have w1 : wrap64 (f + i) = f + i := wrap64_id (by omega) (by omega)
    have w2 : wrap64 (f - i) = f - i := wrap64_id (by omega) (by omega)
    have e : endsRow (i + 1) f up = acc ++ [if up = true then f + i else f - i] := by
      rw [ha]; unfold endsRow; rw [List.range_succ, List.map_append]; rfl
    simp only [if_pos (show (i : Int) < n by omega), wrap_nat (show i < 100 by omega) (by decide), w1, w2, if_pos (show acc.length < 17592186044416 by omega)]
    have := ih (i + 1) _ (by omega) e.symm
    cases up with
    | true => simp only [if_true] at this ⊢; exact this
    | false => simp only [if_neg (show ¬ false = true by decide)] at this ⊢; exact this

theorem KindsEnds : whorllaw11_KindsEnds.Pure := by
  intro n f up h1 h2
  refine Ev.rounds ?_
  have hg : Ev (fun k => whorllaw11_KindsEnds.j0 k n f up true) true := Ev.step (fun k => by rw [whorllaw11_KindsEnds.j0]) (by simp only [if_true]; exact Ev.now _)
  refine Ev.congr (fun k => by rw [whorllaw11_KindsEnds.f]) ?_
  by_cases g1 : n < 1
  · simp only [if_pos g1]; exact hg
  by_cases g2 : n > 100
  · simp only [if_neg g1, if_pos g2]; exact hg
  by_cases g3 : f < -1099511627776
  · simp only [if_neg g1, if_neg g2, if_pos g3]; exact hg
  by_cases g4 : f > 1099511627776
  · simp only [if_neg g1, if_neg g2, if_neg g3, g4, decide_true]; exact hg
  simp only [if_neg g1, if_neg g2, if_neg g3, g4, decide_false]
  refine Ev.step (fun k => by rw [whorllaw11_KindsEnds.j0]) ?_
  simp only [if_neg (show ¬ false = true by decide)]
  obtain ⟨m, rfl⟩ : ∃ m : Nat, n = m := ⟨n.toNat, by omega⟩
  exact ends_l0 m (by omega) (by omega) f (by omega) (by omega) up m 0 [] (by omega) (by simp [endsRow])

end Go.Proofs.Ytkcmafocoflcpaa.Pure
