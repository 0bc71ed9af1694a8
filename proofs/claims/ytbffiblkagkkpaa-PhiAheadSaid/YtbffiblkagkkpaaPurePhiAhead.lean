/- PhiAhead: what the statement PhiAhead says of the printed functions, proved for every input that its guards let in. Conditions: none beside the statement's own. -/
import Derived.Test.YtbffiblkagkkpaaPPhiAheadx2
import Derived.Test.YtbffiblkagkkpaaMPhiAhead
set_option linter.unusedVariables false
set_option linter.unusedSimpArgs false
namespace Go.Proofs.Ytbffiblkagkkpaa.Pure
open Go Go.RowKit Go.Proofs.Ytbffiblkagkkpaa.PPhiAhead Go.Proofs.YtbffiblkagkkpaaW.PrintWords Go.Proofs.YtbffiblkagkkpaaW.PrintLast Go.Proofs.Ytbffiblkagkkpaa.MM

-- math: W Base Perm
-- fn: rank_Inverse, rank_Is, whorlref16_Inverse, whorlref16_Is
def invR (a : List Int) : List Int × Bool := if isPerm a then (inv a, true) else ([], false)

theorem not_perm_out {a : List Int} {i : Nat} (hi : i < a.length) (h : a.getD i 0 < 0 ∨ (a.length : Int) ≤ a.getD i 0) : ¬ isPerm a := fun hp => by
  have := hp.1 _ (getD_mem hi)
  omega

theorem not_perm_twice {a : List Int} {i : Nat} (hi : i < a.length) (h : a.getD i 0 ∈ a.take i) : ¬ isPerm a := fun hp => by
  obtain ⟨j, hj, e⟩ := List.mem_iff_getElem.1 h
  rw [List.length_take] at hj
  rw [List.getElem_take] at e
  have e2 : a.getD j 0 = a.getD i 0 := by rw [← e, List.getD_eq_getElem?_getD, List.getElem?_eq_getElem (by omega)]; rfl
  have := getD_inj hp.2 (by omega) hi e2
  omega

theorem perm_full {a : List Int} {i : Nat} (hi : a.length ≤ i) (h1 : ∀ x ∈ a.take i, 0 ≤ x ∧ x < (a.length : Int)) (h2 : (a.take i).Nodup) : isPerm a := by
  rw [List.take_of_length_le hi] at h1 h2
  exact ⟨h1, h2⟩

theorem nodup_next {a : List Int} {i : Nat} (hi : i < a.length) (h2 : (a.take i).Nodup) (h : a.getD i 0 ∉ a.take i) : (a.take (i + 1)).Nodup := by
  rw [take_next hi, List.nodup_append]
  exact ⟨h2, by simp, fun x hx y hy => by rintro rfl; simp only [List.mem_singleton] at hy; subst hy; exact h hx⟩

theorem out_next {a out : List Int} {i : Nat} (hi : i < a.length) (hol : out.length = a.length) (hx0 : 0 ≤ a.getD i 0) (hx1 : a.getD i 0 < a.length) (hn : a.getD i 0 ∉ a.take i)
    (ho : ∀ v, v < a.length → (v : Int) ∈ a.take i → out.getD v 0 = ((a.idxOf (v : Int) : Nat) : Int)) :
    ∀ v, v < a.length → (v : Int) ∈ a.take (i + 1) → (out.set (a.getD i 0).toNat (i : Int)).getD v 0 = ((a.idxOf (v : Int) : Nat) : Int) := by
  intro v hv hm
  rw [lset (by omega)]
  by_cases e : (a.getD i 0).toNat = v
  · rw [if_pos e]
    have e2 : (v : Int) = a.getD i 0 := by omega
    have h1 : a.idxOf (v : Int) = i := by
      have hs : a = a.take i ++ (a.getD i 0 :: a.drop (i + 1)) := by
        conv => lhs; rw [← List.take_append_drop i a]
        rw [List.drop_eq_getElem_cons hi, List.getD_eq_getElem?_getD, List.getElem?_eq_getElem hi]; rfl
      rw [e2]
      conv => lhs; arg 2; rw [hs]
      rw [List.idxOf_append, if_neg hn, List.idxOf_cons_self, List.length_take]
      omega
    rw [h1]
  · rw [if_neg e]
    rw [take_next hi, List.mem_append, List.mem_singleton] at hm
    rcases hm with hm | hm
    · exact ho v hv hm
    · omega

theorem inv_done {a out : List Int} (hp : isPerm a) (hol : out.length = a.length) (ho : ∀ v, v < a.length → (v : Int) ∈ a → out.getD v 0 = ((a.idxOf (v : Int) : Nat) : Int)) : out = inv a := by
  refine ext_getD (by rw [hol, inv_length]) (fun v hv => ?_)
  rw [hol] at hv
  rw [inv_get hv, ho v hv (hp.mem (by omega) (by omega))]

theorem rank_Inverse_l0 (a : List Int) (hn : a.length ≤ 140737488355328) : ∀ (d i : Nat) (out : List Int) (seen : List Bool), i + d = a.length → out.length = a.length → seen.length = a.length →
    (∀ x ∈ a.take i, 0 ≤ x ∧ x < (a.length : Int)) → (a.take i).Nodup → (∀ v, v < a.length → seen.getD v false = decide ((v : Int) ∈ a.take i)) →
    (∀ v, v < a.length → (v : Int) ∈ a.take i → out.getD v 0 = ((a.idxOf (v : Int) : Nat) : Int)) → Ev (fun k => rank_Inverse.l0 k a out seen a (a.length : Int) (i : Int)) (invR a) := by
  intro d
  induction d with
  | zero =>
    intro i out seen hd hol hsl hr hnd hs ho
    have hp := perm_full (i := i) (by omega) hr hnd
    refine Ev.step (fun k => by rw [rank_Inverse.l0]) ?_
    simp only [if_neg (show ¬ (i : Int) < a.length by omega)]
    rw [invR, if_pos hp]
    rw [List.take_of_length_le (by omega)] at ho
    rw [inv_done hp hol ho]
    exact Ev.now _
  | succ d ih =>
    intro i out seen hd hol hsl hr hnd hs ho
    have hi : i < a.length := by omega
    refine Ev.step (fun k => by rw [rank_Inverse.l0]) ?_
    simp only [if_pos (show (i : Int) < a.length by omega), if_pos (show 0 ≤ (i : Int) by omega), rd_nat]
    by_cases h1 : a.getD i 0 < 0
    · simp only [if_pos h1]
      rw [invR, if_neg (not_perm_out hi (.inl h1))]
      exact Ev.now _
    simp only [if_neg h1]
    by_cases h2 : a.getD i 0 ≥ (a.length : Int)
    · simp only [if_pos h2]
      rw [invR, if_neg (not_perm_out hi (.inr h2))]
      exact Ev.now _
    have e : ((a.getD i 0).toNat : Int) = a.getD i 0 := by omega
    have h3 := hs (a.getD i 0).toNat (by omega)
    rw [e] at h3
    simp only [if_neg h2, if_pos (show 0 ≤ a.getD i 0 by omega), if_pos (show a.getD i 0 < (seen.length : Int) by omega), if_pos (show a.getD i 0 < (out.length : Int) by omega), rdOf, h3]
    by_cases h4 : a.getD i 0 ∈ a.take i
    · simp only [h4, decide_true, if_true]
      rw [invR, if_neg (not_perm_twice hi h4)]
      exact Ev.now _
    · simp only [h4, decide_false, if_neg (show ¬ false = true by decide), wrap_nat hi hn]
      refine ih (i + 1) _ _ (by omega) (by rw [List.length_set, hol]) (by rw [List.length_set, hsl]) (fun x hx => ?_) (nodup_next hi hnd h4) (fun v hv => ?_) (out_next hi hol (by omega) (by omega) h4 ho)
      · rw [take_next hi, List.mem_append, List.mem_singleton] at hx
        rcases hx with hx | hx
        · exact hr x hx
        · omega
      · rw [lset (by omega), take_next hi]
        by_cases e2 : (a.getD i 0).toNat = v
        · rw [if_pos e2]; symm; rw [decide_eq_true_eq, List.mem_append, List.mem_singleton]; right; omega
        · rw [if_neg e2, hs v hv]
          have : (v : Int) ≠ a.getD i 0 := by omega
          simp only [List.mem_append, List.mem_singleton, this, or_false]

theorem rank_Inverse_ev (a : List Int) (hn : a.length ≤ 35184372088832) : Ev (fun k => rank_Inverse.f k a) (invR a) := by
  refine Ev.congr (fun k => by rw [rank_Inverse.f]) ?_
  simp only [Int.toNat_natCast]
  simp only [if_pos (show 0 ≤ (a.length : Int) by omega), if_pos hn, if_pos (show a.length ≤ 281474976710656 by omega)]
  refine rank_Inverse_l0 a (by omega) a.length 0 _ _ (by omega) (by simp) (by simp) (by simp) (by simp) (fun v hv => ?_) (by simp)
  rw [getD_replicate]; simp

theorem rank_Is_ev (a : List Int) (hn : a.length ≤ 35184372088832) : Ev (fun k => rank_Is.f k a) (decide (isPerm a)) := by
  refine Ev.congr (fun k => by rw [rank_Is.f]) ?_
  refine Ev.bind (rank_Inverse_ev a hn) ?_
  by_cases h : isPerm a
  · simp only [invR, h, if_true, decide_true]; exact Ev.now _
  · simp only [invR, h, if_false, decide_false]; exact Ev.now _

-- the document's
theorem ref16_l1 (a : List Int) (hn : a.length ≤ 140737488355328) : ∀ (d i : Nat) (out : List Int), i + d = a.length → out.length = a.length →
    (∀ x ∈ a.take i, 0 ≤ x ∧ x < (a.length : Int)) → (a.take i).Nodup → (∀ v, v < a.length → (v : Int) ∉ a.take i → out.getD v 0 = -1) →
    (∀ v, v < a.length → (v : Int) ∈ a.take i → out.getD v 0 = ((a.idxOf (v : Int) : Nat) : Int)) → Ev (fun k => whorlref16_Inverse.l1 k a out (i : Int)) (invR a) := by
  intro d
  induction d with
  | zero =>
    intro i out hd hol hr hnd hs ho
    have hp := perm_full (i := i) (by omega) hr hnd
    refine Ev.step (fun k => by rw [whorlref16_Inverse.l1]) ?_
    simp only [if_neg (show ¬ (i : Int) < a.length by omega)]
    rw [invR, if_pos hp]
    rw [List.take_of_length_le (by omega)] at ho
    rw [inv_done hp hol ho]
    exact Ev.now _
  | succ d ih =>
    intro i out hd hol hr hnd hs ho
    have hi : i < a.length := by omega
    refine Ev.step (fun k => by rw [whorlref16_Inverse.l1]) ?_
    simp only [if_pos (show (i : Int) < a.length by omega), if_pos (show 0 ≤ (i : Int) by omega), rd_nat]
    by_cases h1 : a.getD i 0 < 0
    · simp only [if_pos h1]
      rw [invR, if_neg (not_perm_out hi (.inl h1))]
      exact Ev.now _
    simp only [if_neg h1]
    by_cases h2 : a.getD i 0 ≥ (a.length : Int)
    · simp only [if_pos h2]
      rw [invR, if_neg (not_perm_out hi (.inr h2))]
      exact Ev.now _
    have e : ((a.getD i 0).toNat : Int) = a.getD i 0 := by omega
    have h3 := hs (a.getD i 0).toNat (by omega)
    have h5 := ho (a.getD i 0).toNat (by omega)
    rw [e] at h3 h5
    simp only [if_neg h2, if_pos (show 0 ≤ a.getD i 0 by omega), if_pos (show a.getD i 0 < (out.length : Int) by omega), rd]
    by_cases h4 : a.getD i 0 ∈ a.take i
    · simp only [h5 h4, if_pos (show ((a.idxOf (a.getD i 0) : Nat) : Int) ≥ 0 by omega)]
      rw [invR, if_neg (not_perm_twice hi h4)]
      exact Ev.now _
    · simp only [h3 h4, if_neg (show ¬ (-1 : Int) ≥ 0 by decide), wrap_nat hi hn]
      refine ih (i + 1) _ (by omega) (by rw [List.length_set, hol]) (fun x hx => ?_) (nodup_next hi hnd h4) (fun v hv hm => ?_) (out_next hi hol (by omega) (by omega) h4 ho)
      · rw [take_next hi, List.mem_append, List.mem_singleton] at hx
        rcases hx with hx | hx
        · exact hr x hx
        · omega
      · rw [take_next hi, List.mem_append, List.mem_singleton, not_or] at hm
        rw [lset_ne (by omega)]
        exact hs v hv hm.1

theorem ref16_l0 (a : List Int) (hn : a.length ≤ 140737488355328) : ∀ (d i : Nat) (out : List Int), i + d = a.length → out.length = a.length → (∀ v, v < i → out.getD v 0 = -1) →
    Ev (fun k => whorlref16_Inverse.l0 k a out (i : Int)) (invR a) := by
  intro d
  induction d with
  | zero =>
    intro i out hd hol ho
    refine Ev.step (fun k => by rw [whorlref16_Inverse.l0]) ?_
    simp only [if_neg (show ¬ (i : Int) < a.length by omega)]
    exact ref16_l1 a hn a.length 0 out (by omega) hol (by simp) (by simp) (fun v hv _ => ho v (by omega)) (by simp)
  | succ d ih =>
    intro i out hd hol ho
    have hi : i < a.length := by omega
    refine Ev.step (fun k => by rw [whorlref16_Inverse.l0]) ?_
    simp only [if_pos (show (i : Int) < a.length by omega), if_pos (show 0 ≤ (i : Int) by omega), if_pos (show (i : Int) < out.length by omega), wrap_nat hi hn, Int.toNat_natCast]
    refine ih (i + 1) _ (by omega) (by rw [List.length_set, hol]) (fun v hv => ?_)
    rw [lset (by omega)]
    by_cases e : i = v
    · rw [if_pos e]
    · rw [if_neg e]; exact ho v (by omega)

theorem ref16_Inverse_ev (a : List Int) (hn : a.length ≤ 35184372088832) : Ev (fun k => whorlref16_Inverse.f k a) (invR a) := by
  refine Ev.congr (fun k => by rw [whorlref16_Inverse.f]) ?_
  simp only [Int.toNat_natCast]
  simp only [if_pos (show 0 ≤ (a.length : Int) by omega), if_pos hn]
  exact ref16_l0 a (by omega) a.length 0 _ (by omega) (by simp) (fun v hv => by omega)

-- math: W Base Perm SA Kinds Lcp
-- with: rank
def ahdR (a : List Int) : List Int × Bool := if isPerm a then (ahdRow a, true) else ([], false)

theorem phi_Ahead_l0 (a : List Int) (hn : a.length ≤ 140737488355328) (hp : isPerm a) : ∀ (d i : Nat) (out : List Int) (last : Int), i + d = a.length → out.length = a.length → (last = if i = 0 then -1 else a.getD (i - 1) 0) →
    (∀ j, j < i → out.getD (a.getD j 0).toNat 0 = ahd a (a.getD j 0).toNat) → Ev (fun k => phi_Ahead.l0 k out last a (a.length : Int) (i : Int)) (ahdRow a, true) := by
  intro d
  induction d with
  | zero =>
    intro i out last hd hl hlast h
    refine Ev.step (fun k => by rw [phi_Ahead.l0]) ?_
    simp only [if_neg (show ¬ (i : Int) < a.length by omega)]
    have e : out = ahdRow a := ext_getD (by rw [hl, ahdRow_length]) (fun v hv => by
      rw [hl] at hv
      rw [ahdRow_get hv]
      have h2 := at_inv hp hv
      have := h ((inv a).getD v 0).toNat (by omega)
      rw [h2.1] at this
      simpa using this)
    rw [e]; exact Ev.now _
  | succ d ih =>
    intro i out last hd hl hlast h
    have hi : i < a.length := by omega
    have hm := hp.1 _ (getD_mem hi)
    refine Ev.step (fun k => by rw [phi_Ahead.l0]) ?_
    simp only [if_pos (show (i : Int) < a.length by omega), if_pos (show 0 ≤ (i : Int) by omega), rd_nat, if_pos hm.1, if_pos (show a.getD i 0 < out.length by omega), wrap_nat hi hn]
    refine ih (i + 1) _ _ (by omega) (by rw [List.length_set, hl]) (by rw [if_neg (by omega)]; simp) (fun j hj => ?_)
    rw [lset (by omega)]
    by_cases e : j = i
    · rw [e, if_pos rfl, hlast, ahd_at hp hi]
    · have hj' := hp.1 _ (getD_mem (show j < a.length by omega))
      rw [if_neg (fun e2 => e (getD_inj hp.2 (by omega) hi (by omega)))]
      exact h j (by omega)

theorem phi_Ahead_ev (a : List Int) (hn : a.length ≤ 35184372088832) : Ev (fun k => phi_Ahead.f k a) (ahdR a) := by
  refine Ev.congr (fun k => by rw [phi_Ahead.f]) ?_
  refine Ev.bind (rank_Is_ev a hn) ?_
  by_cases hp : isPerm a
  · simp only [hp, decide_true, if_true, Int.toNat_natCast]
    simp only [if_pos (show 0 ≤ (a.length : Int) by omega), if_pos hn]
    rw [ahdR, if_pos hp]
    exact phi_Ahead_l0 a (by omega) hp a.length 0 _ (-1) (by omega) (by simp) rfl (fun j hj => by omega)
  · simp only [hp, decide_false, if_neg (show ¬ false = true by decide)]
    rw [ahdR, if_neg hp]
    exact Ev.now _


-- math: W Base Perm
theorem ref4_Ints_l0 (a b : List Int) (hl : a.length = b.length) (hn : a.length ≤ 140737488355328) : ∀ (d i : Nat), i + d = a.length → (∀ j, j < i → a.getD j 0 = b.getD j 0) → Ev (fun k => whorlref4_Ints.l0 k a b (i : Int)) (decide (a = b)) := by
  intro d
  induction d with
  | zero =>
    intro i hd h
    refine Ev.step (fun k => by rw [whorlref4_Ints.l0]) ?_
    simp only [if_neg (show ¬ (i : Int) < a.length by omega)]
    rw [decide_eq_true (ext_getD hl (fun j hj => h j (by omega)))]
    exact Ev.now _
  | succ d ih =>
    intro i hd h
    have hi : i < a.length := by omega
    refine Ev.step (fun k => by rw [whorlref4_Ints.l0]) ?_
    simp only [if_pos (show (i : Int) < a.length by omega), if_pos (show 0 ≤ (i : Int) by omega), if_pos (show (i : Int) < b.length by omega), rd_nat, wrap_nat hi hn]
    by_cases e : a.getD i 0 = b.getD i 0
    · simp only [if_pos e]
      refine ih (i + 1) (by omega) (fun j hj => ?_)
      by_cases e2 : j = i
      · rw [e2]; exact e
      · exact h j (by omega)
    · simp only [if_neg e]
      rw [decide_eq_false (fun hab => e (by rw [hab]))]
      exact Ev.now _

theorem ref4_Ints_ev (a b : List Int) (hn : a.length ≤ 140737488355328) : Ev (fun k => whorlref4_Ints.f k a b) (decide (a = b)) := by
  refine Ev.congr (fun k => by rw [whorlref4_Ints.f]) ?_
  by_cases e : a.length = b.length
  · simp only [if_pos (show (a.length : Int) = b.length by omega)]
    exact ref4_Ints_l0 a b e hn a.length 0 (by omega) (fun j hj => by omega)
  · simp only [if_neg (show ¬ (a.length : Int) = b.length by omega)]
    rw [decide_eq_false (fun hab => e (by rw [hab]))]
    exact Ev.now _

-- with: phi_Ahead ref4_Ints
theorem known_ev : Ev (fun k => whorllaw18_known.f k) true := by
  refine Ev.congr (fun k => by rw [whorllaw18_known.f]) ?_
  refine Ev.bind (phi_Ahead_ev _ (by decide)) ?_
  have e : ahdR [2, 0, 1] = ([2, 0, -1], true) := by decide
  simp only [e, if_true]
  refine Ev.bind (ref4_Ints_ev _ _ (by decide)) ?_
  exact Ev.now _


-- with: rank
theorem ref16_Is_ev (a : List Int) (hn : a.length ≤ 35184372088832) : Ev (fun k => whorlref16_Is.f k a) (decide (isPerm a)) := by
  refine Ev.congr (fun k => by rw [whorlref16_Is.f]) ?_
  refine Ev.bind (ref16_Inverse_ev a hn) ?_
  by_cases h : isPerm a
  · simp only [invR, h, if_true, decide_true]; exact Ev.now _
  · simp only [invR, h, if_false, decide_false]; exact Ev.now _


-- fn: known18 ref16_Is
theorem ahead_l0 (a : List Int) (hn : a.length ≤ 140737488355328) (hp : isPerm a) : ∀ (d i : Nat), a.length ≤ i + d → 0 < i → Ev (fun k => whorllaw18_PhiAhead.l0 k a (ahdRow a) (i : Int)) true := by
  have fin : ∀ i : Nat, a.length ≤ i → Ev (fun k => whorllaw18_PhiAhead.l0 k a (ahdRow a) (i : Int)) true := by
    intro i hi
    refine Ev.step (fun k => by rw [whorllaw18_PhiAhead.l0]) ?_
    simp only [if_neg (show ¬ (i : Int) < a.length by omega)]
    by_cases h0 : (a.length : Int) = 0
    · simp only [if_pos h0]
      exact Ev.bind known_ev (Ev.now _)
    · have hm := hp.1 _ (getD_mem (show 0 < a.length by omega))
      have e : rd a 0 = a.getD 0 0 := rd_nat a 0
      have h2 := ahd_at hp (show 0 < a.length by omega)
      rw [if_pos rfl] at h2
      have h3 : rd (ahdRow a) (a.getD 0 0) = -1 := by
        have h4 := ahdRow_get (a := a) (v := (a.getD 0 0).toNat) (by omega)
        unfold rd
        rw [h4, h2]
      simp only [if_neg h0, if_pos (show 0 < (a.length : Int) by omega), e, if_pos hm.1, ahdRow_length, if_pos hm.2, h3, if_true]
      exact Ev.bind known_ev (Ev.now _)
  intro d
  induction d with
  | zero => intro i hd h0; exact fin i (by omega)
  | succ d ih =>
    intro i hd h0
    by_cases hi : i < a.length
    · have hm := hp.1 _ (getD_mem hi)
      have h2 := ahd_at hp hi
      rw [if_neg (by omega)] at h2
      have h3 : rd (ahdRow a) (a.getD i 0) = a.getD (i - 1) 0 := by
        have h4 := ahdRow_get (a := a) (v := (a.getD i 0).toNat) (by omega)
        unfold rd
        rw [h4, h2]
      refine Ev.step (fun k => by rw [whorllaw18_PhiAhead.l0]) ?_
      have w : wrap64 ((i : Int) - 1) = ((i - 1 : Nat) : Int) := by rw [wrap64_id (by omega) (by omega)]; omega
      simp only [w, rd_nat]
      clear w
      simp only [if_pos (show (i : Int) < a.length by omega), if_pos (show 0 ≤ (i : Int) by omega), if_pos hm.1, ahdRow_length, if_pos hm.2, if_pos (show (0 : Int) ≤ ((i - 1 : Nat) : Int) by omega), if_pos (show ((i - 1 : Nat) : Int) < a.length by omega), h3, if_true, wrap_nat hi hn]
      exact ih (i + 1) (by omega) (by omega)
    · exact fin i (by omega)

theorem PhiAhead : whorllaw18_PhiAhead.Pure := by
  intro a h1 h2 h3
  refine Ev.rounds ?_
  have hg : Ev (fun k => whorllaw18_PhiAhead.j0 k a true) true := Ev.step (fun k => by rw [whorllaw18_PhiAhead.j0]) (by simp only [if_true]; exact Ev.now _)
  refine Ev.congr (fun k => by rw [whorllaw18_PhiAhead.f]) ?_
  by_cases hl : (a.length : Int) > 200
  · simp only [if_pos hl]; exact hg
  simp only [if_neg hl]
  refine Ev.bind (ref16_Is_ev a (by omega)) ?_
  by_cases hp : isPerm a
  · simp only [hp, decide_true, Bool.not_true]
    refine Ev.step (fun k => by rw [whorllaw18_PhiAhead.j0]) ?_
    simp only [if_neg (show ¬ false = true by decide)]
    refine Ev.bind (phi_Ahead_ev a (by omega)) ?_
    simp only [ahdR, if_pos hp, if_true, ahdRow_length, bne_self_eq_false]
    refine Ev.step (fun k => by rw [whorllaw18_PhiAhead.j1]) ?_
    simp only [if_neg (show ¬ false = true by decide)]
    exact ahead_l0 a (by omega) hp a.length 1 (by omega) (by omega)
  · simp only [hp, decide_false, Bool.not_false]
    exact hg

end Go.Proofs.Ytbffiblkagkkpaa.Pure
