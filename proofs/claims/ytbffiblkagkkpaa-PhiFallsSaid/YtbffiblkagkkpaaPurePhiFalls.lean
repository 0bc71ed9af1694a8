/- PhiFalls: what the statement PhiFalls says of the printed functions, proved for every input that its guards let in. Conditions: none beside the statement's own. -/
import Derived.Test.YtbffiblkagkkpaaHPhiFallsx5
import Derived.Test.YtbffiblkagkkpaaMPhiFalls
set_option linter.unusedVariables false
set_option linter.unusedSimpArgs false
namespace Go.Proofs.Ytbffiblkagkkpaa.Pure
open Go Go.RowKit Go.Proofs.Ytbffiblkagkkpaa.PPhiFalls Go.Proofs.YtbffiblkagkkpaaW.PrintWords Go.Proofs.YtbffiblkagkkpaaW.PrintLast Go.Proofs.Ytbffiblkagkkpaa.MM

-- math: W Base Perm
def invR (a : List Int) : List Int × Bool := if isPerm a then (inv a, true) else ([], false)

theorem not_perm_out {a : List Int} {i : Nat} (hi : i < a.length) (h : a.getD i 0 < 0 ∨ (a.length : Int) ≤ a.getD i 0) : ¬ isPerm a := fun hp => by
  have := hp.1 _ (getD_mem hi)
  omega

theorem not_perm_twice {a : List Int} {i : Nat} (hi : i < a.length) (h : a.getD i 0 ∈ a.take i) : ¬ isPerm a := fun hp => by
  obtain ⟨j, hj, e⟩ := List.mem_iff_getElem.1 h
  rw [List.length_take] at hj
  rw [List.getElem_take] at e
  have e2 : a.getD j 0 = a.getD i 0 := by rw [← e, List.getD_eq_getElem?_getD, List.getElem?_eq_getElem (by omega)]; rfl
  have := getD_inj hp.2 (by omega) hi e2
  omega

theorem perm_full {a : List Int} {i : Nat} (hi : a.length ≤ i) (h1 : ∀ x ∈ a.take i, 0 ≤ x ∧ x < (a.length : Int)) (h2 : (a.take i).Nodup) : isPerm a := by
  rw [List.take_of_length_le hi] at h1 h2
  exact ⟨h1, h2⟩

theorem nodup_next {a : List Int} {i : Nat} (hi : i < a.length) (h2 : (a.take i).Nodup) (h : a.getD i 0 ∉ a.take i) : (a.take (i + 1)).Nodup := by
  rw [take_next hi, List.nodup_append]
  exact ⟨h2, by simp, fun x hx y hy => by rintro rfl; simp only [List.mem_singleton] at hy; subst hy; exact h hx⟩

theorem out_next {a out : List Int} {i : Nat} (hi : i < a.length) (hol : out.length = a.length) (hx0 : 0 ≤ a.getD i 0) (hx1 : a.getD i 0 < a.length) (hn : a.getD i 0 ∉ a.take i)
    (ho : ∀ v, v < a.length → (v : Int) ∈ a.take i → out.getD v 0 = ((a.idxOf (v : Int) : Nat) : Int)) :
    ∀ v, v < a.length → (v : Int) ∈ a.take (i + 1) → (out.set (a.getD i 0).toNat (i : Int)).getD v 0 = ((a.idxOf (v : Int) : Nat) : Int) := by
  intro v hv hm
  rw [lset (by omega)]
  by_cases e : (a.getD i 0).toNat = v
  · rw [if_pos e]
    have e2 : (v : Int) = a.getD i 0 := by omega
    have h1 : a.idxOf (v : Int) = i := by
      have hs : a = a.take i ++ (a.getD i 0 :: a.drop (i + 1)) := by
        conv => lhs; rw [← List.take_append_drop i a]
        rw [List.drop_eq_getElem_cons hi, List.getD_eq_getElem?_getD, List.getElem?_eq_getElem hi]; rfl
      rw [e2]
      conv => lhs; arg 2; rw [hs]
      rw [List.idxOf_append, if_neg hn, List.idxOf_cons_self, List.length_take]
      omega
    rw [h1]
  · rw [if_neg e]
    rw [take_next hi, List.mem_append, List.mem_singleton] at hm
    rcases hm with hm | hm
    · exact ho v hv hm
    · omega

theorem inv_done {a out : List Int} (hp : isPerm a) (hol : out.length = a.length) (ho : ∀ v, v < a.length → (v : Int) ∈ a → out.getD v 0 = ((a.idxOf (v : Int) : Nat) : Int)) : out = inv a := by
  refine ext_getD (by rw [hol, inv_length]) (fun v hv => ?_)
  rw [hol] at hv
  rw [inv_get hv, ho v hv (hp.mem (by omega) (by omega))]

theorem rank_Inverse_l0 (a : List Int) (hn : a.length ≤ 140737488355328) : ∀ (d i : Nat) (out : List Int) (seen : List Bool), i + d = a.length → out.length = a.length → seen.length = a.length →
    (∀ x ∈ a.take i, 0 ≤ x ∧ x < (a.length : Int)) → (a.take i).Nodup → (∀ v, v < a.length → seen.getD v false = decide ((v : Int) ∈ a.take i)) →
    (∀ v, v < a.length → (v : Int) ∈ a.take i → out.getD v 0 = ((a.idxOf (v : Int) : Nat) : Int)) → Ev (fun k => rank_Inverse.l0 k a out seen a (a.length : Int) (i : Int)) (invR a) := by
  intro d
  induction d with
  | zero =>
    intro i out seen hd hol hsl hr hnd hs ho
    have hp := perm_full (i := i) (by omega) hr hnd
    refine Ev.step (fun k => by rw [rank_Inverse.l0]) ?_
    simp only [if_neg (show ¬ (i : Int) < a.length by omega)]
    rw [invR, if_pos hp]
    rw [List.take_of_length_le (by omega)] at ho
    rw [inv_done hp hol ho]
    exact Ev.now _
  | succ d ih =>
    intro i out seen hd hol hsl hr hnd hs ho
    have hi : i < a.length := by omega
    refine Ev.step (fun k => by rw [rank_Inverse.l0]) ?_
    simp only [if_pos (show (i : Int) < a.length by omega), if_pos (show 0 ≤ (i : Int) by omega), rd_nat]
    by_cases h1 : a.getD i 0 < 0
    · simp only [if_pos h1]
      rw [invR, if_neg (not_perm_out hi (.inl h1))]
      exact Ev.now _
    simp only [if_neg h1]
    by_cases h2 : a.getD i 0 ≥ (a.length : Int)
    · simp only [if_pos h2]
      rw [invR, if_neg (not_perm_out hi (.inr h2))]
      exact Ev.now _
    have e : ((a.getD i 0).toNat : Int) = a.getD i 0 := by omega
    have h3 := hs (a.getD i 0).toNat (by omega)
    rw [e] at h3
    simp only [if_neg h2, if_pos (show 0 ≤ a.getD i 0 by omega), if_pos (show a.getD i 0 < (seen.length : Int) by omega), if_pos (show a.getD i 0 < (out.length : Int) by omega), rdOf, h3]
    by_cases h4 : a.getD i 0 ∈ a.take i
    · simp only [h4, decide_true, if_true]
      rw [invR, if_neg (not_perm_twice hi h4)]
      exact Ev.now _
    · simp only [h4, decide_false, if_neg (show ¬ false = true by decide), wrap_nat hi hn]
      refine ih (i + 1) _ _ (by omega) (by rw [List.length_set, hol]) (by rw [List.length_set, hsl]) (fun x hx => ?_) (nodup_next hi hnd h4) (fun v hv => ?_) (out_next hi hol (by omega) (by omega) h4 ho)
      · rw [take_next hi, List.mem_append, List.mem_singleton] at hx
        rcases hx with hx | hx
        · exact hr x hx
        · omega
      · rw [lset (by omega), take_next hi]
        by_cases e2 : (a.getD i 0).toNat = v
        · rw [if_pos e2]; symm; rw [decide_eq_true_eq, List.mem_append, List.mem_singleton]; right; omega
        · rw [if_neg e2, hs v hv]
          have : (v : Int) ≠ a.getD i 0 := by omega
          simp only [List.mem_append, List.mem_singleton, this, or_false]

theorem rank_Inverse_ev (a : List Int) (hn : a.length ≤ 35184372088832) : Ev (fun k => rank_Inverse.f k a) (invR a) := by
  refine Ev.congr (fun k => by rw [rank_Inverse.f]) ?_
  simp only [Int.toNat_natCast]
  simp only [if_pos (show 0 ≤ (a.length : Int) by omega), if_pos hn, if_pos (show a.length ≤ 281474976710656 by omega)]
  refine rank_Inverse_l0 a (by omega) a.length 0 _ _ (by omega) (by simp) (by simp) (by simp) (by simp) (fun v hv => ?_) (by simp)
  rw [getD_replicate]; simp


-- with: rank
theorem rank_Is_ev (a : List Int) (hn : a.length ≤ 35184372088832) : Ev (fun k => rank_Is.f k a) (decide (isPerm a)) := by
  refine Ev.congr (fun k => by rw [rank_Is.f]) ?_
  refine Ev.bind (rank_Inverse_ev a hn) ?_
  by_cases h : isPerm a
  · simp only [invR, h, if_true, decide_true]; exact Ev.now _
  · simp only [invR, h, if_false, decide_false]; exact Ev.now _


-- math: W Base Perm SA Kinds Lcp
-- with: rank rank_Is
def ahdR (a : List Int) : List Int × Bool := if isPerm a then (ahdRow a, true) else ([], false)

theorem phi_Ahead_l0 (a : List Int) (hn : a.length ≤ 140737488355328) (hp : isPerm a) : ∀ (d i : Nat) (out : List Int) (last : Int), i + d = a.length → out.length = a.length → (last = if i = 0 then -1 else a.getD (i - 1) 0) →
    (∀ j, j < i → out.getD (a.getD j 0).toNat 0 = ahd a (a.getD j 0).toNat) → Ev (fun k => phi_Ahead.l0 k out last a (a.length : Int) (i : Int)) (ahdRow a, true) := by
  intro d
  induction d with
  | zero =>
    intro i out last hd hl hlast h
    refine Ev.step (fun k => by rw [phi_Ahead.l0]) ?_
    simp only [if_neg (show ¬ (i : Int) < a.length by omega)]
    have e : out = ahdRow a := ext_getD (by rw [hl, ahdRow_length]) (fun v hv => by
      rw [hl] at hv
      rw [ahdRow_get hv]
      have h2 := at_inv hp hv
      have := h ((inv a).getD v 0).toNat (by omega)
      rw [h2.1] at this
      simpa using this)
    rw [e]; exact Ev.now _
  | succ d ih =>
    intro i out last hd hl hlast h
    have hi : i < a.length := by omega
    have hm := hp.1 _ (getD_mem hi)
    refine Ev.step (fun k => by rw [phi_Ahead.l0]) ?_
    simp only [if_pos (show (i : Int) < a.length by omega), if_pos (show 0 ≤ (i : Int) by omega), rd_nat, if_pos hm.1, if_pos (show a.getD i 0 < out.length by omega), wrap_nat hi hn]
    refine ih (i + 1) _ _ (by omega) (by rw [List.length_set, hl]) (by rw [if_neg (by omega)]; simp) (fun j hj => ?_)
    rw [lset (by omega)]
    by_cases e : j = i
    · rw [e, if_pos rfl, hlast, ahd_at hp hi]
    · have hj' := hp.1 _ (getD_mem (show j < a.length by omega))
      rw [if_neg (fun e2 => e (getD_inj hp.2 (by omega) hi (by omega)))]
      exact h j (by omega)

theorem phi_Ahead_ev (a : List Int) (hn : a.length ≤ 35184372088832) : Ev (fun k => phi_Ahead.f k a) (ahdR a) := by
  refine Ev.congr (fun k => by rw [phi_Ahead.f]) ?_
  refine Ev.bind (rank_Is_ev a hn) ?_
  by_cases hp : isPerm a
  · simp only [hp, decide_true, if_true, Int.toNat_natCast]
    simp only [if_pos (show 0 ≤ (a.length : Int) by omega), if_pos hn]
    rw [ahdR, if_pos hp]
    exact phi_Ahead_l0 a (by omega) hp a.length 0 _ (-1) (by omega) (by simp) rfl (fun j hj => by omega)
  · simp only [hp, decide_false, if_neg (show ¬ false = true by decide)]
    rw [ahdR, if_neg hp]
    exact Ev.now _


-- math: W Base Perm
theorem ref4_Ints_l0 (a b : List Int) (hl : a.length = b.length) (hn : a.length ≤ 140737488355328) : ∀ (d i : Nat), i + d = a.length → (∀ j, j < i → a.getD j 0 = b.getD j 0) → Ev (fun k => whorlref4_Ints.l0 k a b (i : Int)) (decide (a = b)) := by
  intro d
  induction d with
  | zero =>
    intro i hd h
    refine Ev.step (fun k => by rw [whorlref4_Ints.l0]) ?_
    simp only [if_neg (show ¬ (i : Int) < a.length by omega)]
    rw [decide_eq_true (ext_getD hl (fun j hj => h j (by omega)))]
    exact Ev.now _
  | succ d ih =>
    intro i hd h
    have hi : i < a.length := by omega
    refine Ev.step (fun k => by rw [whorlref4_Ints.l0]) ?_
    simp only [if_pos (show (i : Int) < a.length by omega), if_pos (show 0 ≤ (i : Int) by omega), if_pos (show (i : Int) < b.length by omega), rd_nat, wrap_nat hi hn]
    by_cases e : a.getD i 0 = b.getD i 0
    · simp only [if_pos e]
      refine ih (i + 1) (by omega) (fun j hj => ?_)
      by_cases e2 : j = i
      · rw [e2]; exact e
      · exact h j (by omega)
    · simp only [if_neg e]
      rw [decide_eq_false (fun hab => e (by rw [hab]))]
      exact Ev.now _

theorem ref4_Ints_ev (a b : List Int) (hn : a.length ≤ 140737488355328) : Ev (fun k => whorlref4_Ints.f k a b) (decide (a = b)) := by
  refine Ev.congr (fun k => by rw [whorlref4_Ints.f]) ?_
  by_cases e : a.length = b.length
  · simp only [if_pos (show (a.length : Int) = b.length by omega)]
    exact ref4_Ints_l0 a b e hn a.length 0 (by omega) (fun j hj => by omega)
  · simp only [if_neg (show ¬ (a.length : Int) = b.length by omega)]
    rw [decide_eq_false (fun hab => e (by rw [hab]))]
    exact Ev.now _

-- with: phi_Ahead ref4_Ints
theorem known_ev : Ev (fun k => whorllaw18_known.f k) true := by
  refine Ev.congr (fun k => by rw [whorllaw18_known.f]) ?_
  refine Ev.bind (phi_Ahead_ev _ (by decide)) ?_
  have e : ahdR [2, 0, 1] = ([2, 0, -1], true) := by decide
  simp only [e, if_true]
  refine Ev.bind (ref4_Ints_ev _ _ (by decide)) ?_
  exact Ev.now _


-- math: W Base Perm SA Kinds Lcp
theorem mx_eq (a b : Int) : mx a b = if a ≤ b then b else a := by unfold mx; split <;> (try split) <;> omega

theorem lex_isEnding_eq (s : List Int) (i : Int) : lex_isEnding.f s i = some (decide (0 ≤ i ∧ i ≤ s.length)) := by
  unfold lex_isEnding.f
  by_cases h : i ≥ 0
  · rw [if_pos h]; congr 1; rw [decide_eq_decide]; omega
  · rw [if_neg h]; congr 1; symm; rw [decide_eq_false_iff_not]; omega

theorem lex_Common_l0 (s : List Int) (hn : s.length ≤ 35184372088832) (i j : Nat) (hi : i ≤ s.length) (hj : j ≤ s.length) : ∀ (d n : Nat), i + n ≤ s.length → j + n ≤ s.length → s.length - n ≤ d → (∀ z, z < n → s.getD (i + z) 0 = s.getD (j + z) 0) →
    Ev (fun k => lex_Common.l0 k s (i : Int) (j : Int) (n : Int)) (lcp s i j : Int) := by
  intro d
  induction d with
  | zero =>
    intro n h1 h2 hd h
    refine Ev.step (fun k => by rw [lex_Common.l0]) ?_
    have hm : ¬ (mx (i : Int) j) + n < s.length := by rw [mx_eq]; split <;> omega
    have hm2 : mx (i : Int) j ≤ s.length ∧ 0 ≤ mx (i : Int) j := by rw [mx_eq]; split <;> omega
    rw [wrap64_id (x := mx (i : Int) j + n) (by omega) (by omega)]
    simp only [if_neg hm]
    rw [lcp_stop h1 h2 h (by omega)]
    exact Ev.now _
  | succ d ih =>
    intro n h1 h2 hd h
    refine Ev.step (fun k => by rw [lex_Common.l0]) ?_
    have hm2 : mx (i : Int) j ≤ s.length ∧ 0 ≤ mx (i : Int) j := by rw [mx_eq]; split <;> omega
    by_cases hm : (mx (i : Int) j) + n < s.length
    · have hij : i + n < s.length ∧ j + n < s.length := by rw [mx_eq] at hm; split at hm <;> omega
      have w1 : wrap64 ((i : Int) + n) = ((i + n : Nat) : Int) := by rw [wrap64_id (by omega) (by omega)]; omega
      have w2 : wrap64 ((j : Int) + n) = ((j + n : Nat) : Int) := by clear w1; rw [wrap64_id (by omega) (by omega)]; omega
      rw [wrap64_id (x := mx (i : Int) j + n) (by clear w1 w2; omega) (by clear w1 w2; omega)]
      simp only [w1, w2, rd_nat]
      clear w1 w2
      simp only [if_pos hm, if_pos (show (0 : Int) ≤ ((i + n : Nat) : Int) by omega), if_pos (show ((i + n : Nat) : Int) < s.length by omega), if_pos (show (0 : Int) ≤ ((j + n : Nat) : Int) by omega), if_pos (show ((j + n : Nat) : Int) < s.length by omega)]
      by_cases he : s.getD (i + n) 0 = s.getD (j + n) 0
      · simp only [if_pos he, wrap_nat (show n < s.length by omega) (show s.length ≤ 140737488355328 by omega)]
        refine ih (n + 1) (by omega) (by omega) (by omega) (fun z hz => ?_)
        by_cases e : z = n
        · rw [e]; exact he
        · exact h z (by omega)
      · simp only [if_neg he]
        rw [lcp_stop h1 h2 h (by omega)]
        exact Ev.now _
    · have hij : s.length ≤ i + n ∨ s.length ≤ j + n := by rw [mx_eq] at hm; split at hm <;> omega
      rw [wrap64_id (x := mx (i : Int) j + n) (by omega) (by omega)]
      simp only [if_neg hm]
      rw [lcp_stop h1 h2 h (by omega)]
      exact Ev.now _

theorem lex_Common_ev (s : List Int) (hn : s.length ≤ 35184372088832) (i j : Int) : Ev (fun k => lex_Common.f k s i j) (comR s i j) := by
  refine Ev.congr (fun k => by rw [lex_Common.f]) ?_
  simp only [lex_isEnding_eq, Option.bind_some]
  have hg : ¬ (0 ≤ i ∧ i ≤ s.length ∧ 0 ≤ j ∧ j ≤ s.length) → Ev (fun k => lex_Common.j0 k s i j true) (comR s i j) := fun h => by
    refine Ev.step (fun k => by rw [lex_Common.j0]) ?_
    simp only [if_true]
    unfold comR
    rw [if_neg h]
    exact Ev.now _
  by_cases h1 : 0 ≤ i ∧ i ≤ s.length
  · simp only [h1, and_self, decide_true, if_true]
    by_cases h2 : 0 ≤ j ∧ j ≤ s.length
    · simp only [h2, and_self, decide_true, Bool.not_true]
      refine Ev.step (fun k => by rw [lex_Common.j0]) ?_
      simp only [if_neg (show ¬ false = true by decide)]
      obtain ⟨i, rfl⟩ : ∃ m : Nat, i = m := ⟨i.toNat, by omega⟩
      obtain ⟨j, rfl⟩ : ∃ m : Nat, j = m := ⟨j.toNat, by omega⟩
      rw [comR_nat (by omega) (by omega)]
      exact lex_Common_l0 s hn i j (by omega) (by omega) s.length 0 (by omega) (by omega) (by omega) (fun z hz => by omega)
    · simp only [h2, decide_false, Bool.not_false]
      exact hg (by omega)
  · simp only [h1, decide_false, if_neg (show ¬ false = true by decide)]
    exact hg (by omega)


-- math: W Base Perm SA Kinds Lcp
-- with: phi_Ahead lex_Common
theorem phi_falls_l0 (s a : List Int) (hl : a.length = s.length) (hp : isPerm a) (hn : a.length ≤ 17592186044416) : ∀ (d i : Nat), i + d = a.length → (∀ j, j + 1 < i → j + 1 < a.length → ¬ adjBad s a (a.getD j 0) (a.getD (j + 1) 0)) →
    ∃ b, Ev (fun k => phi_falls.l0 k s a (inv a ++ [-1]) a (a.length : Int) (i : Int)) b ∧ (b = true → ∀ j, j + 1 < a.length → ¬ adjBad s a (a.getD j 0) (a.getD (j + 1) 0)) := by
  intro d
  induction d with
  | zero =>
    intro i hd h
    refine ⟨true, ?_, fun _ j hj => h j (by omega) hj⟩
    refine Ev.step (fun k => by rw [phi_falls.l0]) ?_
    simp only [if_neg (show ¬ (i : Int) < a.length by omega)]
    exact Ev.now _
  | succ d ih =>
    intro i hd h
    have hi : i < a.length := by omega
    by_cases h0 : i = 0
    · obtain ⟨b, hb, hb2⟩ := ih (i + 1) (by omega) (fun j hj hj2 => by omega)
      refine ⟨b, ?_, hb2⟩
      refine Ev.step (fun k => by rw [phi_falls.l0]) ?_
      simp only [if_pos (show (i : Int) < a.length by omega), if_pos (show 0 ≤ (i : Int) by omega), if_pos (show (i : Int) = 0 by omega), wrap_nat hi (show a.length ≤ 140737488355328 by omega)]
      exact hb
    · obtain ⟨m, rfl⟩ : ∃ m, i = m + 1 := ⟨i - 1, by omega⟩
      have hx := hp.1 _ (getD_mem (show m < a.length by omega))
      have hy := hp.1 _ (getD_mem hi)
      have w : wrap64 (((m + 1 : Nat) : Int) - 1) = (m : Int) := by rw [wrap64_id (by omega) (by omega)]; omega
      have rx : rd (inv a ++ [-1]) (a.getD m 0 + 1) = rk a ((a.getD m 0).toNat + 1) := by
        unfold rd rk; congr 1; omega
      have ry : rd (inv a ++ [-1]) (a.getD (m + 1) 0 + 1) = rk a ((a.getD (m + 1) 0).toNat + 1) := by
        unfold rd rk; congr 1; omega
      have sx : rd s (a.getD m 0) = s.getD (a.getD m 0).toNat 0 := rfl
      have sy : rd s (a.getD (m + 1) 0) = s.getD (a.getD (m + 1) 0).toNat 0 := rfl
      have hlen : (inv a ++ [-1]).length = a.length + 1 := by rw [List.length_append, inv_length]; rfl
      have head : ∀ b, Ev (fun k => if s.getD (a.getD m 0).toNat 0 > s.getD (a.getD (m + 1) 0).toNat 0 then some false else if s.getD (a.getD m 0).toNat 0 = s.getD (a.getD (m + 1) 0).toNat 0 then (if rk a ((a.getD m 0).toNat + 1) > rk a ((a.getD (m + 1) 0).toNat + 1) then some false else phi_falls.l0 k s a (inv a ++ [-1]) a (a.length : Int) ((m + 1 + 1 : Nat) : Int)) else phi_falls.l0 k s a (inv a ++ [-1]) a (a.length : Int) ((m + 1 + 1 : Nat) : Int)) b →
          Ev (fun k => phi_falls.l0 k s a (inv a ++ [-1]) a (a.length : Int) ((m + 1 : Nat) : Int)) b := fun b hb => by
        refine Ev.step (fun k => by rw [phi_falls.l0]) ?_
        simp only [w, rd_nat]
        clear w
        rw [wrap64_id (x := a.getD m 0 + 1) (by omega) (by omega), wrap64_id (x := a.getD (m + 1) 0 + 1) (by omega) (by omega), rx, ry, sx, sy]
        simp only [if_pos (show ((m + 1 : Nat) : Int) < a.length by omega), if_pos (show (0 : Int) ≤ ((m + 1 : Nat) : Int) by omega), if_neg (show ¬ ((m + 1 : Nat) : Int) = 0 by omega), if_pos (show 0 ≤ (m : Int) by omega), if_pos (show (m : Int) < a.length by omega),
          if_pos hx.1, if_pos (show a.getD m 0 < s.length by omega), if_pos hy.1, if_pos (show a.getD (m + 1) 0 < s.length by omega), hlen, wrap_nat hi (show a.length ≤ 140737488355328 by omega),
          if_pos (show 0 ≤ a.getD m 0 + 1 by omega), if_pos (show a.getD m 0 + 1 < ((a.length + 1 : Nat) : Int) by omega), if_pos (show 0 ≤ a.getD (m + 1) 0 + 1 by omega), if_pos (show a.getD (m + 1) 0 + 1 < ((a.length + 1 : Nat) : Int) by omega)]
        exact hb
      by_cases hbad : adjBad s a (a.getD m 0) (a.getD (m + 1) 0)
      · refine ⟨false, head _ ?_, fun h => by cases h⟩
        unfold adjBad at hbad
        rcases hbad with k | ⟨k1, k2⟩
        · simp only [if_pos (show s.getD (a.getD m 0).toNat 0 > s.getD (a.getD (m + 1) 0).toNat 0 from k)]
          exact Ev.now _
        · simp only [if_neg (show ¬ s.getD (a.getD m 0).toNat 0 > s.getD (a.getD (m + 1) 0).toNat 0 by omega), if_pos k1, if_pos (show rk a ((a.getD m 0).toNat + 1) > rk a ((a.getD (m + 1) 0).toNat + 1) from k2)]
          exact Ev.now _
      · obtain ⟨b, hb, hb2⟩ := ih (m + 1 + 1) (by omega) (fun j hj hj2 => by
          by_cases e : j = m
          · subst e; exact hbad
          · exact h j (by omega) hj2)
        refine ⟨b, head _ ?_, hb2⟩
        unfold adjBad at hbad
        by_cases k1 : s.getD (a.getD m 0).toNat 0 = s.getD (a.getD (m + 1) 0).toNat 0
        · simp only [if_neg (show ¬ s.getD (a.getD m 0).toNat 0 > s.getD (a.getD (m + 1) 0).toNat 0 by omega), if_pos k1, if_neg (show ¬ rk a ((a.getD m 0).toNat + 1) > rk a ((a.getD (m + 1) 0).toNat + 1) by omega)]
          exact hb
        · simp only [if_neg (show ¬ s.getD (a.getD m 0).toNat 0 > s.getD (a.getD (m + 1) 0).toNat 0 by omega), if_neg k1]
          exact hb

theorem phi_falls_ev (s a : List Int) (hl : a.length = s.length) (hp : isPerm a) (hn : a.length < 17592186044416) : ∃ b, Ev (fun k => phi_falls.f k s a) b ∧ (b = true → IsSA s a) := by
  obtain ⟨b, hb, hb2⟩ := phi_falls_l0 s a hl hp (by omega) a.length 0 (by omega) (fun j hj _ => by omega)
  refine ⟨b, ?_, fun h => sa_of_adj hl hp (hb2 h)⟩
  refine Ev.congr (fun k => by rw [phi_falls.f]) ?_
  refine Ev.bind (rank_Inverse_ev a (by omega)) ?_
  simp only [invR, if_pos hp, inv_length, if_pos hn]
  exact hb

theorem mx_eq2 (a b : Int) : mx a b = if a ≤ b then b else a := by unfold mx; split <;> (try split) <;> omega

theorem phi_PLCP_l0 (s a : List Int) (hl : a.length = s.length) (hp : isPerm a) (hn : a.length ≤ 17592186044416) (b : Bool) (hb : b = true → IsSA s a) : ∀ (d i : Nat) (out : List Int) (n : Int), i + d = a.length → out.length = a.length →
    (n = if i = 0 then 0 else plc s a (i - 1)) → (∀ v, v < i → out.getD v 0 = plc s a v) → Ev (fun k => phi_PLCP.l0 k s b out n (ahdRow a) (a.length : Int) (i : Int)) (plcRow s a, true) := by
  intro d
  induction d with
  | zero =>
    intro i out n hd hol hnv h
    refine Ev.step (fun k => by rw [phi_PLCP.l0]) ?_
    simp only [if_neg (show ¬ (i : Int) < a.length by omega)]
    rw [ext_getD (a := out) (b := plcRow s a) (by rw [hol, plcRow_length]) (fun v hv => by rw [plcRow_get (by omega), h v (by omega)])]
    exact Ev.now _
  | succ d ih =>
    intro i out n hd hol hnv h
    have hi : i < a.length := by omega
    have hr := ahd_range hp hi
    have hpl := plc_le (s := s) hp hl hi
    have hn0 : 0 ≤ n ∧ n ≤ s.length := by
      by_cases h0 : i = 0
      · rw [if_pos h0] at hnv; omega
      · rw [if_neg h0] at hnv
        have := plc_le (s := s) hp hl (v := i - 1) (by omega)
        omega
    have next : ∀ v, v = plc s a i → Ev (fun k => phi_PLCP.l0 k s b (out.set i v) v (ahdRow a) (a.length : Int) ((i + 1 : Nat) : Int)) (plcRow s a, true) := fun v hv => by
      refine ih (i + 1) _ _ (by omega) (by rw [List.length_set, hol]) (by rw [if_neg (by omega), hv]; rfl) (fun u hu => ?_)
      rw [lset (by omega)]
      by_cases e : i = u
      · rw [if_pos e, hv, e]
      · rw [if_neg e]; exact h u (by omega)
    have ea : (ahdRow a).getD i 0 = ahd a i := ahdRow_get hi
    refine Ev.step (fun k => by rw [phi_PLCP.l0]) ?_
    simp only [if_pos (show (i : Int) < a.length by omega), if_pos (show 0 ≤ (i : Int) by omega), ahdRow_length, rd_nat, ea, if_pos (show (i : Int) < out.length by omega), wrap_nat hi (show a.length ≤ 140737488355328 by omega), Int.toNat_natCast]
    by_cases h1 : ahd a i = -1
    · simp only [if_pos h1]
      exact next 0 (by unfold plc; rw [if_pos h1])
    · simp only [if_neg h1]
      have hpc : plc s a i = (lcp s i (ahd a i).toNat : Int) := by unfold plc; rw [if_neg h1]
      cases b with
      | true =>
        simp only [if_true]
        have hsa := hb rfl
        -- what is alike already
        have hm : ∃ m : Nat, mx (wrap64 (n - 1)) 0 = m ∧ m ≤ lcp s i (ahd a i).toNat := by
          rw [wrap64_id (by omega) (by omega), mx_eq2]
          by_cases h0 : i = 0
          · rw [if_pos h0] at hnv
            exact ⟨0, by rw [hnv]; rfl, by omega⟩
          · rw [if_neg h0] at hnv
            have := plc_falls hsa (v := i - 1) (by omega) (by rw [show i - 1 + 1 = i by omega]; exact h1)
            rw [show i - 1 + 1 = i by omega, ← hnv] at this
            exact ⟨(n - 1).toNat, by split <;> omega, by omega⟩
        obtain ⟨m, hm1, hm2⟩ := hm
        rw [hm1]
        have hle := lcp_le (s := s) (x := i) (y := (ahd a i).toNat) (by omega) (by omega)
        have hsp := lcp_split hm2 (by omega) (by omega)
        rw [wrap64_id (x := (i : Int) + m) (by omega) (by omega), wrap64_id (x := ahd a i + m) (by omega) (by omega)]
        refine Ev.bind (lex_Common_ev s (by omega) _ _) ?_
        have e : comR s ((i : Int) + m) (ahd a i + m) = (lcp s (i + m) ((ahd a i).toNat + m) : Int) := by
          rw [← comR_nat (by omega) (by omega)]; congr 1 <;> omega
        rw [e, wrap64_id (x := (m : Int) + _) (by omega) (by omega)]
        exact next _ (by rw [hpc]; omega)
      | false =>
        simp only [if_neg (show ¬ false = true by decide)]
        refine Ev.bind (lex_Common_ev s (by omega) _ _) ?_
        have e : comR s (i : Int) (ahd a i) = (lcp s i (ahd a i).toNat : Int) := by
          rw [← comR_nat (by omega) (by omega)]; congr 1; omega
        rw [e]
        exact next _ hpc.symm

def plcR (s a : List Int) : List Int × Bool := if isPerm a ∧ a.length = s.length then (plcRow s a, true) else ([], false)

theorem phi_PLCP_ev (s a : List Int) (hn : a.length < 17592186044416) : Ev (fun k => phi_PLCP.f k s a) (plcR s a) := by
  refine Ev.congr (fun k => by rw [phi_PLCP.f]) ?_
  refine Ev.bind (phi_Ahead_ev a (by omega)) ?_
  have hg : ¬ (isPerm a ∧ a.length = s.length) → ∀ x, Ev (fun k => phi_PLCP.j0 k s a x true) (plcR s a) := fun h x => by
    refine Ev.step (fun k => by rw [phi_PLCP.j0]) ?_
    simp only [if_true]
    rw [plcR, if_neg h]
    exact Ev.now _
  by_cases hp : isPerm a
  · simp only [ahdR, if_pos hp, if_true]
    by_cases hl : a.length = s.length
    · have e : ((a.length : Int) != (s.length : Int)) = false := by rw [hl]; simp
      rw [e]
      refine Ev.step (fun k => by rw [phi_PLCP.j0]) ?_
      simp only [if_neg (show ¬ false = true by decide)]
      obtain ⟨b, hb, hb2⟩ := phi_falls_ev s a hl hp hn
      refine Ev.bind hb ?_
      simp only [Int.toNat_natCast]
      simp only [if_pos (show 0 ≤ (a.length : Int) by omega), if_pos (show a.length ≤ 35184372088832 by omega), ahdRow_length]
      rw [plcR, if_pos ⟨hp, hl⟩]
      exact phi_PLCP_l0 s a hl hp (by omega) b hb2 a.length 0 _ 0 (by omega) (by simp) rfl (fun v hv => by omega)
    · have e : ((a.length : Int) != (s.length : Int)) = true := by rw [bne_iff_ne]; omega
      rw [e]
      exact hg (fun h => hl h.2) _
  · simp only [ahdR, if_neg hp, if_neg (show ¬ false = true by decide)]
    exact hg (fun h => hp h.1) _

def lcpR (s a : List Int) : List Int × Bool := if isPerm a ∧ a.length = s.length then (lcpRow s a, true) else ([], false)

theorem phi_LCP_l0 (s a : List Int) (hp : isPerm a) (hn : a.length ≤ 140737488355328) : ∀ (d i : Nat) (out : List Int), i + d = a.length → out.length = a.length → (∀ j, j < i → out.getD j 0 = lcpAt s a j) → Ev (fun k => phi_LCP.l0 k (plcRow s a) out a (a.length : Int) (i : Int)) (lcpRow s a, true) := by
  intro d
  induction d with
  | zero =>
    intro i out hd hol h
    refine Ev.step (fun k => by rw [phi_LCP.l0]) ?_
    simp only [if_neg (show ¬ (i : Int) < a.length by omega)]
    rw [ext_getD (a := out) (b := lcpRow s a) (by rw [hol, lcpRow_length]) (fun v hv => by rw [lcpRow_get (by omega), h v (by omega)])]
    exact Ev.now _
  | succ d ih =>
    intro i out hd hol h
    have hi : i < a.length := by omega
    have hm := hp.1 _ (getD_mem hi)
    have e : rd (plcRow s a) (a.getD i 0) = lcpAt s a i := by
      rw [← plc_at hp hi]
      exact plcRow_get (by omega)
    refine Ev.step (fun k => by rw [phi_LCP.l0]) ?_
    simp only [if_pos (show (i : Int) < a.length by omega), if_pos (show 0 ≤ (i : Int) by omega), rd_nat, if_pos hm.1, plcRow_length, if_pos hm.2, if_pos (show (i : Int) < out.length by omega), e, wrap_nat hi hn, Int.toNat_natCast]
    refine ih (i + 1) _ (by omega) (by rw [List.length_set, hol]) (fun j hj => ?_)
    rw [lset (by omega)]
    by_cases e2 : i = j
    · rw [if_pos e2, e2]
    · rw [if_neg e2]; exact h j (by omega)

theorem phi_LCP_ev (s a : List Int) (hn : a.length < 17592186044416) : Ev (fun k => phi_LCP.f k s a) (lcpR s a) := by
  refine Ev.congr (fun k => by rw [phi_LCP.f]) ?_
  refine Ev.bind (phi_PLCP_ev s a hn) ?_
  by_cases h : isPerm a ∧ a.length = s.length
  · simp only [plcR, if_pos h, if_true, Int.toNat_natCast]
    simp only [if_pos (show 0 ≤ (a.length : Int) by omega), if_pos (show a.length ≤ 35184372088832 by omega)]
    rw [lcpR, if_pos h]
    exact phi_LCP_l0 s a h.1 (by omega) a.length 0 _ (by omega) (by simp) (fun j hj => by omega)
  · simp only [plcR, if_neg h, if_neg (show ¬ false = true by decide)]
    rw [lcpR, if_neg h]
    exact Ev.now _


-- math: W Base Perm SA Kinds
theorem ref11_Words_l0 (a b : List Int) (ha : a.length ≤ 140737488355328) : ∀ (d i : Nat), i + d = a.length → i ≤ b.length → a.take i = b.take i → Ev (fun k => whorlref11_Words.l0 k a b (i : Int)) (cmpL a b) := by
  intro d
  induction d with
  | zero =>
    intro i hd hb h
    have e : cmpL a b = cmpL (a.drop i) (b.drop i) := by
      conv => lhs; rw [← List.take_append_drop i a, ← List.take_append_drop i b, h]
      rw [cmpL_append]
    refine Ev.step (fun k => by rw [whorlref11_Words.l0]) ?_
    simp only [if_neg (show ¬ (i : Int) < a.length by omega)]
    refine Ev.step (fun k => by rw [whorlref11_Words.j1]) ?_
    simp only [if_neg (show ¬ false = true by decide)]
    rw [e, List.drop_of_length_le (show a.length ≤ i by omega)]
    by_cases h1 : a.length < b.length
    · simp only [if_pos (show (a.length : Int) < b.length by omega)]
      have : ltL [] (b.drop i) := ltL_nil.2 (fun e => by have := congrArg List.length e; rw [List.length_drop] at this; simp only [List.length_nil] at this; omega)
      rw [this]; exact Ev.now _
    · simp only [if_neg (show ¬ (a.length : Int) < b.length by omega), if_neg (show ¬ (a.length : Int) > b.length by omega)]
      rw [List.drop_of_length_le (show b.length ≤ i by omega)]
      exact Ev.now _
  | succ d ih =>
    intro i hd hb h
    have hi : i < a.length := by omega
    have e : cmpL a b = cmpL (a.drop i) (b.drop i) := by
      conv => lhs; rw [← List.take_append_drop i a, ← List.take_append_drop i b, h]
      rw [cmpL_append]
    refine Ev.step (fun k => by rw [whorlref11_Words.l0]) ?_
    simp only [if_pos (show (i : Int) < a.length by omega)]
    refine Ev.step (fun k => by rw [whorlref11_Words.j1]) ?_
    by_cases hib : i < b.length
    · simp only [show decide ((i : Int) < b.length) = true by simpa using hib, if_true, if_pos (show 0 ≤ (i : Int) by omega), if_pos (show (i : Int) < a.length by omega), if_pos (show (i : Int) < b.length by omega), rd_nat, wrap_nat hi ha]
      have e2 : cmpL (a.drop i) (b.drop i) = if a.getD i 0 < b.getD i 0 then -1 else if b.getD i 0 < a.getD i 0 then 1 else cmpL (a.drop (i + 1)) (b.drop (i + 1)) := by
        rw [drop_cons_get hi, drop_cons_get hib, cmpL]
      rw [e, e2]
      by_cases h1 : a.getD i 0 < b.getD i 0
      · simp only [if_pos h1]; exact Ev.now _
      · by_cases h2 : a.getD i 0 > b.getD i 0
        · simp only [if_neg h1, if_pos h2]; exact Ev.now _
        · simp only [if_neg h1, if_neg h2]
          have e3 : cmpL (a.drop (i + 1)) (b.drop (i + 1)) = cmpL a b := by
            rw [e, e2, if_neg h1, if_neg h2]
          rw [e3]
          exact ih (i + 1) (by omega) (by omega) (by rw [take_next hi, take_next hib, h, show a.getD i 0 = b.getD i 0 by omega])
    · simp only [show decide ((i : Int) < b.length) = false by simpa using hib, if_neg (show ¬ false = true by decide), if_neg (show ¬ (a.length : Int) < b.length by omega), if_pos (show (a.length : Int) > b.length by omega)]
      rw [e, List.drop_of_length_le (show b.length ≤ i by omega), drop_cons_get hi]
      exact Ev.now _

theorem ref11_Words_ev (a b : List Int) (ha : a.length ≤ 140737488355328) : Ev (fun k => whorlref11_Words.f k a b) (cmpL a b) :=
  Ev.congr (fun k => rfl) (ref11_Words_l0 a b ha a.length 0 (by omega) (by omega) (by simp))


-- math: W Base Perm SA Kinds Ins
-- with: ref11
/-- so far -/
def ordSo (s out : List Int) (i : Nat) : Prop := out.length = i ∧ out.Pairwise (sufLt s) ∧ ∀ x, x ∈ out ↔ 0 ≤ x ∧ x < (i : Int)

theorem Order_l1 (s : List Int) (hn : s.length < 17592186044416) (i : Nat) (hi : i < s.length) (out : List Int) (ho : ordSo s out i) (R : List Int)
    (K : ∀ out', ordSo s out' (i + 1) → Ev (fun k => whorlref13_Order.l0 k s out' ((i + 1 : Nat) : Int)) R) : ∀ (j : Nat), j ≤ i → (∀ q, j ≤ q → q < i → sufLt s i (out.getD q 0)) → Ev (fun k => whorlref13_Order.l1 k s out (i : Int) (j : Int)) R := by
  obtain ⟨hl, hp, hm⟩ := ho
  have fin : ∀ j : Nat, j ≤ i → (∀ q, j ≤ q → q < i → sufLt s i (out.getD q 0)) → (∀ q, q < j → sufLt s (out.getD q 0) i) → ordSo s (out.take j ++ [(i : Int)] ++ out.drop j) (i + 1) := fun j hj h2 h1 =>
    ⟨by rw [ins_length (by omega), hl], ins_pw hp (by omega) h1 (fun q hq1 hq2 => h2 q hq1 (by omega)), fun x => by rw [ins_mem, hm]; omega⟩
  intro j
  induction j with
  | zero =>
    intro hj h2
    refine Ev.step (fun k => by rw [whorlref13_Order.l1]) ?_
    have hf := K _ (fin 0 hj h2 (fun q hq => by omega))
    simp only [if_neg (show ¬ ((0 : Nat) : Int) > 0 by omega), Option.bind_some, Int.toNat_natCast, List.nil_append, List.length_nil, List.length_take, List.length_append, List.length_singleton, List.length_drop]
    simp only [if_pos (show (0 : Int) ≤ ((0 : Nat) : Int) by omega), if_pos (show ((0 : Nat) : Int) ≤ out.length by omega), if_pos (show 0 + min 0 out.length < 17592186044416 by omega), if_pos (show 0 + min 0 out.length + 1 < 17592186044416 by omega), if_pos (show 0 + min 0 out.length + 1 + (out.length - 0) < 17592186044416 by omega), wrap_nat hi (show s.length ≤ 140737488355328 by omega)]
    exact hf
  | succ j ih =>
    intro hj h2
    have hx := (hm (out.getD j 0)).1 (getD_mem (by omega))
    have w : wrap64 (((j + 1 : Nat) : Int) - 1) = (j : Int) := by rw [wrap64_id (by omega) (by omega)]; omega
    refine Ev.step (fun k => by rw [whorlref13_Order.l1]) ?_
    simp only [w, rd_nat]
    clear w
    simp only [if_pos (show ((j + 1 : Nat) : Int) > 0 by omega), if_pos (show 0 ≤ (i : Int) by omega), if_pos (show (i : Int) ≤ s.length by omega), if_pos (show 0 ≤ (j : Int) by omega), if_pos (show (j : Int) < out.length by omega), if_pos hx.1, if_pos (show out.getD j 0 ≤ s.length by omega), Int.toNat_natCast]
    refine Ev.bind (ref11_Words_ev _ _ (by rw [List.length_drop]; omega)) ?_
    by_cases hc : cmpL (s.drop i) (s.drop (out.getD j 0).toNat) < 0
    · simp only [if_pos hc]
      refine ih (by omega) (fun q hq1 hq2 => ?_)
      by_cases e : q = j
      · subst e
        unfold sufLt ltL
        simp only [Int.toNat_natCast]
        rcases cmpL_vals (s.drop i) (s.drop (out.getD q 0).toNat) with k | k | k <;> omega
      · exact h2 q (by omega) hq2
    · simp only [if_neg hc, Option.bind_some, List.nil_append, List.length_nil, List.length_take, List.length_append, List.length_singleton, List.length_drop]
      have hlt : sufLt s (out.getD j 0) i := by
        rcases suf_tri (s := s) (x := out.getD j 0) (y := (i : Int)) hx.1 (by omega) (by omega) (by omega) (by omega) with k | k
        · exact k
        · exfalso
          unfold sufLt ltL at k
          simp only [Int.toNat_natCast] at k
          omega
      have hf := K _ (fin (j + 1) hj h2 (fun q hq => by
        by_cases e : q = j
        · rw [e]; exact hlt
        · exact ltL_trans (pair_getD hp (show q < j by omega) (by omega)) hlt))
      simp only [if_pos (show (0 : Int) ≤ ((j + 1 : Nat) : Int) by omega), if_pos (show ((j + 1 : Nat) : Int) ≤ out.length by omega), if_pos (show 0 + min (j + 1) out.length < 17592186044416 by omega), if_pos (show 0 + min (j + 1) out.length + 1 < 17592186044416 by omega), if_pos (show 0 + min (j + 1) out.length + 1 + (out.length - (j + 1)) < 17592186044416 by omega), wrap_nat hi (show s.length ≤ 140737488355328 by omega)]
      exact hf

theorem Order_l0 (s : List Int) (hn : s.length < 17592186044416) : ∃ a, IsSA s a ∧ ∀ (d i : Nat) (out : List Int), i + d = s.length → ordSo s out i → Ev (fun k => whorlref13_Order.l0 k s out (i : Int)) a := by
  -- the order itself
  have key : ∀ (d i : Nat) (out : List Int), i + d = s.length → ordSo s out i → ∃ a, IsSA s a ∧ Ev (fun k => whorlref13_Order.l0 k s out (i : Int)) a := by
    intro d
    induction d with
    | zero =>
      intro i out hd ho
      refine ⟨out, ⟨by rw [ho.1]; omega, fun x hx => ?_, ho.2.1⟩, ?_⟩
      · have := (ho.2.2 x).1 hx; omega
      · refine Ev.step (fun k => by rw [whorlref13_Order.l0]) ?_
        simp only [if_neg (show ¬ (i : Int) < s.length by omega)]
        exact Ev.now _
    | succ d ih =>
      intro i out hd ho
      have hi : i < s.length := by omega
      -- all ways to go on come to one order
      by_cases hex : ∃ out', ordSo s out' (i + 1)
      · obtain ⟨out1, ho1⟩ := hex
        obtain ⟨a, ha, _⟩ := ih (i + 1) out1 (by omega) ho1
        refine ⟨a, ha, ?_⟩
        refine Ev.step (fun k => by rw [whorlref13_Order.l0]) ?_
        simp only [if_pos (show (i : Int) < s.length by omega)]
        rw [ho.1]
        refine Order_l1 s hn i hi out ho a (fun out' ho' => ?_) i (Nat.le_refl _) (fun q h1 h2 => by omega)
        obtain ⟨a', ha', hev'⟩ := ih (i + 1) out' (by omega) ho'
        rw [ha.uniq ha']
        exact hev'
      · -- there is one
        exfalso
        have : ∀ j : Nat, j ≤ i → (∀ q, j ≤ q → q < i → sufLt s i (out.getD q 0)) → False := by
          intro j
          induction j with
          | zero =>
            intro hj h2
            exact hex ⟨_, by rw [ins_length (j := 0) (i := (i : Int)) (by omega), ho.1], ins_pw (j := 0) ho.2.1 (by omega) (fun q hq => by omega) (fun q _ hq2 => h2 q (by omega) (by rw [ho.1] at hq2; exact hq2)), fun x => by rw [ins_mem, ho.2.2]; omega⟩
          | succ j ihj =>
            intro hj h2
            have hx := (ho.2.2 (out.getD j 0)).1 (getD_mem (by rw [ho.1]; omega))
            rcases suf_tri (s := s) (x := out.getD j 0) (y := (i : Int)) hx.1 (by omega) (by omega) (by omega) (by omega) with k | k
            · exact hex ⟨_, by rw [ins_length (j := j + 1) (i := (i : Int)) (by rw [ho.1]; omega), ho.1], ins_pw (j := j + 1) ho.2.1 (by rw [ho.1]; omega) (fun q hq => by
                by_cases e : q = j
                · rw [e]; exact k
                · exact ltL_trans (pair_getD ho.2.1 (show q < j by omega) (by rw [ho.1]; omega)) k) (fun q hq1 hq2 => h2 q hq1 (by rw [ho.1] at hq2; exact hq2)), fun x => by rw [ins_mem, ho.2.2]; omega⟩
            · exact ihj (by omega) (fun q hq1 hq2 => by
                by_cases e : q = j
                · rw [e]; exact k
                · exact h2 q (by omega) hq2)
        exact this i (Nat.le_refl _) (fun q h1 h2 => by omega)
  obtain ⟨a, ha, _⟩ := key s.length 0 [] (by omega) ⟨rfl, by simp, fun x => by simp⟩
  refine ⟨a, ha, fun d i out hd ho => ?_⟩
  obtain ⟨a', ha', hev⟩ := key d i out hd ho
  rw [ha.uniq ha']
  exact hev

theorem ref13_Order_ev (s : List Int) (hn : s.length < 17592186044416) : ∃ a, IsSA s a ∧ Ev (fun k => whorlref13_Order.f k s) a := by
  obtain ⟨a, ha, h⟩ := Order_l0 s hn
  exact ⟨a, ha, Ev.congr (fun k => rfl) (h s.length 0 [] (by omega) ⟨rfl, by simp, fun x => by simp⟩)⟩


-- with: ref13_Order
theorem ref13_Numbers_l0 (s : List Int) (hn : s.length < 17592186044416) (hb : ∀ x ∈ s, 0 ≤ x ∧ x ≤ 255) : ∀ (d i : Nat), i + d = s.length → Ev (fun k => whorlref13_Numbers.l0 k s (s.take i) (i : Int)) s := by
  intro d
  induction d with
  | zero =>
    intro i hd
    refine Ev.step (fun k => by rw [whorlref13_Numbers.l0]) ?_
    simp only [if_neg (show ¬ (i : Int) < s.length by omega)]
    rw [List.take_of_length_le (by omega)]
    exact Ev.now _
  | succ d ih =>
    intro i hd
    have hi : i < s.length := by omega
    have hm := hb _ (getD_mem hi)
    refine Ev.step (fun k => by rw [whorlref13_Numbers.l0]) ?_
    rw [rd_nat, wrap64_id (x := s.getD i 0) (by omega) (by omega)]
    simp only [if_pos (show (i : Int) < s.length by omega), if_pos (show 0 ≤ (i : Int) by omega), List.length_take, if_pos (show min i s.length < 17592186044416 by omega), wrap_nat hi (show s.length ≤ 140737488355328 by omega)]
    rw [← take_next hi]
    exact ih (i + 1) (by omega)

theorem ref13_Bytes_ev (s : List Int) (hn : s.length < 17592186044416) (hb : ∀ x ∈ s, 0 ≤ x ∧ x ≤ 255) : ∃ a, IsSA s a ∧ Ev (fun k => whorlref13_Bytes.f k s) a := by
  obtain ⟨a, ha, hev⟩ := ref13_Order_ev s hn
  refine ⟨a, ha, ?_⟩
  refine Ev.congr (fun k => by rw [whorlref13_Bytes.f]) ?_
  refine Ev.bind (g := fun k => whorlref13_Numbers.f k s) (a := s) (Ev.congr (fun k => rfl) (ref13_Numbers_l0 s hn hb s.length 0 (by omega))) ?_
  exact Ev.bind hev (Ev.now _)


-- fn: known18 phi_LCP ref13_Bytes
theorem falls_l0 (s a : List Int) (hsa : IsSA s a) (hn : s.length ≤ 150) : ∀ (d i : Nat), i + d = a.length → Ev (fun k => whorllaw18_PhiFalls.l0 k a (plcRow s a) (lcpRow s a) (i : Int)) true := by
  have hl := hsa.1
  have hp := hsa.perm
  intro d
  induction d with
  | zero =>
    intro i hd
    refine Ev.step (fun k => by rw [whorllaw18_PhiFalls.l0]) ?_
    simp only [plcRow_length, if_neg (show ¬ (i : Int) < a.length by omega)]
    exact Ev.bind known_ev (Ev.now _)
  | succ d ih =>
    intro i hd
    have hi : i < a.length := by omega
    have hm := hp.1 _ (getD_mem hi)
    have ih := ih (i + 1) (by omega)
    have e1 : rd (plcRow s a) (a.getD i 0) = lcpAt s a i := by
      rw [← plc_at hp hi]
      exact plcRow_get (by omega)
    have h1 := plc_le (s := s) hp hl hi
    refine Ev.step (fun k => by rw [whorllaw18_PhiFalls.l0]) ?_
    simp only [plcRow_length, lcpRow_length, if_pos (show (i : Int) < a.length by omega), if_pos (show 0 ≤ (i : Int) by omega), rd_nat, if_pos hm.1, if_pos hm.2, lcpRow_get hi, e1, if_true, wrap_nat hi (show a.length ≤ 140737488355328 by omega)]
    by_cases h0 : 0 < i
    · have hf := plc_falls_all hsa (v := i - 1) (by omega)
      rw [show i - 1 + 1 = i by omega] at hf
      have h2 := plc_le (s := s) hp hl (v := i - 1) (by omega)
      have w : wrap64 ((i : Int) - 1) = ((i - 1 : Nat) : Int) := by rw [wrap64_id (by omega) (by omega)]; omega
      simp only [w, rd_nat]
      clear w
      rw [plcRow_get hi, plcRow_get (show i - 1 < a.length by omega), wrap64_id (x := plc s a (i - 1) - 1) (by omega) (by omega)]
      simp only [if_pos (show (i : Int) > 0 by omega), if_pos (show (0 : Int) ≤ ((i - 1 : Nat) : Int) by omega), if_pos (show ((i - 1 : Nat) : Int) < a.length by omega), if_neg (show ¬ plc s a i < plc s a (i - 1) - 1 by omega)]
      exact ih
    · simp only [if_neg (show ¬ (i : Int) > 0 by omega)]
      exact ih

theorem PhiFalls : whorllaw18_PhiFalls.Pure := by
  intro s h1 h2 h3
  have hb : ∀ x ∈ s, 0 ≤ x ∧ x ≤ 255 := fun x hx => wf_u8 (h3 x hx)
  refine Ev.rounds ?_
  refine Ev.congr (fun k => by rw [whorllaw18_PhiFalls.f]) ?_
  by_cases g1 : (s.length : Int) > 150
  · simp only [if_pos g1]; exact Ev.now _
  simp only [if_neg g1]
  obtain ⟨a, ha, hev⟩ := ref13_Bytes_ev s (by omega) hb
  have hl := ha.1
  refine Ev.bind hev ?_
  refine Ev.bind (phi_PLCP_ev s a (by omega)) ?_
  refine Ev.bind (phi_LCP_ev s a (by omega)) ?_
  rw [plcR, lcpR, if_pos ⟨ha.perm, hl⟩, if_pos ⟨ha.perm, hl⟩]
  have e : (((lcpRow s a).length : Int) != (s.length : Int)) = false := by rw [lcpRow_length, hl]; simp
  simp only [if_true, plcRow_length, if_pos (show (a.length : Int) = s.length by omega), e]
  refine Ev.step (fun k => by rw [whorllaw18_PhiFalls.j0]) ?_
  simp only [if_neg (show ¬ false = true by decide)]
  exact falls_l0 s a ha (by omega) a.length 0 (by omega)

end Go.Proofs.Ytbffiblkagkkpaa.Pure
