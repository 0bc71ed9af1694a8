/- LeastTurned: what the statement LeastTurned says of the printed functions, proved for every input that its guards let in. Conditions: none beside the statement's own. -/
import Derived.Test.YtadldiloeccnlaaHLeastTurnedx3
import Derived.Test.YtadldiloeccnlaaMLeastTurned
set_option linter.unusedVariables false
set_option linter.unusedSimpArgs false
namespace Go.Proofs.Ytadldiloeccnlaa.Pure
open Go Go.RowKit Go.Proofs.Ytadldiloeccnlaa.PLeastTurned Go.Proofs.YtadldiloeccnlaaW.PrintWords Go.Proofs.YtadldiloeccnlaaW.PrintLast Go.Proofs.Ytadldiloeccnlaa.MM

theorem known_ev : Ev (fun k => whorllaw6_known.f k) true := Ev.of (whorllaw6_known.mono) (k := 100) (by decide +kernel)


-- math: W Base Perm SA Rot Pow Least
theorem tmod_nat' {a b : Nat} : Int.tmod (a : Int) (b : Int) = ((a % b : Nat) : Int) := by
  rw [Int.tmod_eq_emod_of_nonneg (by omega)]; omega

theorem mn_nat (a b : Nat) : mn (a : Int) (b : Int) = ((min a b : Nat) : Int) := by
  rw [Nat.min_def]; unfold mn; split <;> split <;> omega

theorem least_stop (s : List Int) (i j c : Nat) (h : ¬ (i < s.length ∧ j < s.length ∧ c < s.length)) : Ev (fun k => least_At.l0 k s (s.length : Int) (i : Int) (j : Int) (c : Int)) ((min i j : Nat) : Int) := by
  have hj : Ev (fun k => least_At.j1 k s (s.length : Int) (i : Int) (j : Int) (c : Int) false) ((min i j : Nat) : Int) := by
    refine Ev.step (fun k => by rw [least_At.j1]) ?_
    simp only [if_neg (show ¬ false = true by decide), mn_nat]
    exact Ev.now _
  refine Ev.step (fun k => by rw [least_At.l0]) ?_
  by_cases h1 : i < s.length
  · by_cases h2 : j < s.length
    · simp only [if_pos (show (i : Int) < s.length by omega), if_pos (show (j : Int) < s.length by omega)]
      rw [show decide ((c : Int) < s.length) = false by rw [decide_eq_false_iff_not]; omega]
      exact hj
    · simp only [if_pos (show (i : Int) < s.length by omega), if_neg (show ¬ (j : Int) < s.length by omega)]
      exact hj
  · simp only [if_neg (show ¬ (i : Int) < s.length by omega)]
    exact hj

theorem least_At_l0 (s : List Int) (hn : s.length ≤ 1000) (l : Nat) (hl : isLst s l) : ∀ (d i j : Nat), 2 * s.length ≤ i + j + d → Inv2 s i j → (i < s.length ∨ j < s.length) → ∀ (e c : Nat), s.length ≤ c + e → c ≤ s.length →
    (∀ y, y < c → s.getD ((i + y) % s.length) 0 = s.getD ((j + y) % s.length) 0) → Ev (fun k => least_At.l0 k s (s.length : Int) (i : Int) (j : Int) (c : Int)) (l : Int) := by
  intro d
  induction d with
  | zero =>
    intro i j hd I hm e c he hc h
    have := least_stop s i j c (by have := I.1; omega)
    rwa [I.done hm (by omega) hl] at this
  | succ d ihd =>
    intro i j hd I hm e
    induction e with
    | zero =>
      intro c he hc h
      have := least_stop s i j c (by omega)
      by_cases hij : i < s.length ∧ j < s.length
      · rwa [I.same hij.1 hij.2 (fun y hy => h y (by omega)) hl] at this
      · rwa [I.done hm (by omega) hl] at this
    | succ e ihe =>
      intro c he hc h
      by_cases g : i < s.length ∧ j < s.length ∧ c < s.length
      · obtain ⟨hi, hj, hc⟩ := g
        have hx := Nat.mod_lt (i + c) (show 0 < s.length by omega)
        have hy := Nat.mod_lt (j + c) (show 0 < s.length by omega)
        refine Ev.step (fun k => by rw [least_At.l0]) ?_
        simp only [if_pos (show (i : Int) < s.length by omega), if_pos (show (j : Int) < s.length by omega)]
        rw [show decide ((c : Int) < s.length) = true by rw [decide_eq_true_iff]; omega]
        refine Ev.step (fun k => by rw [least_At.j1]) ?_
        have w1 : Int.tmod (wrap64 ((i : Int) + c)) (s.length : Int) = (((i + c) % s.length : Nat) : Int) := by
          rw [wrap64_id (by omega) (by omega), show (i : Int) + c = ((i + c : Nat) : Int) by omega, tmod_nat']
        have w2 : Int.tmod (wrap64 ((j : Int) + c)) (s.length : Int) = (((j + c) % s.length : Nat) : Int) := by
          clear w1
          rw [wrap64_id (by omega) (by omega), show (j : Int) + c = ((j + c : Nat) : Int) by omega, tmod_nat']
        have w3 : wrap64 ((c : Int) + 1) = ((c + 1 : Nat) : Int) := by clear w1 w2; rw [wrap64_id (by omega) (by omega)]; omega
        have w4 : wrap64 ((i : Int) + ((c + 1 : Nat) : Int)) = ((i + c + 1 : Nat) : Int) := by clear w1 w2 w3; rw [wrap64_id (by omega) (by omega)]; omega
        have w5 : wrap64 ((j : Int) + ((c + 1 : Nat) : Int)) = ((j + c + 1 : Nat) : Int) := by clear w1 w2 w3 w4; rw [wrap64_id (by omega) (by omega)]; omega
        have w6 : wrap64 ((j : Int) + 1) = ((j + 1 : Nat) : Int) := by clear w1 w2 w3 w4 w5; rw [wrap64_id (by omega) (by omega)]; omega
        have w7 : wrap64 (((j + c + 1 : Nat) : Int) + 1) = ((j + c + 1 + 1 : Nat) : Int) := by clear w1 w2 w3 w4 w5 w6; rw [wrap64_id (by omega) (by omega)]; omega
        simp only [w1, w2, w3, w4, w5, w6, w7, rd_nat]
        clear w1 w2 w3 w4 w5 w6 w7
        simp only [if_true, if_neg (show ¬ (s.length : Int) = 0 by omega), if_pos (show (0 : Int) ≤ (((i + c) % s.length : Nat) : Int) by omega), if_pos (show (((i + c) % s.length : Nat) : Int) < s.length by omega), if_pos (show (0 : Int) ≤ (((j + c) % s.length : Nat) : Int) by omega), if_pos (show (((j + c) % s.length : Nat) : Int) < s.length by omega)]
        by_cases e1 : s.getD ((i + c) % s.length) 0 = s.getD ((j + c) % s.length) 0
        · simp only [if_pos e1]
          refine ihe (c + 1) (by omega) (by omega) (fun y hy => ?_)
          by_cases e : y = c
          · rw [e]; exact e1
          · exact h y (by omega)
        · simp only [if_neg e1]
          have z : ∀ (a b : Nat), Inv2 s a b → (a < s.length ∨ b < s.length) → i + j + 1 ≤ a + b → Ev (fun k => least_At.l0 k s (s.length : Int) (a : Int) (b : Int) 0) (l : Int) := fun a b Iab hab hs =>
            ihd a b (by omega) Iab hab s.length 0 (by omega) (by omega) (fun y hy => by omega)
          by_cases e2 : s.getD ((i + c) % s.length) 0 > s.getD ((j + c) % s.length) 0
          · simp only [if_pos e2]
            have J := I.jump hc h e2
            by_cases e3 : i + c + 1 = j
            · simp only [if_pos (show ((i + c + 1 : Nat) : Int) = (j : Int) by omega)]
              rw [show ((i + c + 1 : Nat) : Int) = (j : Int) by omega]
              exact z j (j + 1) (J.2 e3) (.inl hj) (by omega)
            · simp only [if_neg (show ¬ ((i + c + 1 : Nat) : Int) = (j : Int) by omega)]
              exact z (i + c + 1) j (J.1 e3) (.inr hj) (by omega)
          · simp only [if_neg e2]
            have J := I.symm.jump hc (fun y hy => (h y hy).symm) (by omega)
            by_cases e3 : j + c + 1 = i
            · simp only [if_pos (show (i : Int) = ((j + c + 1 : Nat) : Int) by omega)]
              rw [show j + c + 1 + 1 = i + 1 by omega]
              exact z i (i + 1) (J.2 e3) (.inl hi) (by omega)
            · simp only [if_neg (show ¬ (i : Int) = ((j + c + 1 : Nat) : Int) by omega)]
              exact z i (j + c + 1) (J.1 e3).symm (.inl hi) (by omega)
      · have := least_stop s i j c g
        by_cases hij : i < s.length ∧ j < s.length
        · rwa [I.same hij.1 hij.2 (fun y hy => h y (by omega)) hl] at this
        · rwa [I.done hm (by omega) hl] at this

theorem least_At_ev (s : List Int) (hn : s.length ≤ 1000) (l : Nat) (hl : isLst s l) : Ev (fun k => least_At.f k s) (l : Int) := by
  refine Ev.congr (fun k => by rw [least_At.f]) ?_
  by_cases h0 : s.length = 0
  · have := least_stop s 0 1 0 (by omega)
    rw [hl.2.2 h0]
    exact this
  · exact least_At_l0 s hn l hl (2 * s.length) 0 1 (by omega) (inv2_start s) (.inl (by omega)) s.length 0 (by omega) (by omega) (fun y hy => by omega)

theorem concat_ev (a b : List Int) (hn : a.length + b.length ≤ 1000) : Ev (fun k => slices_Concat_byte_byte.f k [a, b]) (a ++ b) := by
  refine Ev.congr (fun k => by rw [slices_Concat_byte_byte.f]) ?_
  refine Ev.step (fun k => by rw [slices_Concat_byte_byte.l0]) ?_
  have r0 : rd_L1 [a, b] 0 = a := rfl
  have r1 : rd_L1 [a, b] 1 = b := rfl
  have w1 : wrap64 (0 + (a.length : Int)) = (a.length : Int) := by rw [wrap64_id (by omega) (by omega)]; omega
  have w2 : wrap64 ((a.length : Int) + b.length) = ((a.length + b.length : Nat) : Int) := by clear w1; rw [wrap64_id (by omega) (by omega)]; omega
  have w3 : wrap64 (0 + 1) = 1 := by decide +kernel
  have w4 : wrap64 (1 + 1) = 2 := by decide +kernel
  simp only [List.length_cons, List.length_nil, Nat.zero_add, Nat.reduceAdd, Int.cast_ofNat_Int, if_pos (show (0 : Int) < 2 by decide), if_pos (show (0 : Int) ≤ 0 by decide), r0, w1, w3, if_neg (show ¬ (a.length : Int) < 0 by clear w1 w2 w3 w4; omega)]
  refine Ev.step (fun k => by rw [slices_Concat_byte_byte.l0]) ?_
  simp only [List.length_cons, List.length_nil, Nat.zero_add, Nat.reduceAdd, Int.cast_ofNat_Int, if_pos (show (1 : Int) < 2 by decide), if_pos (show (0 : Int) ≤ 1 by decide), r1, w2, w4, if_neg (show ¬ ((a.length + b.length : Nat) : Int) < 0 by clear w1 w2 w3 w4; omega)]
  refine Ev.step (fun k => by rw [slices_Concat_byte_byte.l0]) ?_
  have hg : slices_Grow_byte_byte.f [] ((a.length + b.length : Nat) : Int) = some [] := by
    clear w1 w2 w3 w4
    unfold slices_Grow_byte_byte.f; rw [if_pos (by omega), if_pos (by omega)]
  simp only [if_neg (show ¬ (2 : Int) < 2 by decide), hg, Option.bind_some]
  refine Ev.step (fun k => by rw [slices_Concat_byte_byte.l1]) ?_
  simp only [List.length_cons, List.length_nil, Nat.zero_add, Nat.reduceAdd, Int.cast_ofNat_Int, if_pos (show (0 : Int) < 2 by decide), if_pos (show (0 : Int) ≤ 0 by decide), r0, w3, if_pos (show a.length < 140737488355328 by clear w1 w2 w3 w4; omega), List.nil_append]
  refine Ev.step (fun k => by rw [slices_Concat_byte_byte.l1]) ?_
  simp only [List.length_cons, List.length_nil, Nat.zero_add, Nat.reduceAdd, Int.cast_ofNat_Int, if_pos (show (1 : Int) < 2 by decide), if_pos (show (0 : Int) ≤ 1 by decide), r1, w4, if_pos (show a.length + b.length < 140737488355328 by clear w1 w2 w3 w4; omega)]
  refine Ev.step (fun k => by rw [slices_Concat_byte_byte.l1]) ?_
  simp only [if_neg (show ¬ (2 : Int) < 2 by decide)]
  exact Ev.now _

theorem least_Of_ev (s : List Int) (hn : s.length ≤ 1000) (l : Nat) (hl : isLst s l) : Ev (fun k => least_Of.f k s) (rot s l) := by
  refine Ev.congr (fun k => by rw [least_Of.f]) ?_
  refine Ev.bind (least_At_ev s hn l hl) ?_
  have hle : l ≤ s.length := by
    by_cases h0 : s.length = 0
    · rw [hl.2.2 h0]; omega
    · have := hl.2.1 (by omega); omega
  simp only [if_pos (show (0 : Int) ≤ l by omega), if_pos (show (l : Int) ≤ s.length by omega), Int.toNat_natCast]
  exact Ev.bind (concat_ev _ _ (by rw [List.length_drop, List.length_take]; omega)) (Ev.now _)

theorem least_Is_ev (s : List Int) (hn : s.length ≤ 1000) (l : Nat) (hl : isLst s l) : Ev (fun k => least_Is.f k s) (decide (l = 0)) := by
  refine Ev.congr (fun k => by rw [least_Is.f]) ?_
  refine Ev.bind (least_At_ev s hn l hl) ?_
  rw [show ((l : Int) == 0) = decide (l = 0) by rw [Bool.eq_iff_iff, beq_iff_eq, decide_eq_true_iff]; omega]
  exact Ev.now _


-- math: W Base Perm SA Rot
theorem ref4_Turn_eq (s : List Int) (hn : s.length ≤ 1000) (i : Nat) (hi : i ≤ s.length) : whorlref4_Turn.f s (i : Int) = some (rot s i) := by
  unfold whorlref4_Turn.f rot
  have h1 : (s.drop i).length = s.length - i := List.length_drop
  have h2 : (s.take i).length = min i s.length := List.length_take
  simp only [Option.bind_some, Int.toNat_natCast, if_pos (show 0 ≤ (i : Int) by omega), if_pos (show (i : Int) ≤ s.length by omega), List.nil_append, List.length_nil, Nat.zero_add]
  rw [if_pos (by omega), if_pos (by omega)]


-- fn: known6 least ref4_Turn
theorem LeastTurned : whorllaw6_LeastTurned.Pure := by
  intro s i h1 h2 h3 h4
  refine Ev.rounds ?_
  have hg : Ev (fun k => whorllaw6_LeastTurned.j0 k s i true) true := Ev.step (fun k => by rw [whorllaw6_LeastTurned.j0]) (by simp only [if_true]; exact Ev.now _)
  refine Ev.congr (fun k => by rw [whorllaw6_LeastTurned.f]) ?_
  by_cases g1 : (s.length : Int) < 1
  · simp only [if_pos g1]; exact hg
  by_cases g2 : (s.length : Int) > 200
  · simp only [if_neg g1, if_pos g2]; exact hg
  by_cases g3 : i < 0
  · simp only [if_neg g1, if_neg g2, if_pos g3]; exact hg
  simp only [if_neg g1, if_neg g2, if_neg g3]
  by_cases g4 : i ≥ s.length
  · rw [show decide (i ≥ (s.length : Int)) = true by rw [decide_eq_true_iff]; exact g4]; exact hg
  rw [show decide (i ≥ (s.length : Int)) = false by rw [decide_eq_false_iff_not]; exact g4]
  obtain ⟨i, rfl⟩ : ∃ m : Nat, i = m := ⟨i.toNat, by omega⟩
  obtain ⟨l, hl⟩ := lst_ex s
  have hll := hl.2.1 (by omega)
  obtain ⟨l', hl'⟩ := lst_ex (rot s i)
  have hrl : (rot s i).length = s.length := rot_length (by omega)
  have hrl2 : (rot s l).length = s.length := rot_length (by omega)
  refine Ev.step (fun k => by rw [whorllaw6_LeastTurned.j0]) ?_
  simp only [if_neg (show ¬ false = true by decide)]
  refine Ev.bind (least_Of_ev s (by omega) l hl) ?_
  rw [ref4_Turn_eq s (by omega) i (by omega)]
  simp only [Option.bind_some]
  refine Ev.bind (least_Of_ev (rot s i) (by omega) l' hl') ?_
  rw [turned_lst (by omega) hl hl']
  simp only [if_true]
  refine Ev.bind (least_Is_ev (rot s l) (by omega) 0 (lst_self (by omega) hl)) ?_
  simp only [decide_true, if_true]
  exact Ev.bind known_ev (Ev.now _)

end Go.Proofs.Ytadldiloeccnlaa.Pure
