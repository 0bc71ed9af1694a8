-- Laid by a program of this session (wip/hp.sh): functions, contracts, rows for this claim. Lean checks it.
import Derived.Test.YthdmoeckoblpdaaHLfWholex0
import Derived.Test.YthdmoeckoblpdaaHLfWholex1
import Derived.Test.YthdmoeckoblpdaaHLfWholex2
import Derived.Test.YthdmoeckoblpdaaHLfWholex4
namespace Go.Proofs.Ythdmoeckoblpdaa.PLfWhole
open Go.RowKit Go.Proofs.YthdmoeckoblpdaaW.PrintWords Go.Proofs.YthdmoeckoblpdaaW.PrintLast Go.Proofs.YthdmoeckoblpdaaW.PrintMore
attribute [local go_sem] max2_int min2_int max_two min_two max_three min_three max_four min_four   -- for this text's walks alone
set_option linter.unusedVariables false
set_option linter.unusedSimpArgs false

/-! ### whorllaw22_LfWhole: function 6 -/
mutual
def whorllaw22_LfWhole.j0 : Nat → List Int → Bool → Option (Bool)
  | 0, _, _ => none
  | k + 1, x0, x17 => if x17 = true then (some true) else ((lf_Cycles.f k x0).bind fun bt203 => (if bt203.2 = true then (whorllaw22_LfWhole.l0 k x0 bt203.1 (-1) 0) else (some false)))
def whorllaw22_LfWhole.l0 : Nat → List Int → List (List Int) → Int → Int → Option (Bool)
  | 0, _, _, _, _ => none
  | k + 1, x0, x3, x5, x6 => if x6 < (x3.length : Int) then (if 0 ≤ x6 then (if ((rd_L2 x3 x6).length : Int) = 0 then (whorllaw22_LfWhole.j2 k x0 x3 x6 ((rd_L2 x3 x6).length : Int) true) else (if 0 < ((rd_L2 x3 x6).length : Int) then (whorllaw22_LfWhole.j2 k x0 x3 x6 ((rd_L2 x3 x6).length : Int) (decide ((rd (rd_L2 x3 x6) 0) ≤ x5))) else (none))) else (none)) else ((whorllaw22_known.f k).bind fun t207 => (some t207))
def whorllaw22_LfWhole.j2 : Nat → List Int → List (List Int) → Int → Int → Bool → Option (Bool)
  | 0, _, _, _, _, _ => none
  | k + 1, x0, x3, x6, x7, x47 => if x47 = true then (some false) else (if 0 ≤ x6 then (if x6 < (x3.length : Int) then (if 0 < ((rd_L2 x3 x6).length : Int) then (whorllaw22_LfWhole.l1 k x0 x3 (rd (rd_L2 x3 x6) 0) x6 x7 0) else (none)) else (none)) else (none))
def whorllaw22_LfWhole.l1 : Nat → List Int → List (List Int) → Int → Int → Int → Int → Option (Bool)
  | 0, _, _, _, _, _, _ => none
  | k + 1, x0, x3, x5, x6, x7, x8 => if x8 < x7 then (if 0 ≤ x6 then (if x6 < (x3.length : Int) then (if 0 ≤ x8 then (if x8 < ((rd_L2 x3 x6).length : Int) then (if (rd (rd_L2 x3 x6) x8) < x5 then (some false) else (if (rd (rd_L2 x3 x6) x8) ≥ (x0.length : Int) then (some false) else (if 0 ≤ (rd (rd_L2 x3 x6) x8) then (if (rd (rd_L2 x3 x6) x8) < (x0.length : Int) then (if x7 = 0 then (none) else (if 0 ≤ (Int.tmod (wrap64 (x8 + 1)) x7) then (if (Int.tmod (wrap64 (x8 + 1)) x7) < ((rd_L2 x3 x6).length : Int) then (if (rd x0 (rd (rd_L2 x3 x6) x8)) = (rd (rd_L2 x3 x6) (Int.tmod (wrap64 (x8 + 1)) x7)) then (whorllaw22_LfWhole.l1 k x0 x3 x5 x6 x7 (wrap64 (x8 + 1))) else (some false)) else (none)) else (none))) else (none)) else (none)))) else (none)) else (none)) else (none)) else (none)) else (whorllaw22_LfWhole.l0 k x0 x3 x5 (wrap64 (x6 + 1)))
end
def whorllaw22_LfWhole.f (k : Nat) (l0 : List Int) : Option (Bool) := if (l0.length : Int) > 150 then (whorllaw22_LfWhole.j0 k l0 true) else ((whorlref16_Is.f k l0).bind fun t202 => (whorllaw22_LfWhole.j0 k l0 (!t202)))
theorem whorllaw22_LfWhole.mono_l : ∀ k, (∀ y0 y1, LeO (whorllaw22_LfWhole.j0 k y0 y1) (whorllaw22_LfWhole.j0 (k + 1) y0 y1)) ∧ (∀ y0 y1 y2 y3, LeO (whorllaw22_LfWhole.l0 k y0 y1 y2 y3) (whorllaw22_LfWhole.l0 (k + 1) y0 y1 y2 y3)) ∧ (∀ y0 y1 y2 y3 y4, LeO (whorllaw22_LfWhole.j2 k y0 y1 y2 y3 y4) (whorllaw22_LfWhole.j2 (k + 1) y0 y1 y2 y3 y4)) ∧ (∀ y0 y1 y2 y3 y4 y5, LeO (whorllaw22_LfWhole.l1 k y0 y1 y2 y3 y4 y5) (whorllaw22_LfWhole.l1 (k + 1) y0 y1 y2 y3 y4 y5))
  | 0 => ⟨fun _ _ r h => by simp [whorllaw22_LfWhole.j0] at h, fun _ _ _ _ r h => by simp [whorllaw22_LfWhole.l0] at h, fun _ _ _ _ _ r h => by simp [whorllaw22_LfWhole.j2] at h, fun _ _ _ _ _ _ r h => by simp [whorllaw22_LfWhole.l1] at h⟩
  | k + 1 => by
    obtain ⟨ih0, ih1, ih2, ih3⟩ := whorllaw22_LfWhole.mono_l k
    refine ⟨?_, ?_, ?_, ?_⟩
    · intro y0 y1
      unfold whorllaw22_LfWhole.j0
      repeat' first
      | (with_reducible exact ih0 _ _)
      | (with_reducible exact ih1 _ _ _ _)
      | (with_reducible exact ih2 _ _ _ _ _)
      | (with_reducible exact ih3 _ _ _ _ _ _)
      | (with_reducible exact lf_Cycles.mono _ _)
      | (with_reducible exact whorllaw22_known.mono _)
      | (with_reducible exact whorlref16_Is.mono _ _)
      | (with_reducible exact LeO.refl _)
      | (with_reducible exact LeO.none _)
      | (with_reducible refine LeO.ite ?_ ?_)
      | (with_reducible refine LeO.bind ?_ (fun _ => ?_))
      | exact ih0 _ _
      | exact ih1 _ _ _ _
      | exact ih2 _ _ _ _ _
      | exact ih3 _ _ _ _ _ _
      | exact lf_Cycles.mono _ _
      | exact whorllaw22_known.mono _
      | exact whorlref16_Is.mono _ _
      | exact LeO.none _
      | refine LeO.ite ?_ ?_
      | refine LeO.bind ?_ (fun _ => ?_)
    · intro y0 y1 y2 y3
      unfold whorllaw22_LfWhole.l0
      repeat' first
      | (with_reducible exact ih0 _ _)
      | (with_reducible exact ih1 _ _ _ _)
      | (with_reducible exact ih2 _ _ _ _ _)
      | (with_reducible exact ih3 _ _ _ _ _ _)
      | (with_reducible exact lf_Cycles.mono _ _)
      | (with_reducible exact whorllaw22_known.mono _)
      | (with_reducible exact whorlref16_Is.mono _ _)
      | (with_reducible exact LeO.refl _)
      | (with_reducible exact LeO.none _)
      | (with_reducible refine LeO.ite ?_ ?_)
      | (with_reducible refine LeO.bind ?_ (fun _ => ?_))
      | exact ih0 _ _
      | exact ih1 _ _ _ _
      | exact ih2 _ _ _ _ _
      | exact ih3 _ _ _ _ _ _
      | exact lf_Cycles.mono _ _
      | exact whorllaw22_known.mono _
      | exact whorlref16_Is.mono _ _
      | exact LeO.none _
      | refine LeO.ite ?_ ?_
      | refine LeO.bind ?_ (fun _ => ?_)
    · intro y0 y1 y2 y3 y4
      unfold whorllaw22_LfWhole.j2
      repeat' first
      | (with_reducible exact ih0 _ _)
      | (with_reducible exact ih1 _ _ _ _)
      | (with_reducible exact ih2 _ _ _ _ _)
      | (with_reducible exact ih3 _ _ _ _ _ _)
      | (with_reducible exact lf_Cycles.mono _ _)
      | (with_reducible exact whorllaw22_known.mono _)
      | (with_reducible exact whorlref16_Is.mono _ _)
      | (with_reducible exact LeO.refl _)
      | (with_reducible exact LeO.none _)
      | (with_reducible refine LeO.ite ?_ ?_)
      | (with_reducible refine LeO.bind ?_ (fun _ => ?_))
      | exact ih0 _ _
      | exact ih1 _ _ _ _
      | exact ih2 _ _ _ _ _
      | exact ih3 _ _ _ _ _ _
      | exact lf_Cycles.mono _ _
      | exact whorllaw22_known.mono _
      | exact whorlref16_Is.mono _ _
      | exact LeO.none _
      | refine LeO.ite ?_ ?_
      | refine LeO.bind ?_ (fun _ => ?_)
    · intro y0 y1 y2 y3 y4 y5
      unfold whorllaw22_LfWhole.l1
      repeat' first
      | (with_reducible exact ih0 _ _)
      | (with_reducible exact ih1 _ _ _ _)
      | (with_reducible exact ih2 _ _ _ _ _)
      | (with_reducible exact ih3 _ _ _ _ _ _)
      | (with_reducible exact lf_Cycles.mono _ _)
      | (with_reducible exact whorllaw22_known.mono _)
      | (with_reducible exact whorlref16_Is.mono _ _)
      | (with_reducible exact LeO.refl _)
      | (with_reducible exact LeO.none _)
      | (with_reducible refine LeO.ite ?_ ?_)
      | (with_reducible refine LeO.bind ?_ (fun _ => ?_))
      | exact ih0 _ _
      | exact ih1 _ _ _ _
      | exact ih2 _ _ _ _ _
      | exact ih3 _ _ _ _ _ _
      | exact lf_Cycles.mono _ _
      | exact whorllaw22_known.mono _
      | exact whorlref16_Is.mono _ _
      | exact LeO.none _
      | refine LeO.ite ?_ ?_
      | refine LeO.bind ?_ (fun _ => ?_)
theorem whorllaw22_LfWhole.mono : ∀ a0 k, LeO (whorllaw22_LfWhole.f k a0) (whorllaw22_LfWhole.f (k + 1) a0) := by
  intro a0 k
  obtain ⟨ih0, ih1, ih2, ih3⟩ := whorllaw22_LfWhole.mono_l k
  unfold whorllaw22_LfWhole.f
  repeat' first
      | (with_reducible exact ih0 _ _)
      | (with_reducible exact ih1 _ _ _ _)
      | (with_reducible exact ih2 _ _ _ _ _)
      | (with_reducible exact ih3 _ _ _ _ _ _)
      | (with_reducible exact lf_Cycles.mono _ _)
      | (with_reducible exact whorllaw22_known.mono _)
      | (with_reducible exact whorlref16_Is.mono _ _)
      | (with_reducible exact LeO.refl _)
      | (with_reducible exact LeO.none _)
      | (with_reducible refine LeO.ite ?_ ?_)
      | (with_reducible refine LeO.bind ?_ (fun _ => ?_))
      | exact ih0 _ _
      | exact ih1 _ _ _ _
      | exact ih2 _ _ _ _ _
      | exact ih3 _ _ _ _ _ _
      | exact lf_Cycles.mono _ _
      | exact whorllaw22_known.mono _
      | exact whorlref16_Is.mono _ _
      | exact LeO.none _
      | refine LeO.ite ?_ ?_
      | refine LeO.bind ?_ (fun _ => ?_)
set_option maxHeartbeats 8000000 in
set_option maxRecDepth 100000 in
theorem whorllaw22_LfWhole.calls (k : Nat) (A0 : Option Addr) (c0 : Nat) (l0 : List Int) (r : Bool) (w : World) (hr0 : Kd.C (Kd.int .i64) w A0 l0.length l0) (hc0 : l0.length ≤ c0) (h : whorllaw22_LfWhole.f k l0 = some r) :
    Calls Try.prog 6 #[.slice A0 l0.length c0] w fun e w' => e = .returned (.bool r) ∧ Below w.heap.size w w' := by
  have HR0 := Aside0.mk hr0
  have HC0 := Aside0.mk hc0
  clear hr0 hc0
  have HB := Aside0.mk (Below.refl w.heap.size w)
  have H : (if (l0.length : Int) > 150 then (whorllaw22_LfWhole.j0 k l0 true) else ((whorlref16_Is.f k l0).bind fun t202 => (whorllaw22_LfWhole.j0 k l0 (!t202)))) = some r := h
  clear h
  have HC2 := Aside0.mk H
  clear H
  go_enter Try.func6, Try.ntmps6
  go_upto_region 1 with (fail)
  repeat (go_quiet (fail); go_upto_region 1 with (fail))
  go_cut [17] (fun v17 wc => ∃ (kq : Nat) (x17_1 : Bool), v17 = .bool x17_1 ∧ Aside0 (whorllaw22_LfWhole.j0 kq l0 x17_1 = some r) ∧ Aside0 (kq ≤ k) ∧ Aside0 (Below w.heap.size w wc))
  case first =>
    have H := HC2.out
    clear HC2
    by_cases c3 : (l0.length : Int) > 150
    · rw [if_pos c3] at H
      have c3b0 : decide (150 < (l0.length : Int)) = true := decide_eq_true c3
      have c3b1 : decide (150 < l0.length) = true := decide_eq_true (by omega)
      clear c3
      (first | rw [c3b0] | (simp only [i64_w, i32_w]; rw [c3b0]) | skip)
      have H' := Aside0.mk H
      clear H
      go_wp2
      repeat (go_quiet (fail); try go_wp2)
      go_meet
      case rel => exact ⟨_, (true), (by first | rfl | (simp; done) | (simp [*]; done)), H', ⟨by first | omega | exact Nat.le_refl _⟩, ⟨by repeat (first | (with_reducible first | exact HB.out | apply below_alloc | apply pw_below_drewN | apply below_drew1) | exact HB.out)⟩⟩
    · rw [if_neg c3] at H
      have c3b0 : decide (150 < (l0.length : Int)) = false := decide_eq_false c3
      have c3b1 : decide (150 < l0.length) = false := decide_eq_false (by omega)
      clear c3
      (first | rw [c3b0] | (simp only [i64_w, i32_w]; rw [c3b0]) | skip)
      replace H := Option.bind_eq_some_iff.mp H
      obtain ⟨t202, A40, H⟩ := H
      replace H : (whorllaw22_LfWhole.j0 k l0 (!t202)) = some r := H
      have A4 := Aside0.mk A40
      clear A40
      have H' := Aside0.mk H
      clear H
      go_wp2_with (first | (go_at_call 12; (with_reducible refine (whorlref16_Is.calls k _ _ l0 t202 _ ?side1 ?side2 A4.out).mono ?_); (case side1 => repeat (first | exact (Kd.C_below HR0.out HB.out) | (with_reducible refine Kd.C_alloc ?_ _) | (with_reducible refine Kd.C_drewN ?_ _) | (with_reducible refine Kd.C_drew ?_))); (case side2 => exact HC0.out); rintro e w5 ⟨rfl, hb⟩; have n0_ := Aside0.mk (below_step (by repeat (first | (with_reducible first | exact HB.out | apply below_alloc | apply pw_below_drewN | apply below_drew1) | exact HB.out)) hb); clear HB; have HB := n0_; clear n0_; (try clear hb); (try clear hb2); (try clear hk); (try clear hi)))
      repeat (go_quiet (first | (go_at_call 12; (with_reducible refine (whorlref16_Is.calls k _ _ l0 t202 _ ?side1 ?side2 A4.out).mono ?_); (case side1 => repeat (first | exact (Kd.C_below HR0.out HB.out) | (with_reducible refine Kd.C_alloc ?_ _) | (with_reducible refine Kd.C_drewN ?_ _) | (with_reducible refine Kd.C_drew ?_))); (case side2 => exact HC0.out); rintro e w5 ⟨rfl, hb⟩; have n0_ := Aside0.mk (below_step (by repeat (first | (with_reducible first | exact HB.out | apply below_alloc | apply pw_below_drewN | apply below_drew1) | exact HB.out)) hb); clear HB; have HB := n0_; clear n0_; (try clear hb); (try clear hb2); (try clear hk); (try clear hi))); try go_wp2_with (first | (go_at_call 12; (with_reducible refine (whorlref16_Is.calls k _ _ l0 t202 _ ?side1 ?side2 A4.out).mono ?_); (case side1 => repeat (first | exact (Kd.C_below HR0.out HB.out) | (with_reducible refine Kd.C_alloc ?_ _) | (with_reducible refine Kd.C_drewN ?_ _) | (with_reducible refine Kd.C_drew ?_))); (case side2 => exact HC0.out); rintro e w5 ⟨rfl, hb⟩; have n0_ := Aside0.mk (below_step (by repeat (first | (with_reducible first | exact HB.out | apply below_alloc | apply pw_below_drewN | apply below_drew1) | exact HB.out)) hb); clear HB; have HB := n0_; clear n0_; (try clear hb); (try clear hb2); (try clear hk); (try clear hi))))
      go_meet
      case rel => exact ⟨_, (!t202), (by first | rfl | (simp; done) | (simp [*]; done)), H', ⟨by first | omega | exact Nat.le_refl _⟩, ⟨by repeat (first | (with_reducible first | exact HB.out | apply below_alloc | apply pw_below_drewN | apply below_drew1) | exact HB.out)⟩⟩
  case rest =>
    clear HC2
    try clear p2
    try clear c3
    try clear c3b0
    try clear c3b1
    obtain ⟨kq, x17_1, rfl, HA, HJ1, HB⟩ := hcut
    cases kq with
    | zero => exact absurd HA.out (by simp [whorllaw22_LfWhole.j0])
    | succ kj1 =>
      have H := HA.out
      clear HA
      simp only [whorllaw22_LfWhole.j0] at H
      by_cases c6 : x17_1 = true
      · subst c6
        have H1 : (some true) = some r := by rw [if_pos rfl] at H; exact H
        clear H
        have H := H1
        clear H1
        obtain rfl := Option.some.inj H
        go_wp2
        repeat (go_quiet (fail); try go_wp2)
        go_ret
        exact ⟨by first | rfl | (simp [errW_none, errW_some] <;> rfl) | (simp [*, errW_none, errW_some] <;> rfl), by repeat (first | (with_reducible first | exact HB.out | apply below_alloc | apply pw_below_drewN | apply below_drew1) | exact HB.out)⟩
      · replace c6 := Bool.eq_false_iff.mpr c6
        subst c6
        have H1 : ((lf_Cycles.f kj1 l0).bind fun bt203 => (if bt203.2 = true then (whorllaw22_LfWhole.l0 kj1 l0 bt203.1 (-1) 0) else (some false))) = some r := by rw [if_neg (show ¬ (false = true) by decide)] at H; exact H
        clear H
        have H := H1
        clear H1
        replace H := Option.bind_eq_some_iff.mp H
        obtain ⟨⟨t203, t204⟩, A70, H⟩ := H
        replace H : (if t204 = true then (whorllaw22_LfWhole.l0 kj1 l0 t203 (-1) 0) else (some false)) = some r := H
        have A7 := Aside0.mk A70
        clear A70
        by_cases c8 : t204 = true
        · subst c8
          have H1 : (whorllaw22_LfWhole.l0 kj1 l0 t203 (-1) 0) = some r := by rw [if_pos rfl] at H; exact H
          clear H
          have H := H1
          clear H1
          have H' := Aside0.mk H
          clear H
          go_wp2_with (first | (go_at_call 8; (with_reducible refine (lf_Cycles.calls kj1 _ _ l0 t203 true _ ?side1 ?side2 A7.out).mono ?_); (case side1 => repeat (first | exact (Kd.C_below HR0.out HB.out) | (with_reducible refine Kd.C_alloc ?_ _) | (with_reducible refine Kd.C_drewN ?_ _) | (with_reducible refine Kd.C_drew ?_))); (case side2 => exact HC0.out); rintro e w9 ⟨v205, rfl, ho0, hb⟩; have n0_ := Aside0.mk (Kd.S_lower ho0 (below_size (by repeat (first | (with_reducible first | exact HB.out | apply below_alloc | apply pw_below_drewN | apply below_drew1) | exact HB.out)))); have n1_ := Aside0.mk (below_step (by repeat (first | (with_reducible first | exact HB.out | apply below_alloc | apply pw_below_drewN | apply below_drew1) | exact HB.out)) hb); clear HB; have HO206 := n0_; have HB := n1_; clear n0_ n1_; (try clear hb); (try clear hb2); (try clear hk); (try clear hi); (try clear ho0)))
          repeat (go_quiet (first | (go_at_call 8; (with_reducible refine (lf_Cycles.calls kj1 _ _ l0 t203 true _ ?side1 ?side2 A7.out).mono ?_); (case side1 => repeat (first | exact (Kd.C_below HR0.out HB.out) | (with_reducible refine Kd.C_alloc ?_ _) | (with_reducible refine Kd.C_drewN ?_ _) | (with_reducible refine Kd.C_drew ?_))); (case side2 => exact HC0.out); rintro e w9 ⟨v205, rfl, ho0, hb⟩; have n0_ := Aside0.mk (Kd.S_lower ho0 (below_size (by repeat (first | (with_reducible first | exact HB.out | apply below_alloc | apply pw_below_drewN | apply below_drew1) | exact HB.out)))); have n1_ := Aside0.mk (below_step (by repeat (first | (with_reducible first | exact HB.out | apply below_alloc | apply pw_below_drewN | apply below_drew1) | exact HB.out)) hb); clear HB; have HO206 := n0_; have HB := n1_; clear n0_ n1_; (try clear hb); (try clear hb2); (try clear hk); (try clear hi); (try clear ho0))); try go_wp2_with (first | (go_at_call 8; (with_reducible refine (lf_Cycles.calls kj1 _ _ l0 t203 true _ ?side1 ?side2 A7.out).mono ?_); (case side1 => repeat (first | exact (Kd.C_below HR0.out HB.out) | (with_reducible refine Kd.C_alloc ?_ _) | (with_reducible refine Kd.C_drewN ?_ _) | (with_reducible refine Kd.C_drew ?_))); (case side2 => exact HC0.out); rintro e w9 ⟨v205, rfl, ho0, hb⟩; have n0_ := Aside0.mk (Kd.S_lower ho0 (below_size (by repeat (first | (with_reducible first | exact HB.out | apply below_alloc | apply pw_below_drewN | apply below_drew1) | exact HB.out)))); have n1_ := Aside0.mk (below_step (by repeat (first | (with_reducible first | exact HB.out | apply below_alloc | apply pw_below_drewN | apply below_drew1) | exact HB.out)) hb); clear HB; have HO206 := n0_; have HB := n1_; clear n0_ n1_; (try clear hb); (try clear hb2); (try clear hk); (try clear hi); (try clear ho0))))
          go_loopg [5, 6] kj1 (fun kq v5 v6 w' => ∃ (x5_2 : Int) (x6_2 : Int), v5 = .int .i64 x5_2 ∧ v6 = .int .i64 x6_2 ∧ Aside0 (whorllaw22_LfWhole.l0 kq l0 t203 x5_2 x6_2 = some r) ∧ Aside0 (kq ≤ kj1) ∧ Aside0 (Kd.S (Kd.slice 3 (Kd.int .i64)) 23 w' w.heap.size (fun _ => True) v205 t203) ∧ Aside0 (Below w.heap.size w w'))
          case atStart => exact ⟨((-1)), (0), (by first | rfl | (simp; done) | (simp [*]; done)), (by first | rfl | (simp; done) | (simp [*]; done)), H', ⟨Nat.le_refl _⟩, ⟨by (with_reducible repeat (first | apply Kd.S_alloc | apply Kd.S_drewN | apply Kd.S_drew)); exact HO206.out⟩, ⟨by repeat (first | (with_reducible first | exact HB.out | apply below_alloc | apply pw_below_drewN | apply below_drew1) | exact HB.out)⟩⟩
          case round =>
            clear H'
            try clear p2
            try clear c3
            try clear c3b0
            try clear c3b1
            try clear c6
            try clear c8
            try clear p2
            obtain ⟨x5_2, x6_2, rfl, rfl, HA, HK2, HO_3, HB⟩ := hrel
            cases gk with
            | zero => exact absurd HA.out (by simp [whorllaw22_LfWhole.l0])
            | succ k2 =>
              have H := HA.out
              clear HA
              simp only [whorllaw22_LfWhole.l0] at H
              by_cases c10 : x6_2 < (t203.length : Int)
              · rw [if_pos c10] at H
                have c10b0 : decide (x6_2 < (t203.length : Int)) = true := decide_eq_true c10
                clear c10
                by_cases c11 : 0 ≤ x6_2
                · rw [if_pos c11] at H
                  have c11b0 : decide (0 ≤ x6_2) = true := decide_eq_true c11
                  clear c11
                  have HC12 := Aside0.mk H
                  clear H
                  obtain ⟨Ao13, co13, eo13⟩ := Kd.S_slice HO_3.out
                  subst eo13
                  have p208 : 0 ≤ (x6_2 : Int) := of_decide_eq_true (by first | (with_reducible assumption) | assumption)
                  have q208 : x6_2 < (t203.length : Int) := of_decide_eq_true (by first | (with_reducible assumption) | assumption)
                  obtain ⟨ad208, A208_0, c208_0, e208, hx208_0, hl208_0, hi208_0⟩ := at_L2 (Kd.S_reads' HO_3.out).2.2 x6_2 p208 q208
                  cases e208
                  obtain ⟨ce208, hce208, hMe208, hcc208⟩ := Kd.S_get HO_3.out [] x6_2 p208 (by first | exact q208 | exact of_decide_eq_true (by first | (with_reducible assumption) | assumption) | (have e_ := (Kd.S_reads' HO_3.out).1; omega))
                  obtain ⟨ve208_0, rfl, ge208_0⟩ := hMe208
                  have hv208_0 := hcc208 0 _ rfl
                  rw [Nat.add_zero, show ((Kd.slice 3 (Kd.int .i64))).sz = 1 from rfl, Nat.mul_one] at hv208_0
                  replace hv208_0 := Option.some.inj (hv208_0.symm.trans hx208_0)
                  rw [hv208_0] at ge208_0
                  have HL208_0 := Aside0.mk (show Kd.R (Kd.int .i64) 3 _ _ _ _ (rd_L2 t203 x6_2) from ge208_0)
                  clear hv208_0 ge208_0
                  clear hcc208 hce208
                  have HR208_0 := Aside0.mk hi208_0
                  have HC208_0 := Aside0.mk hl208_0
                  clear hi208_0 hl208_0
                  replace p208 := eq_true p208
                  replace q208 := eq_true q208
                  go_upto_region 11 with (fail)
                  repeat (go_quiet (fail); go_upto_region 11 with (fail))
                  go_cut [47] (fun v47 wc => ∃ (kq : Nat) (x47_11 : Bool), v47 = .bool x47_11 ∧ Aside0 (whorllaw22_LfWhole.j2 kq l0 t203 x6_2 ((rd_L2 t203 x6_2).length : Int) x47_11 = some r) ∧ Aside0 (kq ≤ k2) ∧ Aside0 (Kd.S (Kd.slice 3 (Kd.int .i64)) 23 wc w.heap.size (fun _ => True) (.slice (some ad208) t203.length co13) t203) ∧ Aside0 (Kd.C (Kd.int .i64) wc A208_0 (rd_L2 t203 x6_2).length (rd_L2 t203 x6_2)) ∧ Aside0 (Below w.heap.size w wc))
                  case first =>
                    have H := HC12.out
                    clear HC12
                    by_cases c14 : ((rd_L2 t203 x6_2).length : Int) = 0
                    · rw [if_pos c14] at H
                      have c14b0 : (((rd_L2 t203 x6_2).length : Int) == 0) = true := beq_iff_eq.mpr c14
                      have c14b1 : (((rd_L2 t203 x6_2).length : Int) != 0) = false := bne_eq_false_iff_eq.mpr c14
                      clear c14
                      (first | rw [c14b0] | (simp only [i64_w, i32_w]; rw [c14b0]) | skip)
                      have H' := Aside0.mk H
                      clear H
                      go_wp2
                      repeat (go_quiet (fail); try go_wp2)
                      go_meet
                      case rel => exact ⟨_, (true), (by first | rfl | (simp; done) | (simp [*]; done)), H', ⟨by have := HJ1.out; have := HK2.out; first | omega | exact Nat.le_refl _⟩, ⟨by (with_reducible repeat (first | apply Kd.S_alloc | apply Kd.S_drewN | apply Kd.S_drew)); exact HO_3.out⟩, ⟨by repeat (first | (with_reducible exact HR208_0.out) | (with_reducible refine Kd.C_alloc ?_ _) | (with_reducible refine Kd.C_drewN ?_ _) | (with_reducible refine Kd.C_drew ?_) | exact HR208_0.out)⟩, ⟨by repeat (first | (with_reducible first | exact HB.out | apply below_alloc | apply pw_below_drewN | apply below_drew1) | exact HB.out)⟩⟩
                    · rw [if_neg c14] at H
                      have c14b0 : (((rd_L2 t203 x6_2).length : Int) == 0) = false := beq_eq_false_iff_ne.mpr c14
                      have c14b1 : (((rd_L2 t203 x6_2).length : Int) != 0) = true := bne_iff_ne.mpr c14
                      have c14b2 : ¬ ((rd_L2 t203 x6_2) = []) := fun h_ => c14 (by rw [h_]; rfl)
                      (first | rw [c14b0] | (simp only [i64_w, i32_w]; rw [c14b0]) | skip)
                      by_cases c15 : 0 < ((rd_L2 t203 x6_2).length : Int)
                      · rw [if_pos c15] at H
                        have c15b0 : decide (0 < ((rd_L2 t203 x6_2).length : Int)) = true := decide_eq_true c15
                        have c15b1 : decide (0 < (rd_L2 t203 x6_2).length) = true := decide_eq_true (by omega)
                        clear c15
                        have H' := Aside0.mk H
                        clear H
                        have p209 : 0 ≤ (x6_2 : Int) := of_decide_eq_true (by first | (with_reducible assumption) | assumption)
                        have q209 : x6_2 < (t203.length : Int) := of_decide_eq_true (by first | (with_reducible assumption) | assumption)
                        obtain ⟨ad209, A209_0, c209_0, e209, hx209_0, hl209_0, hi209_0⟩ := at_L2 (Kd.S_reads' HO_3.out).2.2 x6_2 p209 q209
                        obtain rfl : ad208 = ad209 := (by injection e209)
                        obtain ⟨rfl, rfl⟩ : A208_0 = A209_0 ∧ c208_0 = c209_0 := by have e_ := hx208_0.symm.trans hx209_0; injection e_ with e_; injection e_ with e1_ e2_ e3_; exact ⟨e1_, e3_⟩
                        obtain ⟨ce209, hce209, hMe209, hcc209⟩ := Kd.S_get HO_3.out [] x6_2 p209 (by first | exact q209 | exact of_decide_eq_true (by first | (with_reducible assumption) | assumption) | (have e_ := (Kd.S_reads' HO_3.out).1; omega))
                        obtain ⟨ve209_0, rfl, ge209_0⟩ := hMe209
                        have hv209_0 := hcc209 0 _ rfl
                        rw [Nat.add_zero, show ((Kd.slice 3 (Kd.int .i64))).sz = 1 from rfl, Nat.mul_one] at hv209_0
                        replace hv209_0 := Option.some.inj (hv209_0.symm.trans hx209_0)
                        rw [hv209_0] at ge209_0
                        have HL209_0 := Aside0.mk (show Kd.R (Kd.int .i64) 3 _ _ _ _ (rd_L2 t203 x6_2) from ge209_0)
                        clear hv209_0 ge209_0
                        clear hcc209 hce209
                        have HR209_0 := Aside0.mk hi209_0
                        have HC209_0 := Aside0.mk hl209_0
                        clear hi209_0 hl209_0
                        replace p209 := eq_true p209
                        replace q209 := eq_true q209
                        have p210 : 0 ≤ (0 : Int) := (by omega)
                        have q210 : 0 < ((rd_L2 t203 x6_2).length : Int) := of_decide_eq_true (by first | (with_reducible assumption) | assumption)
                        obtain ⟨ad210, e210, hx210_0⟩ := Kd.at_int (by repeat (first | (with_reducible exact HR209_0.out) | (with_reducible refine Kd.C_alloc ?_ _) | (with_reducible refine Kd.C_drewN ?_ _) | (with_reducible refine Kd.C_drew ?_) | exact HR209_0.out)) 0 p210 q210
                        cases e210
                        have qi210 : (0 < (rd_L2 t203 x6_2).length) = True := eq_true (by omega)
                        (try rw [show ((0 : Int)).toNat = 0 from rfl] at hx210_0)
                        (try rw [Addr.add_zero'] at hx210_0)
                        replace p210 := eq_true p210
                        replace q210 := eq_true q210
                        go_wp2
                        repeat (go_quiet (fail); try go_wp2)
                        go_meet
                        case rel => exact ⟨_, (decide ((rd (rd_L2 t203 x6_2) 0) ≤ x5_2)), (by first | rfl | (simp; done) | (simp [*]; done)), H', ⟨by have := HJ1.out; have := HK2.out; first | omega | exact Nat.le_refl _⟩, ⟨by (with_reducible repeat (first | apply Kd.S_alloc | apply Kd.S_drewN | apply Kd.S_drew)); exact HO_3.out⟩, ⟨by repeat (first | (with_reducible exact HR208_0.out) | (with_reducible refine Kd.C_alloc ?_ _) | (with_reducible refine Kd.C_drewN ?_ _) | (with_reducible refine Kd.C_drew ?_) | exact HR208_0.out)⟩, ⟨by repeat (first | (with_reducible first | exact HB.out | apply below_alloc | apply pw_below_drewN | apply below_drew1) | exact HB.out)⟩⟩
                      · rw [if_neg c15] at H
                        exact absurd H (by simp)
                  case rest =>
                    clear HC12
                    try clear c1
                    try clear c2
                    try clear p2
                    try clear q2
                    try clear hx2
                    try clear qi2
                    try clear c3
                    try clear c3b0
                    try clear c3b1
                    try clear c6
                    try clear c8
                    try clear c10
                    try clear c10b0
                    try clear c11
                    try clear c11b0
                    try clear c14
                    try clear c14b0
                    try clear c14b1
                    try clear c14b2
                    try clear c15
                    try clear c15b0
                    try clear c15b1
                    try clear hx208_0
                    try clear hx209_0
                    try clear hx210_0
                    try clear p2
                    try clear p208
                    try clear p209
                    try clear p210
                    try clear q208
                    try clear q209
                    try clear q210
                    obtain ⟨kq, x47_11, rfl, HA, HJ11, HO_3, HR208_0, HB⟩ := hcut
                    cases kq with
                    | zero => exact absurd HA.out (by simp [whorllaw22_LfWhole.j2])
                    | succ kj11 =>
                      have H := HA.out
                      clear HA
                      simp only [whorllaw22_LfWhole.j2] at H
                      by_cases c16 : x47_11 = true
                      · subst c16
                        have H1 : (some false) = some r := by rw [if_pos rfl] at H; exact H
                        clear H
                        have H := H1
                        clear H1
                        obtain rfl := Option.some.inj H
                        go_wp2
                        repeat (go_quiet (fail); try go_wp2)
                        go_ret
                        exact ⟨by first | rfl | (simp [errW_none, errW_some] <;> rfl) | (simp [*, errW_none, errW_some] <;> rfl), by repeat (first | (with_reducible first | exact HB.out | apply below_alloc | apply pw_below_drewN | apply below_drew1) | exact HB.out)⟩
                      · replace c16 := Bool.eq_false_iff.mpr c16
                        subst c16
                        have H1 : (if 0 ≤ x6_2 then (if x6_2 < (t203.length : Int) then (if 0 < ((rd_L2 t203 x6_2).length : Int) then (whorllaw22_LfWhole.l1 kj11 l0 t203 (rd (rd_L2 t203 x6_2) 0) x6_2 ((rd_L2 t203 x6_2).length : Int) 0) else (none)) else (none)) else (none)) = some r := by rw [if_neg (show ¬ (false = true) by decide)] at H; exact H
                        clear H
                        have H := H1
                        clear H1
                        by_cases c17 : 0 ≤ x6_2
                        · rw [if_pos c17] at H
                          have c17b0 : decide (0 ≤ x6_2) = true := decide_eq_true c17
                          clear c17
                          by_cases c18 : x6_2 < (t203.length : Int)
                          · rw [if_pos c18] at H
                            have c18b0 : decide (x6_2 < (t203.length : Int)) = true := decide_eq_true c18
                            clear c18
                            by_cases c19 : 0 < ((rd_L2 t203 x6_2).length : Int)
                            · rw [if_pos c19] at H
                              have c19b0 : decide (0 < ((rd_L2 t203 x6_2).length : Int)) = true := decide_eq_true c19
                              have c19b1 : decide (0 < (rd_L2 t203 x6_2).length) = true := decide_eq_true (by omega)
                              clear c19
                              have H' := Aside0.mk H
                              clear H
                              have p211 : 0 ≤ (x6_2 : Int) := of_decide_eq_true (by first | (with_reducible assumption) | assumption)
                              have q211 : x6_2 < (t203.length : Int) := of_decide_eq_true (by first | (with_reducible assumption) | assumption)
                              obtain ⟨ad211, A211_0, c211_0, e211, hx211_0, hl211_0, hi211_0⟩ := at_L2 (Kd.S_reads' HO_3.out).2.2 x6_2 p211 q211
                              obtain rfl : ad208 = ad211 := (by injection e211)
                              obtain ⟨ce211, hce211, hMe211, hcc211⟩ := Kd.S_get HO_3.out [] x6_2 p211 (by first | exact q211 | exact of_decide_eq_true (by first | (with_reducible assumption) | assumption) | (have e_ := (Kd.S_reads' HO_3.out).1; omega))
                              obtain ⟨ve211_0, rfl, ge211_0⟩ := hMe211
                              have hv211_0 := hcc211 0 _ rfl
                              rw [Nat.add_zero, show ((Kd.slice 3 (Kd.int .i64))).sz = 1 from rfl, Nat.mul_one] at hv211_0
                              replace hv211_0 := Option.some.inj (hv211_0.symm.trans hx211_0)
                              rw [hv211_0] at ge211_0
                              have HL211_0 := Aside0.mk (show Kd.R (Kd.int .i64) 3 _ _ _ _ (rd_L2 t203 x6_2) from ge211_0)
                              clear hv211_0 ge211_0
                              clear hcc211 hce211
                              have HR211_0 := Aside0.mk hi211_0
                              have HC211_0 := Aside0.mk hl211_0
                              clear hi211_0 hl211_0
                              replace p211 := eq_true p211
                              replace q211 := eq_true q211
                              have p212 : 0 ≤ (0 : Int) := (by omega)
                              have q212 : 0 < ((rd_L2 t203 x6_2).length : Int) := of_decide_eq_true (by first | (with_reducible assumption) | assumption)
                              obtain ⟨ad212, e212, hx212_0⟩ := Kd.at_int (by repeat (first | (with_reducible exact HR211_0.out) | (with_reducible refine Kd.C_alloc ?_ _) | (with_reducible refine Kd.C_drewN ?_ _) | (with_reducible refine Kd.C_drew ?_) | exact HR211_0.out)) 0 p212 q212
                              cases e212
                              have qi212 : (0 < (rd_L2 t203 x6_2).length) = True := eq_true (by omega)
                              (try rw [show ((0 : Int)).toNat = 0 from rfl] at hx212_0)
                              (try rw [Addr.add_zero'] at hx212_0)
                              replace p212 := eq_true p212
                              replace q212 := eq_true q212
                              go_wp2
                              repeat (go_quiet (fail); try go_wp2)
                              go_loopg [8] kj11 (fun kq v8 w' => ∃ (x8_4 : Int), v8 = .int .i64 x8_4 ∧ Aside0 (whorllaw22_LfWhole.l1 kq l0 t203 (rd (rd_L2 t203 x6_2) 0) x6_2 ((rd_L2 t203 x6_2).length : Int) x8_4 = some r) ∧ Aside0 (kq ≤ kj11) ∧ Aside0 (Kd.S (Kd.slice 3 (Kd.int .i64)) 23 w' w.heap.size (fun _ => True) (.slice (some ad208) t203.length co13) t203) ∧ Aside0 (Kd.C (Kd.int .i64) w' A208_0 (rd_L2 t203 x6_2).length (rd_L2 t203 x6_2)) ∧ Aside0 (Kd.C (Kd.int .i64) w' (some ad212) (rd_L2 t203 x6_2).length (rd_L2 t203 x6_2)) ∧ Aside0 (Below w.heap.size w w'))
                              case atStart => exact ⟨(0), (by first | rfl | (simp; done) | (simp [*]; done)), H', ⟨Nat.le_refl _⟩, ⟨by (with_reducible repeat (first | apply Kd.S_alloc | apply Kd.S_drewN | apply Kd.S_drew)); exact HO_3.out⟩, ⟨by repeat (first | (with_reducible exact HR208_0.out) | (with_reducible refine Kd.C_alloc ?_ _) | (with_reducible refine Kd.C_drewN ?_ _) | (with_reducible refine Kd.C_drew ?_) | exact HR208_0.out)⟩, ⟨by repeat (first | (with_reducible exact HR211_0.out) | (with_reducible refine Kd.C_alloc ?_ _) | (with_reducible refine Kd.C_drewN ?_ _) | (with_reducible refine Kd.C_drew ?_) | exact HR211_0.out)⟩, ⟨by repeat (first | (with_reducible first | exact HB.out | apply below_alloc | apply pw_below_drewN | apply below_drew1) | exact HB.out)⟩⟩
                              case round =>
                                clear H'
                                try clear c1
                                try clear c2
                                try clear p2
                                try clear q2
                                try clear hx2
                                try clear qi2
                                try clear c3
                                try clear c3b0
                                try clear c3b1
                                try clear c6
                                try clear c8
                                try clear c10
                                try clear c10b0
                                try clear c11
                                try clear c11b0
                                try clear c14
                                try clear c14b0
                                try clear c14b1
                                try clear c14b2
                                try clear c15
                                try clear c15b0
                                try clear c15b1
                                try clear c16
                                try clear c17
                                try clear c17b0
                                try clear c18
                                try clear c18b0
                                try clear c19
                                try clear c19b0
                                try clear c19b1
                                try clear hx208_0
                                try clear hx209_0
                                try clear hx210_0
                                try clear hx211_0
                                try clear hx212_0
                                try clear p2
                                try clear p208
                                try clear p209
                                try clear p210
                                try clear p211
                                try clear p212
                                try clear q2
                                try clear q208
                                try clear q209
                                try clear q210
                                try clear q211
                                try clear q212
                                obtain ⟨x8_4, rfl, HA, HK4, HO_3, HR208_0, HR211_0, HB⟩ := hrel
                                cases gk with
                                | zero => exact absurd HA.out (by simp [whorllaw22_LfWhole.l1])
                                | succ k4 =>
                                  have H := HA.out
                                  clear HA
                                  simp only [whorllaw22_LfWhole.l1] at H
                                  by_cases c20 : x8_4 < ((rd_L2 t203 x6_2).length : Int)
                                  · rw [if_pos c20] at H
                                    have c20b0 : decide (x8_4 < ((rd_L2 t203 x6_2).length : Int)) = true := decide_eq_true c20
                                    clear c20
                                    by_cases c21 : 0 ≤ x6_2
                                    · rw [if_pos c21] at H
                                      have c21b0 : decide (0 ≤ x6_2) = true := decide_eq_true c21
                                      clear c21
                                      by_cases c22 : x6_2 < (t203.length : Int)
                                      · rw [if_pos c22] at H
                                        have c22b0 : decide (x6_2 < (t203.length : Int)) = true := decide_eq_true c22
                                        clear c22
                                        by_cases c23 : 0 ≤ x8_4
                                        · rw [if_pos c23] at H
                                          have c23b0 : decide (0 ≤ x8_4) = true := decide_eq_true c23
                                          clear c23
                                          by_cases c24 : x8_4 < ((rd_L2 t203 x6_2).length : Int)
                                          · rw [if_pos c24] at H
                                            have c24b0 : decide (x8_4 < ((rd_L2 t203 x6_2).length : Int)) = true := decide_eq_true c24
                                            clear c24
                                            by_cases c25 : (rd (rd_L2 t203 x6_2) x8_4) < (rd (rd_L2 t203 x6_2) 0)
                                            · rw [if_pos c25] at H
                                              have c25b0 : decide ((rd (rd_L2 t203 x6_2) x8_4) < (rd (rd_L2 t203 x6_2) 0)) = true := decide_eq_true c25
                                              clear c25
                                              obtain rfl := Option.some.inj H
                                              have p213 : 0 ≤ (x6_2 : Int) := of_decide_eq_true (by first | (with_reducible assumption) | assumption)
                                              have q213 : x6_2 < (t203.length : Int) := of_decide_eq_true (by first | (with_reducible assumption) | assumption)
                                              obtain ⟨ad213, A213_0, c213_0, e213, hx213_0, hl213_0, hi213_0⟩ := at_L2 (Kd.S_reads' HO_3.out).2.2 x6_2 p213 q213
                                              obtain rfl : ad208 = ad213 := (by injection e213)
                                              obtain ⟨ce213, hce213, hMe213, hcc213⟩ := Kd.S_get HO_3.out [] x6_2 p213 (by first | exact q213 | exact of_decide_eq_true (by first | (with_reducible assumption) | assumption) | (have e_ := (Kd.S_reads' HO_3.out).1; omega))
                                              obtain ⟨ve213_0, rfl, ge213_0⟩ := hMe213
                                              have hv213_0 := hcc213 0 _ rfl
                                              rw [Nat.add_zero, show ((Kd.slice 3 (Kd.int .i64))).sz = 1 from rfl, Nat.mul_one] at hv213_0
                                              replace hv213_0 := Option.some.inj (hv213_0.symm.trans hx213_0)
                                              rw [hv213_0] at ge213_0
                                              have HL213_0 := Aside0.mk (show Kd.R (Kd.int .i64) 3 _ _ _ _ (rd_L2 t203 x6_2) from ge213_0)
                                              clear hv213_0 ge213_0
                                              clear hcc213 hce213
                                              have HR213_0 := Aside0.mk hi213_0
                                              have HC213_0 := Aside0.mk hl213_0
                                              clear hi213_0 hl213_0
                                              replace p213 := eq_true p213
                                              replace q213 := eq_true q213
                                              have p214 : 0 ≤ (x8_4 : Int) := of_decide_eq_true (by first | (with_reducible assumption) | assumption)
                                              have q214 : x8_4 < ((rd_L2 t203 x6_2).length : Int) := of_decide_eq_true (by first | (with_reducible assumption) | assumption)
                                              obtain ⟨ad214, e214, hx214_0⟩ := Kd.at_int (by repeat (first | (with_reducible exact HR213_0.out) | (with_reducible refine Kd.C_alloc ?_ _) | (with_reducible refine Kd.C_drewN ?_ _) | (with_reducible refine Kd.C_drew ?_) | exact HR213_0.out)) x8_4 p214 q214
                                              cases e214
                                              replace p214 := eq_true p214
                                              replace q214 := eq_true q214
                                              go_wp2
                                              repeat (go_quiet (fail); try go_wp2)
                                              go_ret
                                              exact ⟨by first | rfl | (simp [errW_none, errW_some] <;> rfl) | (simp [*, errW_none, errW_some] <;> rfl), by repeat (first | (with_reducible first | exact HB.out | apply below_alloc | apply pw_below_drewN | apply below_drew1) | exact HB.out)⟩
                                            · rw [if_neg c25] at H
                                              have c25b0 : decide ((rd (rd_L2 t203 x6_2) x8_4) < (rd (rd_L2 t203 x6_2) 0)) = false := decide_eq_false c25
                                              clear c25
                                              by_cases c26 : (rd (rd_L2 t203 x6_2) x8_4) ≥ (l0.length : Int)
                                              · rw [if_pos c26] at H
                                                have c26b0 : decide ((l0.length : Int) ≤ (rd (rd_L2 t203 x6_2) x8_4)) = true := decide_eq_true c26
                                                clear c26
                                                obtain rfl := Option.some.inj H
                                                have p213 : 0 ≤ (x6_2 : Int) := of_decide_eq_true (by first | (with_reducible assumption) | assumption)
                                                have q213 : x6_2 < (t203.length : Int) := of_decide_eq_true (by first | (with_reducible assumption) | assumption)
                                                obtain ⟨ad213, A213_0, c213_0, e213, hx213_0, hl213_0, hi213_0⟩ := at_L2 (Kd.S_reads' HO_3.out).2.2 x6_2 p213 q213
                                                obtain rfl : ad208 = ad213 := (by injection e213)
                                                obtain ⟨ce213, hce213, hMe213, hcc213⟩ := Kd.S_get HO_3.out [] x6_2 p213 (by first | exact q213 | exact of_decide_eq_true (by first | (with_reducible assumption) | assumption) | (have e_ := (Kd.S_reads' HO_3.out).1; omega))
                                                obtain ⟨ve213_0, rfl, ge213_0⟩ := hMe213
                                                have hv213_0 := hcc213 0 _ rfl
                                                rw [Nat.add_zero, show ((Kd.slice 3 (Kd.int .i64))).sz = 1 from rfl, Nat.mul_one] at hv213_0
                                                replace hv213_0 := Option.some.inj (hv213_0.symm.trans hx213_0)
                                                rw [hv213_0] at ge213_0
                                                have HL213_0 := Aside0.mk (show Kd.R (Kd.int .i64) 3 _ _ _ _ (rd_L2 t203 x6_2) from ge213_0)
                                                clear hv213_0 ge213_0
                                                clear hcc213 hce213
                                                have HR213_0 := Aside0.mk hi213_0
                                                have HC213_0 := Aside0.mk hl213_0
                                                clear hi213_0 hl213_0
                                                replace p213 := eq_true p213
                                                replace q213 := eq_true q213
                                                have p214 : 0 ≤ (x8_4 : Int) := of_decide_eq_true (by first | (with_reducible assumption) | assumption)
                                                have q214 : x8_4 < ((rd_L2 t203 x6_2).length : Int) := of_decide_eq_true (by first | (with_reducible assumption) | assumption)
                                                obtain ⟨ad214, e214, hx214_0⟩ := Kd.at_int (by repeat (first | (with_reducible exact HR213_0.out) | (with_reducible refine Kd.C_alloc ?_ _) | (with_reducible refine Kd.C_drewN ?_ _) | (with_reducible refine Kd.C_drew ?_) | exact HR213_0.out)) x8_4 p214 q214
                                                cases e214
                                                replace p214 := eq_true p214
                                                replace q214 := eq_true q214
                                                go_wp2
                                                repeat (go_quiet (fail); try go_wp2)
                                                go_ret
                                                exact ⟨by first | rfl | (simp [errW_none, errW_some] <;> rfl) | (simp [*, errW_none, errW_some] <;> rfl), by repeat (first | (with_reducible first | exact HB.out | apply below_alloc | apply pw_below_drewN | apply below_drew1) | exact HB.out)⟩
                                              · rw [if_neg c26] at H
                                                have c26b0 : decide ((l0.length : Int) ≤ (rd (rd_L2 t203 x6_2) x8_4)) = false := decide_eq_false c26
                                                clear c26
                                                by_cases c27 : 0 ≤ (rd (rd_L2 t203 x6_2) x8_4)
                                                · rw [if_pos c27] at H
                                                  have c27b0 : decide (0 ≤ (rd (rd_L2 t203 x6_2) x8_4)) = true := decide_eq_true c27
                                                  clear c27
                                                  by_cases c28 : (rd (rd_L2 t203 x6_2) x8_4) < (l0.length : Int)
                                                  · rw [if_pos c28] at H
                                                    have c28b0 : decide ((rd (rd_L2 t203 x6_2) x8_4) < (l0.length : Int)) = true := decide_eq_true c28
                                                    clear c28
                                                    by_cases c29 : ((rd_L2 t203 x6_2).length : Int) = 0
                                                    · rw [if_pos c29] at H
                                                      exact absurd H (by simp)
                                                    · rw [if_neg c29] at H
                                                      have c29b0 : (((rd_L2 t203 x6_2).length : Int) == 0) = false := beq_eq_false_iff_ne.mpr c29
                                                      have c29b1 : (((rd_L2 t203 x6_2).length : Int) != 0) = true := bne_iff_ne.mpr c29
                                                      have c29b2 : ¬ ((rd_L2 t203 x6_2) = []) := fun h_ => c29 (by rw [h_]; rfl)
                                                      obtain ⟨ji30, hji30⟩ : ∃ j_ : Int, (Int.tmod (wrap64 (x8_4 + 1)) ((rd_L2 t203 x6_2).length : Int)) = j_ := ⟨_, rfl⟩
                                                      replace H : (if 0 ≤ (ji30) then (if (ji30) < ((rd_L2 t203 x6_2).length : Int) then (if (rd l0 (rd (rd_L2 t203 x6_2) x8_4)) = (rd (rd_L2 t203 x6_2) (ji30)) then (whorllaw22_LfWhole.l1 k4 l0 t203 (rd (rd_L2 t203 x6_2) 0) x6_2 ((rd_L2 t203 x6_2).length : Int) (wrap64 (x8_4 + 1))) else (some false)) else (none)) else (none)) = some r := by first | (rw [hji30] at H; exact H) | (simp only [hji30] at H ⊢; exact H)
                                                      by_cases c31 : 0 ≤ (ji30)
                                                      · rw [if_pos c31] at H
                                                        have c31b0 : decide (0 ≤ (ji30)) = true := decide_eq_true c31
                                                        clear c31
                                                        by_cases c32 : (ji30) < ((rd_L2 t203 x6_2).length : Int)
                                                        · rw [if_pos c32] at H
                                                          have c32b0 : decide ((ji30) < ((rd_L2 t203 x6_2).length : Int)) = true := decide_eq_true c32
                                                          clear c32
                                                          by_cases c33 : (rd l0 (rd (rd_L2 t203 x6_2) x8_4)) = (rd (rd_L2 t203 x6_2) (ji30))
                                                          · rw [if_pos c33] at H
                                                            have c33b0 : ((rd l0 (rd (rd_L2 t203 x6_2) x8_4)) == (rd (rd_L2 t203 x6_2) (ji30))) = true := beq_iff_eq.mpr c33
                                                            have c33b1 : ((rd l0 (rd (rd_L2 t203 x6_2) x8_4)) != (rd (rd_L2 t203 x6_2) (ji30))) = false := bne_eq_false_iff_eq.mpr c33
                                                            clear c33
                                                            have H' := Aside0.mk H
                                                            clear H
                                                            have p213 : 0 ≤ (x6_2 : Int) := of_decide_eq_true (by first | (with_reducible assumption) | assumption)
                                                            have q213 : x6_2 < (t203.length : Int) := of_decide_eq_true (by first | (with_reducible assumption) | assumption)
                                                            obtain ⟨ad213, A213_0, c213_0, e213, hx213_0, hl213_0, hi213_0⟩ := at_L2 (Kd.S_reads' HO_3.out).2.2 x6_2 p213 q213
                                                            obtain rfl : ad208 = ad213 := (by injection e213)
                                                            obtain ⟨ce213, hce213, hMe213, hcc213⟩ := Kd.S_get HO_3.out [] x6_2 p213 (by first | exact q213 | exact of_decide_eq_true (by first | (with_reducible assumption) | assumption) | (have e_ := (Kd.S_reads' HO_3.out).1; omega))
                                                            obtain ⟨ve213_0, rfl, ge213_0⟩ := hMe213
                                                            have hv213_0 := hcc213 0 _ rfl
                                                            rw [Nat.add_zero, show ((Kd.slice 3 (Kd.int .i64))).sz = 1 from rfl, Nat.mul_one] at hv213_0
                                                            replace hv213_0 := Option.some.inj (hv213_0.symm.trans hx213_0)
                                                            rw [hv213_0] at ge213_0
                                                            have HL213_0 := Aside0.mk (show Kd.R (Kd.int .i64) 3 _ _ _ _ (rd_L2 t203 x6_2) from ge213_0)
                                                            clear hv213_0 ge213_0
                                                            clear hcc213 hce213
                                                            have HR213_0 := Aside0.mk hi213_0
                                                            have HC213_0 := Aside0.mk hl213_0
                                                            clear hi213_0 hl213_0
                                                            replace p213 := eq_true p213
                                                            replace q213 := eq_true q213
                                                            have p214 : 0 ≤ (x8_4 : Int) := of_decide_eq_true (by first | (with_reducible assumption) | assumption)
                                                            have q214 : x8_4 < ((rd_L2 t203 x6_2).length : Int) := of_decide_eq_true (by first | (with_reducible assumption) | assumption)
                                                            obtain ⟨ad214, e214, hx214_0⟩ := Kd.at_int (by repeat (first | (with_reducible exact HR213_0.out) | (with_reducible refine Kd.C_alloc ?_ _) | (with_reducible refine Kd.C_drewN ?_ _) | (with_reducible refine Kd.C_drew ?_) | exact HR213_0.out)) x8_4 p214 q214
                                                            cases e214
                                                            replace p214 := eq_true p214
                                                            replace q214 := eq_true q214
                                                            have p215 : 0 ≤ ((rd (rd_L2 t203 x6_2) x8_4) : Int) := of_decide_eq_true (by first | (with_reducible assumption) | assumption)
                                                            have q215 : (rd (rd_L2 t203 x6_2) x8_4) < (l0.length : Int) := of_decide_eq_true (by first | (with_reducible assumption) | assumption)
                                                            obtain ⟨ad215, e215, hx215_0⟩ := Kd.at_int HR0.out (rd (rd_L2 t203 x6_2) x8_4) p215 q215
                                                            cases e215
                                                            replace hx215_0 := (HB.out.cell (World.block_lt_of_cell? w _ hx215_0)).trans hx215_0
                                                            replace p215 := eq_true p215
                                                            replace q215 := eq_true q215
                                                            have p216 : 0 ≤ (x6_2 : Int) := of_decide_eq_true (by first | (with_reducible assumption) | assumption)
                                                            have q216 : x6_2 < (t203.length : Int) := of_decide_eq_true (by first | (with_reducible assumption) | assumption)
                                                            obtain ⟨ad216, A216_0, c216_0, e216, hx216_0, hl216_0, hi216_0⟩ := at_L2 (Kd.S_reads' HO_3.out).2.2 x6_2 p216 q216
                                                            obtain rfl : ad208 = ad216 := (by injection e216)
                                                            obtain ⟨ce216, hce216, hMe216, hcc216⟩ := Kd.S_get HO_3.out [] x6_2 p216 (by first | exact q216 | exact of_decide_eq_true (by first | (with_reducible assumption) | assumption) | (have e_ := (Kd.S_reads' HO_3.out).1; omega))
                                                            obtain ⟨ve216_0, rfl, ge216_0⟩ := hMe216
                                                            have hv216_0 := hcc216 0 _ rfl
                                                            rw [Nat.add_zero, show ((Kd.slice 3 (Kd.int .i64))).sz = 1 from rfl, Nat.mul_one] at hv216_0
                                                            replace hv216_0 := Option.some.inj (hv216_0.symm.trans hx216_0)
                                                            rw [hv216_0] at ge216_0
                                                            have HL216_0 := Aside0.mk (show Kd.R (Kd.int .i64) 3 _ _ _ _ (rd_L2 t203 x6_2) from ge216_0)
                                                            clear hv216_0 ge216_0
                                                            clear hcc216 hce216
                                                            have HR216_0 := Aside0.mk hi216_0
                                                            have HC216_0 := Aside0.mk hl216_0
                                                            clear hi216_0 hl216_0
                                                            replace p216 := eq_true p216
                                                            replace q216 := eq_true q216
                                                            have ea_ := Option.some.inj (hx213_0.symm.trans hx216_0)
                                                            injection ea_ with ea_ en_ ec_
                                                            subst ea_
                                                            subst ec_
                                                            clear en_
                                                            have p217 : 0 ≤ ((ji30) : Int) := of_decide_eq_true (by first | (with_reducible assumption) | assumption)
                                                            have q217 : (ji30) < ((rd_L2 t203 x6_2).length : Int) := of_decide_eq_true (by first | (with_reducible assumption) | assumption)
                                                            obtain ⟨ad217, e217, hx217_0⟩ := Kd.at_int (by repeat (first | (with_reducible exact HR216_0.out) | (with_reducible refine Kd.C_alloc ?_ _) | (with_reducible refine Kd.C_drewN ?_ _) | (with_reducible refine Kd.C_drew ?_) | exact HR216_0.out)) (ji30) p217 q217
                                                            cases e217
                                                            replace p217 := eq_true p217
                                                            replace q217 := eq_true q217
                                                            go_wp2
                                                            repeat (go_quiet (fail); try go_wp2)
                                                            go_roundg k4
                                                            case measure => have := HJ1.out; have := HK2.out; have := HJ11.out; have := HK4.out; omega
                                                            case rel => exact ⟨(wrap64 (x8_4 + 1)), (by first | rfl | (simp; done) | (simp [*]; done)), H', ⟨by have := HJ1.out; have := HK2.out; have := HJ11.out; have := HK4.out; omega⟩, ⟨by (with_reducible repeat (first | apply Kd.S_alloc | apply Kd.S_drewN | apply Kd.S_drew)); exact HO_3.out⟩, ⟨by repeat (first | (with_reducible exact HR208_0.out) | (with_reducible refine Kd.C_alloc ?_ _) | (with_reducible refine Kd.C_drewN ?_ _) | (with_reducible refine Kd.C_drew ?_) | exact HR208_0.out)⟩, ⟨by repeat (first | (with_reducible exact HR211_0.out) | (with_reducible refine Kd.C_alloc ?_ _) | (with_reducible refine Kd.C_drewN ?_ _) | (with_reducible refine Kd.C_drew ?_) | exact HR211_0.out)⟩, ⟨by repeat (first | (with_reducible first | exact HB.out | apply below_alloc | apply pw_below_drewN | apply below_drew1) | exact HB.out)⟩⟩
                                                          · rw [if_neg c33] at H
                                                            have c33b0 : ((rd l0 (rd (rd_L2 t203 x6_2) x8_4)) == (rd (rd_L2 t203 x6_2) (ji30))) = false := beq_eq_false_iff_ne.mpr c33
                                                            have c33b1 : ((rd l0 (rd (rd_L2 t203 x6_2) x8_4)) != (rd (rd_L2 t203 x6_2) (ji30))) = true := bne_iff_ne.mpr c33
                                                            obtain rfl := Option.some.inj H
                                                            have p213 : 0 ≤ (x6_2 : Int) := of_decide_eq_true (by first | (with_reducible assumption) | assumption)
                                                            have q213 : x6_2 < (t203.length : Int) := of_decide_eq_true (by first | (with_reducible assumption) | assumption)
                                                            obtain ⟨ad213, A213_0, c213_0, e213, hx213_0, hl213_0, hi213_0⟩ := at_L2 (Kd.S_reads' HO_3.out).2.2 x6_2 p213 q213
                                                            obtain rfl : ad208 = ad213 := (by injection e213)
                                                            obtain ⟨ce213, hce213, hMe213, hcc213⟩ := Kd.S_get HO_3.out [] x6_2 p213 (by first | exact q213 | exact of_decide_eq_true (by first | (with_reducible assumption) | assumption) | (have e_ := (Kd.S_reads' HO_3.out).1; omega))
                                                            obtain ⟨ve213_0, rfl, ge213_0⟩ := hMe213
                                                            have hv213_0 := hcc213 0 _ rfl
                                                            rw [Nat.add_zero, show ((Kd.slice 3 (Kd.int .i64))).sz = 1 from rfl, Nat.mul_one] at hv213_0
                                                            replace hv213_0 := Option.some.inj (hv213_0.symm.trans hx213_0)
                                                            rw [hv213_0] at ge213_0
                                                            have HL213_0 := Aside0.mk (show Kd.R (Kd.int .i64) 3 _ _ _ _ (rd_L2 t203 x6_2) from ge213_0)
                                                            clear hv213_0 ge213_0
                                                            clear hcc213 hce213
                                                            have HR213_0 := Aside0.mk hi213_0
                                                            have HC213_0 := Aside0.mk hl213_0
                                                            clear hi213_0 hl213_0
                                                            replace p213 := eq_true p213
                                                            replace q213 := eq_true q213
                                                            have p214 : 0 ≤ (x8_4 : Int) := of_decide_eq_true (by first | (with_reducible assumption) | assumption)
                                                            have q214 : x8_4 < ((rd_L2 t203 x6_2).length : Int) := of_decide_eq_true (by first | (with_reducible assumption) | assumption)
                                                            obtain ⟨ad214, e214, hx214_0⟩ := Kd.at_int (by repeat (first | (with_reducible exact HR213_0.out) | (with_reducible refine Kd.C_alloc ?_ _) | (with_reducible refine Kd.C_drewN ?_ _) | (with_reducible refine Kd.C_drew ?_) | exact HR213_0.out)) x8_4 p214 q214
                                                            cases e214
                                                            replace p214 := eq_true p214
                                                            replace q214 := eq_true q214
                                                            have p215 : 0 ≤ ((rd (rd_L2 t203 x6_2) x8_4) : Int) := of_decide_eq_true (by first | (with_reducible assumption) | assumption)
                                                            have q215 : (rd (rd_L2 t203 x6_2) x8_4) < (l0.length : Int) := of_decide_eq_true (by first | (with_reducible assumption) | assumption)
                                                            obtain ⟨ad215, e215, hx215_0⟩ := Kd.at_int HR0.out (rd (rd_L2 t203 x6_2) x8_4) p215 q215
                                                            cases e215
                                                            replace hx215_0 := (HB.out.cell (World.block_lt_of_cell? w _ hx215_0)).trans hx215_0
                                                            replace p215 := eq_true p215
                                                            replace q215 := eq_true q215
                                                            have p216 : 0 ≤ (x6_2 : Int) := of_decide_eq_true (by first | (with_reducible assumption) | assumption)
                                                            have q216 : x6_2 < (t203.length : Int) := of_decide_eq_true (by first | (with_reducible assumption) | assumption)
                                                            obtain ⟨ad216, A216_0, c216_0, e216, hx216_0, hl216_0, hi216_0⟩ := at_L2 (Kd.S_reads' HO_3.out).2.2 x6_2 p216 q216
                                                            obtain rfl : ad208 = ad216 := (by injection e216)
                                                            obtain ⟨ce216, hce216, hMe216, hcc216⟩ := Kd.S_get HO_3.out [] x6_2 p216 (by first | exact q216 | exact of_decide_eq_true (by first | (with_reducible assumption) | assumption) | (have e_ := (Kd.S_reads' HO_3.out).1; omega))
                                                            obtain ⟨ve216_0, rfl, ge216_0⟩ := hMe216
                                                            have hv216_0 := hcc216 0 _ rfl
                                                            rw [Nat.add_zero, show ((Kd.slice 3 (Kd.int .i64))).sz = 1 from rfl, Nat.mul_one] at hv216_0
                                                            replace hv216_0 := Option.some.inj (hv216_0.symm.trans hx216_0)
                                                            rw [hv216_0] at ge216_0
                                                            have HL216_0 := Aside0.mk (show Kd.R (Kd.int .i64) 3 _ _ _ _ (rd_L2 t203 x6_2) from ge216_0)
                                                            clear hv216_0 ge216_0
                                                            clear hcc216 hce216
                                                            have HR216_0 := Aside0.mk hi216_0
                                                            have HC216_0 := Aside0.mk hl216_0
                                                            clear hi216_0 hl216_0
                                                            replace p216 := eq_true p216
                                                            replace q216 := eq_true q216
                                                            have ea_ := Option.some.inj (hx213_0.symm.trans hx216_0)
                                                            injection ea_ with ea_ en_ ec_
                                                            subst ea_
                                                            subst ec_
                                                            clear en_
                                                            have p217 : 0 ≤ ((ji30) : Int) := of_decide_eq_true (by first | (with_reducible assumption) | assumption)
                                                            have q217 : (ji30) < ((rd_L2 t203 x6_2).length : Int) := of_decide_eq_true (by first | (with_reducible assumption) | assumption)
                                                            obtain ⟨ad217, e217, hx217_0⟩ := Kd.at_int (by repeat (first | (with_reducible exact HR216_0.out) | (with_reducible refine Kd.C_alloc ?_ _) | (with_reducible refine Kd.C_drewN ?_ _) | (with_reducible refine Kd.C_drew ?_) | exact HR216_0.out)) (ji30) p217 q217
                                                            cases e217
                                                            replace p217 := eq_true p217
                                                            replace q217 := eq_true q217
                                                            go_wp2
                                                            repeat (go_quiet (fail); try go_wp2)
                                                            go_ret
                                                            exact ⟨by first | rfl | (simp [errW_none, errW_some] <;> rfl) | (simp only [← hji30]; first | rfl | (simp [errW_none, errW_some] <;> rfl)) | (simp [*, errW_none, errW_some] <;> rfl), by repeat (first | (with_reducible first | exact HB.out | apply below_alloc | apply pw_below_drewN | apply below_drew1) | exact HB.out)⟩
                                                        · rw [if_neg c32] at H
                                                          exact absurd H (by simp)
                                                      · rw [if_neg c31] at H
                                                        exact absurd H (by simp)
                                                  · rw [if_neg c28] at H
                                                    exact absurd H (by simp)
                                                · rw [if_neg c27] at H
                                                  exact absurd H (by simp)
                                          · rw [if_neg c24] at H
                                            exact absurd H (by simp)
                                        · rw [if_neg c23] at H
                                          exact absurd H (by simp)
                                      · rw [if_neg c22] at H
                                        exact absurd H (by simp)
                                    · rw [if_neg c21] at H
                                      exact absurd H (by simp)
                                  · rw [if_neg c20] at H
                                    have c20b0 : decide (x8_4 < ((rd_L2 t203 x6_2).length : Int)) = false := decide_eq_false c20
                                    clear c20
                                    have H' := Aside0.mk H
                                    clear H
                                    go_wp2
                                    repeat (go_quiet (fail); try go_wp2)
                                    go_roundg k4
                                    case measure => have := HJ1.out; have := HK2.out; have := HJ11.out; have := HK4.out; omega
                                    case rel => exact ⟨((rd (rd_L2 t203 x6_2) 0)), (wrap64 (x6_2 + 1)), (by first | rfl | (simp; done) | (simp [*]; done)), (by first | rfl | (simp; done) | (simp [*]; done)), H', ⟨by have := HJ1.out; have := HK2.out; have := HJ11.out; have := HK4.out; omega⟩, ⟨by (with_reducible repeat (first | apply Kd.S_alloc | apply Kd.S_drewN | apply Kd.S_drew)); exact HO_3.out⟩, ⟨by repeat (first | (with_reducible first | exact HB.out | apply below_alloc | apply pw_below_drewN | apply below_drew1) | exact HB.out)⟩⟩
                            · rw [if_neg c19] at H
                              exact absurd H (by simp)
                          · rw [if_neg c18] at H
                            exact absurd H (by simp)
                        · rw [if_neg c17] at H
                          exact absurd H (by simp)
                · rw [if_neg c11] at H
                  exact absurd H (by simp)
              · rw [if_neg c10] at H
                have c10b0 : decide (x6_2 < (t203.length : Int)) = false := decide_eq_false c10
                clear c10
                replace H := Option.bind_eq_some_iff.mp H
                obtain ⟨t207, A340, H⟩ := H
                replace H : (some t207) = some r := H
                have A34 := Aside0.mk A340
                clear A340
                obtain rfl := Option.some.inj H
                obtain ⟨Ao35, co35, eo35⟩ := Kd.S_slice HO_3.out
                subst eo35
                go_wp2_with (first | (go_at_call 14; (with_reducible refine (whorllaw22_known.calls k2  t207 _ A34.out).mono ?_); rintro e w36 ⟨rfl, hb⟩; have n0_ := Aside0.mk (Kd.S_below (by (with_reducible repeat (first | apply Kd.S_alloc | apply Kd.S_drewN | apply Kd.S_drew)); exact HO_3.out) hb); have n1_ := Aside0.mk (below_step (by repeat (first | (with_reducible first | exact HB.out | apply below_alloc | apply pw_below_drewN | apply below_drew1) | exact HB.out)) hb); clear HO_3; clear HB; have HO_3 := n0_; have HB := n1_; clear n0_ n1_; (try clear hb); (try clear hb2); (try clear hk); (try clear hi)))
                repeat (go_quiet (first | (go_at_call 14; (with_reducible refine (whorllaw22_known.calls k2  t207 _ A34.out).mono ?_); rintro e w36 ⟨rfl, hb⟩; have n0_ := Aside0.mk (Kd.S_below (by (with_reducible repeat (first | apply Kd.S_alloc | apply Kd.S_drewN | apply Kd.S_drew)); exact HO_3.out) hb); have n1_ := Aside0.mk (below_step (by repeat (first | (with_reducible first | exact HB.out | apply below_alloc | apply pw_below_drewN | apply below_drew1) | exact HB.out)) hb); clear HO_3; clear HB; have HO_3 := n0_; have HB := n1_; clear n0_ n1_; (try clear hb); (try clear hb2); (try clear hk); (try clear hi))); try go_wp2_with (first | (go_at_call 14; (with_reducible refine (whorllaw22_known.calls k2  t207 _ A34.out).mono ?_); rintro e w36 ⟨rfl, hb⟩; have n0_ := Aside0.mk (Kd.S_below (by (with_reducible repeat (first | apply Kd.S_alloc | apply Kd.S_drewN | apply Kd.S_drew)); exact HO_3.out) hb); have n1_ := Aside0.mk (below_step (by repeat (first | (with_reducible first | exact HB.out | apply below_alloc | apply pw_below_drewN | apply below_drew1) | exact HB.out)) hb); clear HO_3; clear HB; have HO_3 := n0_; have HB := n1_; clear n0_ n1_; (try clear hb); (try clear hb2); (try clear hk); (try clear hi))))
                go_ret
                exact ⟨by first | rfl | (simp [errW_none, errW_some] <;> rfl) | (simp [*, errW_none, errW_some] <;> rfl), by repeat (first | (with_reducible first | exact HB.out | apply below_alloc | apply pw_below_drewN | apply below_drew1) | exact HB.out)⟩
        · replace c8 := Bool.eq_false_iff.mpr c8
          subst c8
          have H1 : (some false) = some r := by rw [if_neg (show ¬ (false = true) by decide)] at H; exact H
          clear H
          have H := H1
          clear H1
          obtain rfl := Option.some.inj H
          go_wp2_with (first | (go_at_call 8; (with_reducible refine (lf_Cycles.calls kj1 _ _ l0 t203 false _ ?side1 ?side2 A7.out).mono ?_); (case side1 => repeat (first | exact (Kd.C_below HR0.out HB.out) | (with_reducible refine Kd.C_alloc ?_ _) | (with_reducible refine Kd.C_drewN ?_ _) | (with_reducible refine Kd.C_drew ?_))); (case side2 => exact HC0.out); rintro e w37 ⟨v205, rfl, ho0, hb⟩; have n0_ := Aside0.mk (Kd.S_lower ho0 (below_size (by repeat (first | (with_reducible first | exact HB.out | apply below_alloc | apply pw_below_drewN | apply below_drew1) | exact HB.out)))); have n1_ := Aside0.mk (below_step (by repeat (first | (with_reducible first | exact HB.out | apply below_alloc | apply pw_below_drewN | apply below_drew1) | exact HB.out)) hb); clear HB; have HO206 := n0_; have HB := n1_; clear n0_ n1_; (try clear hb); (try clear hb2); (try clear hk); (try clear hi); (try clear ho0)))
          repeat (go_quiet (first | (go_at_call 8; (with_reducible refine (lf_Cycles.calls kj1 _ _ l0 t203 false _ ?side1 ?side2 A7.out).mono ?_); (case side1 => repeat (first | exact (Kd.C_below HR0.out HB.out) | (with_reducible refine Kd.C_alloc ?_ _) | (with_reducible refine Kd.C_drewN ?_ _) | (with_reducible refine Kd.C_drew ?_))); (case side2 => exact HC0.out); rintro e w37 ⟨v205, rfl, ho0, hb⟩; have n0_ := Aside0.mk (Kd.S_lower ho0 (below_size (by repeat (first | (with_reducible first | exact HB.out | apply below_alloc | apply pw_below_drewN | apply below_drew1) | exact HB.out)))); have n1_ := Aside0.mk (below_step (by repeat (first | (with_reducible first | exact HB.out | apply below_alloc | apply pw_below_drewN | apply below_drew1) | exact HB.out)) hb); clear HB; have HO206 := n0_; have HB := n1_; clear n0_ n1_; (try clear hb); (try clear hb2); (try clear hk); (try clear hi); (try clear ho0))); try go_wp2_with (first | (go_at_call 8; (with_reducible refine (lf_Cycles.calls kj1 _ _ l0 t203 false _ ?side1 ?side2 A7.out).mono ?_); (case side1 => repeat (first | exact (Kd.C_below HR0.out HB.out) | (with_reducible refine Kd.C_alloc ?_ _) | (with_reducible refine Kd.C_drewN ?_ _) | (with_reducible refine Kd.C_drew ?_))); (case side2 => exact HC0.out); rintro e w37 ⟨v205, rfl, ho0, hb⟩; have n0_ := Aside0.mk (Kd.S_lower ho0 (below_size (by repeat (first | (with_reducible first | exact HB.out | apply below_alloc | apply pw_below_drewN | apply below_drew1) | exact HB.out)))); have n1_ := Aside0.mk (below_step (by repeat (first | (with_reducible first | exact HB.out | apply below_alloc | apply pw_below_drewN | apply below_drew1) | exact HB.out)) hb); clear HB; have HO206 := n0_; have HB := n1_; clear n0_ n1_; (try clear hb); (try clear hb2); (try clear hk); (try clear hi); (try clear ho0))))
          go_ret
          exact ⟨by first | rfl | (simp [errW_none, errW_some] <;> rfl) | (simp [*, errW_none, errW_some] <;> rfl), by repeat (first | (with_reducible first | exact HB.out | apply below_alloc | apply pw_below_drewN | apply below_drew1) | exact HB.out)⟩

/-- THE ONE PURE STATEMENT of whorllaw22_LfWhole: yours. -/
def whorllaw22_LfWhole.Pure : Prop := ∀ (l0 : List Int), l0.length ≤ maxLen → l0.length * 8 ≤ 140737488351232 → (∀ x ∈ l0, (Lit.int .i64 x).wf = true) → ∃ k, whorllaw22_LfWhole.f k l0 = some true
theorem whorllaw22_LfWhole.walk (P : whorllaw22_LfWhole.Pure) (a0 : Option Addr) (len0 cap0 : Nat) (z0 : List Int) (w : World) (w0 : (a0 = none ∧ len0 = 0 ∧ cap0 = 0 ∧ z0 = []) ∨ ∃ x, a0 = some x ∧ len0 ≤ cap0 ∧ cap0 ≤ maxLen ∧ z0.length = cap0 ∧ (∀ i, i < z0.length → w.cell? (x.add i) = some (.int .i64 (z0.getD i 0))) ∧ ∀ n ∈ z0, (Lit.int .i64 n).wf = true) (y0 : len0 * 8 ≤ 140737488351232) :
    Calls Try.prog 6 #[.slice a0 len0 cap0] w fun e w' => e = .returned (.bool true) ∧ Below w.heap.size w w' := by
  obtain ⟨l0, rfl, hr0, hm0, hw0, hc0⟩ := ReadsInt.ofRowC w0
  obtain ⟨k, h⟩ := P l0 hm0 y0 hw0
  refine (whorllaw22_LfWhole.calls k _ _ l0 true w (Kd.C_of_reads (d := (0 : Int)) (h1 := fun _ => rfl) hr0) hc0 h).mono ?_
  rintro e w' ⟨rfl, hd⟩
  exact ⟨rfl, hd⟩

end Go.Proofs.Ythdmoeckoblpdaa.PLfWhole
