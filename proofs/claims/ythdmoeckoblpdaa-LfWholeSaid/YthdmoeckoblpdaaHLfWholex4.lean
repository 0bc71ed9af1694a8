-- Laid by a program of this session (wip/hp.sh): functions, contracts, rows for this claim. Lean checks it.
import Derived.Test.YthdmoeckoblpdaaHLfWholex0
import Derived.Test.YthdmoeckoblpdaaHLfWholex1
import Derived.Test.YthdmoeckoblpdaaHLfWholex3
namespace Go.Proofs.Ythdmoeckoblpdaa.PLfWhole
open Go.RowKit Go.Proofs.YthdmoeckoblpdaaW.PrintWords Go.Proofs.YthdmoeckoblpdaaW.PrintLast Go.Proofs.YthdmoeckoblpdaaW.PrintMore
attribute [local go_sem] max2_int min2_int max_two min_two max_three min_three max_four min_four   -- for this text's walks alone
set_option linter.unusedVariables false
set_option linter.unusedSimpArgs false

/-! ### whorlref22_Rows: function 13 -/
def whorlref22_Rows.l0 : Nat → List (List Int) → List (List Int) → Int → Option (Bool)
  | 0, _, _, _ => none
  | k + 1, x0, x1, x5 => if x5 < (x0.length : Int) then (if 0 ≤ x5 then (if x5 < (x1.length : Int) then ((whorlref4_Ints.f k (rd_L2 x0 x5) (rd_L2 x1 x5)).bind fun t201 => (if t201 = true then (whorlref22_Rows.l0 k x0 x1 (wrap64 (x5 + 1))) else (some false))) else (none)) else (none)) else (some true)
def whorlref22_Rows.f (k : Nat) (l0 : List (List Int)) (l1 : List (List Int)) : Option (Bool) := if (l0.length : Int) = (l1.length : Int) then (whorlref22_Rows.l0 k l0 l1 0) else (some false)
theorem whorlref22_Rows.mono_l : ∀ k, (∀ y0 y1 y2, LeO (whorlref22_Rows.l0 k y0 y1 y2) (whorlref22_Rows.l0 (k + 1) y0 y1 y2))
  | 0 => fun _ _ _ r h => by simp [whorlref22_Rows.l0] at h
  | k + 1 => by
    have ih0 := whorlref22_Rows.mono_l k
    · intro y0 y1 y2
      unfold whorlref22_Rows.l0
      repeat' first
      | (with_reducible exact ih0 _ _ _)
      | (with_reducible exact whorlref4_Ints.mono _ _ _)
      | (with_reducible exact LeO.refl _)
      | (with_reducible exact LeO.none _)
      | (with_reducible refine LeO.ite ?_ ?_)
      | (with_reducible refine LeO.bind ?_ (fun _ => ?_))
      | exact ih0 _ _ _
      | exact whorlref4_Ints.mono _ _ _
      | exact LeO.none _
      | refine LeO.ite ?_ ?_
      | refine LeO.bind ?_ (fun _ => ?_)
theorem whorlref22_Rows.mono : ∀ a0 a1 k, LeO (whorlref22_Rows.f k a0 a1) (whorlref22_Rows.f (k + 1) a0 a1) := by
  intro a0 a1 k
  have ih0 := whorlref22_Rows.mono_l k
  unfold whorlref22_Rows.f
  repeat' first
      | (with_reducible exact ih0 _ _ _)
      | (with_reducible exact whorlref4_Ints.mono _ _ _)
      | (with_reducible exact LeO.refl _)
      | (with_reducible exact LeO.none _)
      | (with_reducible refine LeO.ite ?_ ?_)
      | (with_reducible refine LeO.bind ?_ (fun _ => ?_))
      | exact ih0 _ _ _
      | exact whorlref4_Ints.mono _ _ _
      | exact LeO.none _
      | refine LeO.ite ?_ ?_
      | refine LeO.bind ?_ (fun _ => ?_)
set_option maxHeartbeats 8000000 in
set_option maxRecDepth 100000 in
theorem whorlref22_Rows.calls (k : Nat) (A0 : Option Addr) (c0 : Nat) (l0 : List (List Int)) (A1 : Option Addr) (c1 : Nat) (l1 : List (List Int)) (r : Bool) (w : World) (hr0 : Kd.C (Kd.slice 3 (Kd.int .i64)) w A0 l0.length l0) (hc0 : l0.length ≤ c0) (hr1 : Kd.C (Kd.slice 3 (Kd.int .i64)) w A1 l1.length l1) (hc1 : l1.length ≤ c1) (h : whorlref22_Rows.f k l0 l1 = some r) :
    Calls Try.prog 13 #[.slice A0 l0.length c0, .slice A1 l1.length c1] w fun e w' => e = .returned (.bool r) ∧ Drawn0 w w' := by
  have HR0 := Aside0.mk hr0
  have HC0 := Aside0.mk hc0
  clear hr0 hc0
  have HR1 := Aside0.mk hr1
  have HC1 := Aside0.mk hc1
  clear hr1 hc1
  have H : (if (l0.length : Int) = (l1.length : Int) then (whorlref22_Rows.l0 k l0 l1 0) else (some false)) = some r := h
  clear h
  by_cases c3 : (l0.length : Int) = (l1.length : Int)
  · rw [if_pos c3] at H
    have c3b0 : ((l0.length : Int) == (l1.length : Int)) = true := beq_iff_eq.mpr c3
    have c3b1 : ((l0.length : Int) != (l1.length : Int)) = false := bne_eq_false_iff_eq.mpr c3
    have c3b2 : (l0.length == l1.length) = true := by first | simpa using c3 | (simp at c3 ⊢; omega)
    clear c3
    have H' := Aside0.mk H
    clear H
    go_enter Try.func13, Try.ntmps13
    go_wp2
    repeat (go_quiet (fail); try go_wp2)
    go_loopg [5] k (fun kq v5 w' => ∃ (x5_1 : Int), v5 = .int .i64 x5_1 ∧ Aside0 (whorlref22_Rows.l0 kq l0 l1 x5_1 = some r) ∧ Aside0 (kq ≤ k) ∧ Drawn0 w w')
    case atStart => exact ⟨(0), (by first | rfl | (simp; done) | (simp [*]; done)), H', ⟨Nat.le_refl _⟩, by repeat (first | exact Drawn0.refl _ | apply Drawn0.step)⟩
    case round =>
      clear H'
      try clear c1
      try clear p2
      try clear c3
      try clear c3b0
      try clear c3b1
      try clear c3b2
      obtain ⟨x5_1, rfl, HA, HK1, ⟨m1, rfl⟩⟩ := hrel
      cases gk with
      | zero => exact absurd HA.out (by simp [whorlref22_Rows.l0])
      | succ k1 =>
        have H := HA.out
        clear HA
        simp only [whorlref22_Rows.l0] at H
        by_cases c4 : x5_1 < (l0.length : Int)
        · rw [if_pos c4] at H
          have c4b0 : decide (x5_1 < (l0.length : Int)) = true := decide_eq_true c4
          clear c4
          by_cases c5 : 0 ≤ x5_1
          · rw [if_pos c5] at H
            have c5b0 : decide (0 ≤ x5_1) = true := decide_eq_true c5
            clear c5
            by_cases c6 : x5_1 < (l1.length : Int)
            · rw [if_pos c6] at H
              have c6b0 : decide (x5_1 < (l1.length : Int)) = true := decide_eq_true c6
              clear c6
              replace H := Option.bind_eq_some_iff.mp H
              obtain ⟨t201, A70, H⟩ := H
              replace H : (if t201 = true then (whorlref22_Rows.l0 k1 l0 l1 (wrap64 (x5_1 + 1))) else (some false)) = some r := H
              have A7 := Aside0.mk A70
              clear A70
              by_cases c8 : t201 = true
              · subst c8
                have H1 : (whorlref22_Rows.l0 k1 l0 l1 (wrap64 (x5_1 + 1))) = some r := by rw [if_pos rfl] at H; exact H
                clear H
                have H := H1
                clear H1
                have H' := Aside0.mk H
                clear H
                have p199 : 0 ≤ (x5_1 : Int) := of_decide_eq_true (by first | (with_reducible assumption) | assumption)
                have q199 : x5_1 < (l0.length : Int) := of_decide_eq_true (by first | (with_reducible assumption) | assumption)
                obtain ⟨ad199, A199_0, c199_0, e199, hx199_0, hl199_0, hi199_0⟩ := at_L2 HR0.out x5_1 p199 q199
                cases e199
                have HR199_0 := Aside0.mk hi199_0
                have HC199_0 := Aside0.mk hl199_0
                clear hi199_0 hl199_0
                replace p199 := eq_true p199
                replace q199 := eq_true q199
                have p200 : 0 ≤ (x5_1 : Int) := of_decide_eq_true (by first | (with_reducible assumption) | assumption)
                have q200 : x5_1 < (l1.length : Int) := of_decide_eq_true (by first | (with_reducible assumption) | assumption)
                obtain ⟨ad200, A200_0, c200_0, e200, hx200_0, hl200_0, hi200_0⟩ := at_L2 HR1.out x5_1 p200 q200
                cases e200
                have HR200_0 := Aside0.mk hi200_0
                have HC200_0 := Aside0.mk hl200_0
                clear hi200_0 hl200_0
                replace p200 := eq_true p200
                replace q200 := eq_true q200
                go_wp2_with (first | (go_at_call 11; (with_reducible refine (whorlref4_Ints.calls k1 _ _ (rd_L2 l0 x5_1) _ _ (rd_L2 l1 x5_1) true _ ?side1 ?side2 ?side3 ?side4 A7.out).mono ?_); (case side1 => repeat (first | exact HR199_0.out | (with_reducible refine Kd.C_alloc ?_ _) | (with_reducible refine Kd.C_drewN ?_ _) | (with_reducible refine Kd.C_drew ?_))); (case side2 => exact HC199_0.out); (case side3 => repeat (first | exact HR200_0.out | (with_reducible refine Kd.C_alloc ?_ _) | (with_reducible refine Kd.C_drewN ?_ _) | (with_reducible refine Kd.C_drew ?_))); (case side4 => exact HC200_0.out); rintro e w' ⟨rfl, ⟨nd, rfl⟩⟩; (try first | exact ⟨rfl, _, World.drewN_drewN _ _ _⟩ | exact ⟨rfl, _, Eq.trans (World.drewN_drewN _ _ _) (congrArg (World.drewN _) (Nat.add_assoc _ _ _))⟩)))
                repeat (go_quiet (first | (go_at_call 11; (with_reducible refine (whorlref4_Ints.calls k1 _ _ (rd_L2 l0 x5_1) _ _ (rd_L2 l1 x5_1) true _ ?side1 ?side2 ?side3 ?side4 A7.out).mono ?_); (case side1 => repeat (first | exact HR199_0.out | (with_reducible refine Kd.C_alloc ?_ _) | (with_reducible refine Kd.C_drewN ?_ _) | (with_reducible refine Kd.C_drew ?_))); (case side2 => exact HC199_0.out); (case side3 => repeat (first | exact HR200_0.out | (with_reducible refine Kd.C_alloc ?_ _) | (with_reducible refine Kd.C_drewN ?_ _) | (with_reducible refine Kd.C_drew ?_))); (case side4 => exact HC200_0.out); rintro e w' ⟨rfl, ⟨nd, rfl⟩⟩; (try first | exact ⟨rfl, _, World.drewN_drewN _ _ _⟩ | exact ⟨rfl, _, Eq.trans (World.drewN_drewN _ _ _) (congrArg (World.drewN _) (Nat.add_assoc _ _ _))⟩))); try go_wp2_with (first | (go_at_call 11; (with_reducible refine (whorlref4_Ints.calls k1 _ _ (rd_L2 l0 x5_1) _ _ (rd_L2 l1 x5_1) true _ ?side1 ?side2 ?side3 ?side4 A7.out).mono ?_); (case side1 => repeat (first | exact HR199_0.out | (with_reducible refine Kd.C_alloc ?_ _) | (with_reducible refine Kd.C_drewN ?_ _) | (with_reducible refine Kd.C_drew ?_))); (case side2 => exact HC199_0.out); (case side3 => repeat (first | exact HR200_0.out | (with_reducible refine Kd.C_alloc ?_ _) | (with_reducible refine Kd.C_drewN ?_ _) | (with_reducible refine Kd.C_drew ?_))); (case side4 => exact HC200_0.out); rintro e w' ⟨rfl, ⟨nd, rfl⟩⟩; (try first | exact ⟨rfl, _, World.drewN_drewN _ _ _⟩ | exact ⟨rfl, _, Eq.trans (World.drewN_drewN _ _ _) (congrArg (World.drewN _) (Nat.add_assoc _ _ _))⟩))))
                go_roundg k1
                case measure => have := HK1.out; omega
                case rel => exact ⟨(wrap64 (x5_1 + 1)), (by first | rfl | (simp; done) | (simp [*]; done)), H', ⟨by have := HK1.out; omega⟩, by repeat (first | exact Drawn0.refl _ | apply Drawn0.step)⟩
              · replace c8 := Bool.eq_false_iff.mpr c8
                subst c8
                have H1 : (some false) = some r := by rw [if_neg (show ¬ (false = true) by decide)] at H; exact H
                clear H
                have H := H1
                clear H1
                obtain rfl := Option.some.inj H
                have p199 : 0 ≤ (x5_1 : Int) := of_decide_eq_true (by first | (with_reducible assumption) | assumption)
                have q199 : x5_1 < (l0.length : Int) := of_decide_eq_true (by first | (with_reducible assumption) | assumption)
                obtain ⟨ad199, A199_0, c199_0, e199, hx199_0, hl199_0, hi199_0⟩ := at_L2 HR0.out x5_1 p199 q199
                cases e199
                have HR199_0 := Aside0.mk hi199_0
                have HC199_0 := Aside0.mk hl199_0
                clear hi199_0 hl199_0
                replace p199 := eq_true p199
                replace q199 := eq_true q199
                have p200 : 0 ≤ (x5_1 : Int) := of_decide_eq_true (by first | (with_reducible assumption) | assumption)
                have q200 : x5_1 < (l1.length : Int) := of_decide_eq_true (by first | (with_reducible assumption) | assumption)
                obtain ⟨ad200, A200_0, c200_0, e200, hx200_0, hl200_0, hi200_0⟩ := at_L2 HR1.out x5_1 p200 q200
                cases e200
                have HR200_0 := Aside0.mk hi200_0
                have HC200_0 := Aside0.mk hl200_0
                clear hi200_0 hl200_0
                replace p200 := eq_true p200
                replace q200 := eq_true q200
                go_wp2_with (first | (go_at_call 11; (with_reducible refine (whorlref4_Ints.calls k1 _ _ (rd_L2 l0 x5_1) _ _ (rd_L2 l1 x5_1) false _ ?side1 ?side2 ?side3 ?side4 A7.out).mono ?_); (case side1 => repeat (first | exact HR199_0.out | (with_reducible refine Kd.C_alloc ?_ _) | (with_reducible refine Kd.C_drewN ?_ _) | (with_reducible refine Kd.C_drew ?_))); (case side2 => exact HC199_0.out); (case side3 => repeat (first | exact HR200_0.out | (with_reducible refine Kd.C_alloc ?_ _) | (with_reducible refine Kd.C_drewN ?_ _) | (with_reducible refine Kd.C_drew ?_))); (case side4 => exact HC200_0.out); rintro e w' ⟨rfl, ⟨nd, rfl⟩⟩; (try first | exact ⟨rfl, _, World.drewN_drewN _ _ _⟩ | exact ⟨rfl, _, Eq.trans (World.drewN_drewN _ _ _) (congrArg (World.drewN _) (Nat.add_assoc _ _ _))⟩)))
                repeat (go_quiet (first | (go_at_call 11; (with_reducible refine (whorlref4_Ints.calls k1 _ _ (rd_L2 l0 x5_1) _ _ (rd_L2 l1 x5_1) false _ ?side1 ?side2 ?side3 ?side4 A7.out).mono ?_); (case side1 => repeat (first | exact HR199_0.out | (with_reducible refine Kd.C_alloc ?_ _) | (with_reducible refine Kd.C_drewN ?_ _) | (with_reducible refine Kd.C_drew ?_))); (case side2 => exact HC199_0.out); (case side3 => repeat (first | exact HR200_0.out | (with_reducible refine Kd.C_alloc ?_ _) | (with_reducible refine Kd.C_drewN ?_ _) | (with_reducible refine Kd.C_drew ?_))); (case side4 => exact HC200_0.out); rintro e w' ⟨rfl, ⟨nd, rfl⟩⟩; (try first | exact ⟨rfl, _, World.drewN_drewN _ _ _⟩ | exact ⟨rfl, _, Eq.trans (World.drewN_drewN _ _ _) (congrArg (World.drewN _) (Nat.add_assoc _ _ _))⟩))); try go_wp2_with (first | (go_at_call 11; (with_reducible refine (whorlref4_Ints.calls k1 _ _ (rd_L2 l0 x5_1) _ _ (rd_L2 l1 x5_1) false _ ?side1 ?side2 ?side3 ?side4 A7.out).mono ?_); (case side1 => repeat (first | exact HR199_0.out | (with_reducible refine Kd.C_alloc ?_ _) | (with_reducible refine Kd.C_drewN ?_ _) | (with_reducible refine Kd.C_drew ?_))); (case side2 => exact HC199_0.out); (case side3 => repeat (first | exact HR200_0.out | (with_reducible refine Kd.C_alloc ?_ _) | (with_reducible refine Kd.C_drewN ?_ _) | (with_reducible refine Kd.C_drew ?_))); (case side4 => exact HC200_0.out); rintro e w' ⟨rfl, ⟨nd, rfl⟩⟩; (try first | exact ⟨rfl, _, World.drewN_drewN _ _ _⟩ | exact ⟨rfl, _, Eq.trans (World.drewN_drewN _ _ _) (congrArg (World.drewN _) (Nat.add_assoc _ _ _))⟩))))
                go_ret
                exact ⟨by first | rfl | (simp; done) | (simp [*]; done), by repeat (first | exact Drawn0.refl _ | apply Drawn0.step)⟩
            · rw [if_neg c6] at H
              exact absurd H (by simp)
          · rw [if_neg c5] at H
            exact absurd H (by simp)
        · rw [if_neg c4] at H
          have c4b0 : decide (x5_1 < (l0.length : Int)) = false := decide_eq_false c4
          clear c4
          obtain rfl := Option.some.inj H
          go_wp2
          repeat (go_quiet (fail); try go_wp2)
          go_ret
          exact ⟨by first | rfl | (simp; done) | (simp [*]; done), by repeat (first | exact Drawn0.refl _ | apply Drawn0.step)⟩
  · rw [if_neg c3] at H
    have c3b0 : ((l0.length : Int) == (l1.length : Int)) = false := beq_eq_false_iff_ne.mpr c3
    have c3b1 : ((l0.length : Int) != (l1.length : Int)) = true := bne_iff_ne.mpr c3
    have c3b2 : (l0.length == l1.length) = false := by first | simpa using c3 | (simp at c3 ⊢; omega)
    obtain rfl := Option.some.inj H
    go_enter Try.func13, Try.ntmps13
    go_wp2
    repeat (go_quiet (fail); try go_wp2)
    go_ret
    exact ⟨by first | rfl | (simp; done) | (simp [*]; done), by repeat (first | exact Drawn0.refl _ | apply Drawn0.step)⟩


/-! ### whorllaw22_known: function 14 -/
def whorllaw22_known.f (k : Nat)  : Option (Bool) := (lf_Of.f k (([98, 97, 98] : List Int))).bind fun t218 => ((lf_Cycles.f k t218).bind fun bt221 => ((whorlref4_Ints.f k t218 (([1, 0, 2] : List Int))).bind fun t228 => (if t228 = true then (if bt221.2 = true then ((whorlref22_Rows.f k bt221.1 (([(([0, 1] : List Int)), (([2] : List Int))] : List (List Int)))).bind fun t238 => (some t238)) else (some false)) else (some false))))
theorem whorllaw22_known.mono : ∀ k, LeO (whorllaw22_known.f k ) (whorllaw22_known.f (k + 1) ) := by
  intro k
  unfold whorllaw22_known.f
  repeat' first
      | (with_reducible exact lf_Of.mono _ _)
      | (with_reducible exact lf_Cycles.mono _ _)
      | (with_reducible exact whorlref4_Ints.mono _ _ _)
      | (with_reducible exact whorlref22_Rows.mono _ _ _)
      | (with_reducible exact LeO.refl _)
      | (with_reducible exact LeO.none _)
      | (with_reducible refine LeO.ite ?_ ?_)
      | (with_reducible refine LeO.bind ?_ (fun _ => ?_))
set_option maxHeartbeats 4000000 in
theorem whorllaw22_known.calls (k : Nat)  (r : Bool) (w : World) (h : whorllaw22_known.f k  = some r) :
    Calls Try.prog 14 #[] w fun e w' => e = .returned (.bool r) ∧ Below w.heap.size w w' := by
  have h60 : whorllaw22_known.f 400 = some true := by decide +kernel
  obtain rfl : r = true := by
    have h1 := at_rounds (g := whorllaw22_known.f) whorllaw22_known.mono (Nat.le_max_left k 400) h
    rw [at_rounds (g := whorllaw22_known.f) whorllaw22_known.mono (Nat.le_max_right k 400) h60] at h1
    exact (Option.some.inj h1).symm
  clear h h60
  have kc := fun (w : World) (C : Array Value) (n c : Nat) => Lib.run_convert_bytes_const (P := Try.prog) w 22 5 C n c Try.underlying22 Try.underlying5
  have A1 : lf_Of.f 400 [98, 97, 98] = some [1, 0, 2] := by decide +kernel
  have A2 : lf_Cycles.f 400 [1, 0, 2] = some ([[0, 1], [2]], true) := by decide +kernel
  have A3 : whorlref4_Ints.f 400 [1, 0, 2] [1, 0, 2] = some true := by decide +kernel
  have A4 : whorlref22_Rows.f 400 [[0, 1], [2]] [[0, 1], [2]] = some true := by decide +kernel
  go_enter Try.func14, Try.ntmps14
  go_wp2_with (fail)
  refine Calls.mono (show Calls Try.prog 7 #[.slice (some ⟨w.heap.size, 0, none⟩) 3 3] _ _ from lf_Of.calls 400 _ 3 [98, 97, 98] [1, 0, 2] _ (lit_reads .u8 w 5 _ (3, 4) (by decide) rfl) (by decide) A1) ?_
  rintro e w1 ⟨v1, rfl, hR1, hB1⟩
  obtain ⟨p1, q1, rfl⟩ := Kd.R_slice hR1
  have B1 := Aside0.mk (below_step (below_alloc (Below.refl _ _) _) hB1)
  have R1 := Aside0.mk hR1
  clear hB1 hR1
  go_wp2_with (fail)
  refine Calls.mono (show Calls Try.prog 8 #[.slice p1 3 q1] _ _ from lf_Cycles.calls 400 p1 q1 [1, 0, 2] [[0, 1], [2]] true _ (Kd.R_reads' R1.out).2.2 (Kd.R_reads' R1.out).2.1 A2) ?_
  rintro e w2 ⟨v2, rfl, hS2, hB2⟩
  have hN2 := Kd.S_N hS2
  obtain ⟨p2, q2, rfl⟩ := Kd.N_slice hN2
  have B2 := Aside0.mk (below_step B1.out hB2)
  have C1 := Aside0.mk (Kd.C_below (Kd.R_reads' R1.out).2.2 hB2)
  have L1 := Aside0.mk (Kd.R_reads' R1.out).2.1
  have N2 := Aside0.mk (Kd.N_reads' hN2)
  clear hB2 hS2 hN2 B1 R1
  go_wp2_with (fail)
  refine Calls.mono (show Calls Try.prog 11 #[.slice p1 3 q1, .slice (some ⟨w2.heap.size, 0, none⟩) 3 3] _ _ from whorlref4_Ints.calls 400 p1 q1 [1, 0, 2] _ 3 [1, 0, 2] true _ (Kd.C_alloc C1.out _) L1.out (lit_reads .i64 w2 3 _ _ (by decide) rfl) (by decide) A3) ?_
  rintro e w3 ⟨rfl, hd⟩
  have N3 := Aside0.mk (Kd.C_below (Kd.C_alloc N2.out.2.2 (.cells #[.int .i64 1, .int .i64 0, .int .i64 2] 3)) hd.below)
  have L3 := Aside0.mk N2.out.2.1
  have B3 := Aside0.mk (below_step (below_alloc B2.out _) hd.below)
  clear hd B2 C1 N2 L1
  go_wp2_with (fail)
  refine Calls.mono (show Calls Try.prog 13 #[.slice p2 2 q2, .slice (some ⟨w3.heap.size + 2, 0, none⟩) 2 2] _ _ from whorlref22_Rows.calls 400 p2 q2 [[0, 1], [2]] _ 2 [[0, 1], [2]] true _ (Kd.C_alloc (Kd.C_alloc (Kd.C_alloc N3.out _) _) _) L3.out
    (by
      have := rows_reads2 .i64 3 ((w3.alloc (.cells #[.int .i64 0, .int .i64 1] 3)).alloc (.cells #[.int .i64 2] 3)) 23 (0, 0) (A1 := some ⟨w3.heap.size, 0, none⟩) (A2 := some ⟨w3.heap.size + 1, 0, none⟩) (c1 := 2) (c2 := 1) (x1 := [0, 1]) (x2 := [2])
        (Kd.C_alloc (lit_reads .i64 w3 3 _ _ (by decide) rfl) _) (by decide)
        (by have := lit_reads .i64 (w3.alloc (.cells #[.int .i64 0, .int .i64 1] 3)) 3 [2] (0, 0) (by decide) rfl; simpa using this) (by decide) rfl
      simpa using this) (by decide) A4) ?_
  rintro e w4 ⟨rfl, hd⟩
  have B4 := Aside0.mk (below_step (below_alloc (below_alloc (below_alloc B3.out _) _) _) hd.below)
  clear hd B3 N3
  go_wp2_with (fail)
  go_ret
  exact ⟨rfl, B4.out⟩

end Go.Proofs.Ythdmoeckoblpdaa.PLfWhole
