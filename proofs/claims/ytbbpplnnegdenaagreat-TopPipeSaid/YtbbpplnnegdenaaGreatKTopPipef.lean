/- Words, functions, walks and plain mathematics for TopPipe, part 6: laid together by a program of this session (pack.py). -/
import Derived.Test.YtbbpplnnegdenaaGreatKTopPipee
set_option linter.unusedVariables false
set_option linter.unusedSimpArgs false
section
namespace Go.Proofs.YtbbpplnnegdenaaGreat.PTopPipe
open Go.RowKit Go.Proofs.YtbbpplnnegdenaaGreatW.PrintWords Go.Proofs.YtbbpplnnegdenaaGreatW.PrintLast Go.Proofs.YtbbpplnnegdenaaGreatW.PrintMore
attribute [local go_sem] max2_int min2_int max_two min_two max_three min_three max_four min_four
set_option linter.unusedVariables false
set_option linter.unusedSimpArgs false
mutual
def phi_PLCP.j0 : Nat → List Int → List Int → List Int → Bool → Option (List Int × Bool)
  | 0, _, _, _, _ => none
  | k + 1, x0, x1, x6, x26 => if x26 = true then (some (([] : List Int), false)) else ((phi_falls.f k x0 x1).bind fun t598 => (if 0 ≤ (x1.length : Int) then (if ((x1.length : Int) : Int).toNat ≤ 35184372088832 then (phi_PLCP.l0 k x0 t598 (List.replicate ((x1.length : Int) : Int).toNat 0) 0 x6 (x6.length : Int) 0) else (none)) else (none)))
def phi_PLCP.l0 : Nat → List Int → Bool → List Int → Int → List Int → Int → Int → Option (List Int × Bool)
  | 0, _, _, _, _, _, _, _ => none
  | k + 1, x0, x8, x9, x10, x33, x34, x35 => if x35 < x34 then (if 0 ≤ x35 then (if x35 < (x33.length : Int) then (if (rd x33 x35) = (-1) then (if x35 < (x9.length : Int) then (phi_PLCP.l0 k x0 x8 (x9.set (x35 : Int).toNat 0) 0 x33 x34 (wrap64 (x35 + 1))) else (none)) else (if x8 = true then ((lex_Common.f k x0 (wrap64 (x35 + (mx (wrap64 (x10 - 1)) 0))) (wrap64 ((rd x33 x35) + (mx (wrap64 (x10 - 1)) 0)))).bind fun t604 => (if x35 < (x9.length : Int) then (phi_PLCP.l0 k x0 x8 (x9.set (x35 : Int).toNat (wrap64 ((mx (wrap64 (x10 - 1)) 0) + t604))) (wrap64 ((mx (wrap64 (x10 - 1)) 0) + t604)) x33 x34 (wrap64 (x35 + 1))) else (none))) else ((lex_Common.f k x0 x35 (rd x33 x35)).bind fun t606 => (if x35 < (x9.length : Int) then (phi_PLCP.l0 k x0 x8 (x9.set (x35 : Int).toNat t606) t606 x33 x34 (wrap64 (x35 + 1))) else (none))))) else (none)) else (none)) else (some (x9, true))
end
def phi_PLCP.f (k : Nat) (l0 : List Int) (l1 : List Int) : Option (List Int × Bool) := (phi_Ahead.f k l1).bind fun bt594 => (if bt594.2 = true then (phi_PLCP.j0 k l0 l1 bt594.1 ((l1.length : Int) != (l0.length : Int))) else (phi_PLCP.j0 k l0 l1 bt594.1 true))
theorem phi_PLCP.mono_l : ∀ k, (∀ y0 y1 y2 y3, LeO (phi_PLCP.j0 k y0 y1 y2 y3) (phi_PLCP.j0 (k + 1) y0 y1 y2 y3)) ∧ (∀ y0 y1 y2 y3 y4 y5 y6, LeO (phi_PLCP.l0 k y0 y1 y2 y3 y4 y5 y6) (phi_PLCP.l0 (k + 1) y0 y1 y2 y3 y4 y5 y6))
  | 0 => ⟨fun _ _ _ _ r h => by simp [phi_PLCP.j0] at h, fun _ _ _ _ _ _ _ r h => by simp [phi_PLCP.l0] at h⟩
  | k + 1 => by
    obtain ⟨ih0, ih1⟩ := phi_PLCP.mono_l k
    refine ⟨?_, ?_⟩
    · intro y0 y1 y2 y3
      unfold phi_PLCP.j0
      have m0 := @lex_Common.mono
      have m1 := @phi_Ahead.mono
      have m2 := @phi_falls.mono
      exact mB
    · intro y0 y1 y2 y3 y4 y5 y6
      unfold phi_PLCP.l0
      have m0 := @lex_Common.mono
      have m1 := @phi_Ahead.mono
      have m2 := @phi_falls.mono
      exact mB
theorem phi_PLCP.mono : ∀ a0 a1 k, LeO (phi_PLCP.f k a0 a1) (phi_PLCP.f (k + 1) a0 a1) := by
  intro a0 a1 k
  obtain ⟨ih0, ih1⟩ := phi_PLCP.mono_l k
  unfold phi_PLCP.f
  have m0 := @lex_Common.mono
  have m1 := @phi_Ahead.mono
  have m2 := @phi_falls.mono
  exact mB
set_option maxHeartbeats 8000000 in
set_option maxRecDepth 100000 in
theorem phi_PLCP.calls (k : Nat) (A0 : Option Addr) (c0 : Nat) (l0 : List Int) (A1 : Option Addr) (c1 : Nat) (l1 : List Int) (r1 : List Int) (r2 : Bool) (w : World) (hr0 : Kd.C (Kd.int .u8) w A0 l0.length l0) (hc0 : l0.length ≤ c0) (hr1 : Kd.C (Kd.int .i64) w A1 l1.length l1) (hc1 : l1.length ≤ c1) (h : phi_PLCP.f k l0 l1 = some (r1, r2)) :
    Calls Tryz.prog 83 #[.slice A0 l0.length c0, .slice A1 l1.length c1] w fun e w' => ∃ v0_ : Value, e = .returned (.tuple #[v0_, .bool r2]) ∧ Kd.R (Kd.int .i64) 3 w' w.heap.size (fun _ => True) v0_ r1 ∧ Below w.heap.size w w' := by
 have HR0 := Aside0.mk hr0
 have HC0 := Aside0.mk hc0
 clear hr0 hc0
 have HR1 := Aside0.mk hr1
 have HC1 := Aside0.mk hc1
 clear hr1 hc1
 have HB := Aside0.mk (Below.refl w.heap.size w)
 have H := h
 clear h
 unfold phi_PLCP.f at H
 obtain ⟨⟨t594, t595⟩, A3, H⟩ := bdS H
 try dsimp only at H
 have HC4 := Aside0.mk H
 clear H
 go_enter Tryz.func83, Tryz.ntmps83
 go_upto_region 2 with (first | ((with_reducible refine gate_callee (f := 99) rfl ?_); refine goesL_ (some 15) rfl rfl Tryz.func99 (by kernel_rfl) rfl #[.slice A1 l1.length c1] rfl aE ?_; (with_reducible refine (phi_Ahead.calls k _ _ l1 t594 t595 _ ?side1 ?side2 A3.out).mono ?_); (case side1 => exact uC HR1.out); (case side2 => exact HC1.out); rintro e w5 ⟨v596, rfl, ho0, hb⟩; refine ⟨_, rfl, ?_⟩; have n0_ := Aside0.mk (Kd.R_lower ho0 (below_size uB)); have n1_ := Aside0.mk (below_step uB hb); clear HB; have HO597 := n0_; have HB := n1_; clear n0_ n1_; (try clear hb); (try clear hb2); (try clear hk); (try clear hi); (try clear ho0)))
 (try simp only [Act.put, List.setIfInBounds_toArray, List.set_cons_zero, List.set_cons_succ])
 go_cut [26] (fun v26 wc => ∃ (kq : Nat) (x26_3 : Bool), v26 = .bool x26_3 ∧ Aside0 (phi_PLCP.j0 kq l0 l1 t594 x26_3 = some (r1, r2)) ∧ Aside0 (kq ≤ k) ∧ Aside0 (Kd.R (Kd.int .i64) 3 wc w.heap.size (fun _ => True) v596 t594) ∧ Aside0 (Below w.heap.size w wc))
 case first =>
  have H := HC4.out
  clear HC4
  by_cases c6 : t595 = true
  ·subst c6
   rw [if_pos rfl] at H
   have H' := Aside0.mk H
   clear H
   go_wp2
   go_meet
   case rel => exact ⟨_, (((l1.length : Int) != (l0.length : Int))), sD, H', ⟨by first | omega | exact Nat.le_refl _⟩, ⟨uR HO597.out⟩, ⟨uB⟩⟩
  ·replace c6 := Bool.eq_false_iff.mpr c6
   subst c6
   rw [if_neg (by decide)] at H
   have H' := Aside0.mk H
   clear H
   go_wp2
   go_meet
   case rel => exact ⟨_, (true), sD, H', ⟨by first | omega | exact Nat.le_refl _⟩, ⟨uR HO597.out⟩, ⟨uB⟩⟩
 case rest =>
  clear HC4
  try clear c1
  try clear p2
  try clear c6
  obtain ⟨kq, x26_3, rfl, HA, HJ3, HO_6, HB⟩ := hcut
  cases kq with
  | zero => exact absurd HA.out (by simp [phi_PLCP.j0])
  | succ kj3 =>
   have H := HA.out
   clear HA
   simp only [phi_PLCP.j0] at H
   by_cases c7 : x26_3 = true
   ·subst c7
    rw [if_pos rfl] at H
    simp only [Option.some.injEq, Prod.mk.injEq] at H
    obtain ⟨rfl, rfl⟩ := H
    go_wp2
    go_ret2
    exact ⟨_, eR, nL, uB⟩
   ·replace c7 := Bool.eq_false_iff.mpr c7
    subst c7
    rw [if_neg (by decide)] at H
    obtain ⟨t598, A8, H⟩ := bdS H
    try dsimp only at H
    obtain ⟨c9b0, c9b1, H⟩ := ifE H
    obtain ⟨c10b0, c10b1, H⟩ := ifE H
    generalize hy599 : (List.replicate ((l1.length : Int) : Int).toNat 0 : List Int) = y599 at H
    try simp only [Option.bind_some] at H
    have Ny599 := Aside0.mk hy599.symm
    clear hy599
    have H' := Aside0.mk H
    clear H
    go_wp2_with (first | ((with_reducible refine gate_callee (f := 100) rfl ?_); refine goesL_ (some 29) rfl rfl Tryz.func100 (by kernel_rfl) rfl #[.slice A0 l0.length c0, .slice A1 l1.length c1] rfl aE ?_; (with_reducible refine (phi_falls.calls kj3 _ _ l0 _ _ l1 t598 _ ?side1 ?side2 ?side3 ?side4 A8.out).mono ?_); (case side1 => exact uC (Kd.C_below HR0.out HB.out)); (case side2 => exact HC0.out); (case side3 => exact uC (Kd.C_below HR1.out HB.out)); (case side4 => exact HC1.out); rintro e w11 ⟨rfl, hb⟩; refine ⟨_, rfl, ?_⟩; have n0_ := Aside0.mk (Kd.R_below (uR HO_6.out) hb); have n1_ := Aside0.mk (below_step uB hb); clear HO_6; clear HB; have HO_6 := n0_; have HB := n1_; clear n0_ n1_; (try clear hb); (try clear hb2); (try clear hk); (try clear hi)) | ((with_reducible refine gate_dst (N := 32) rfl ?_); (try (refine gate_guard (by rfl) ?_; dsimp only)); refine Kd.R_make (Kd.int .i64) _ 3 rfl (N := 32) rfl 29 _ _ rfl (l1.length : Int) rfl rfl Tryz.underlying29 (.int .i64 0) 8 info3 rfl (by decide) (by omega) 0 (ok := fun _ => True) (okp := fun _ => True) rfl (fun _ hk => hk) trivial dT (Nat.le_trans (Nat.mul_le_mul_right _ (dT : (l1.length : Int).toNat ≤ 35184372088832)) (by omega)) (Below.refl _ _) (Nat.le_refl _) ?_; intro v600 w12 ho13 hb hg_ hnew_; clear hg_ hnew_; (first | rw [← Ny599.out] at ho13 | (simp only [Int.reduceToNat] at ho13; rw [← Ny599.out] at ho13)); have n0_ := Aside0.mk (Kd.R_elder' (uR HO_6.out) (Kd.R_base ho13) hb); have n1_ := Aside0.mk (Kd.R_lower (Kd.R_new' ho13 (Kd.R_lt (uR HO_6.out))) (below_size uB)); have n2_ := Aside0.mk (below_step uB hb); clear HO_6; clear HB; have HO_6 := n0_; have HO601 := n1_; have HB := n2_; clear n0_ n1_ n2_; clear hb ho13; obtain ⟨Ao14, co14, eo14⟩ := Kd.R_slice HO_6.out; subst eo14))
    go_loopg [10, 35] kj3 (fun kq v10 v35 w' => ∃ (x9_2 : List Int) (x10_2 : Int) (x35_2 : Int), v10 = .int .i64 x10_2 ∧ v35 = .int .i64 x35_2 ∧ Aside0 (phi_PLCP.l0 kq l0 t598 x9_2 x10_2 t594 (t594.length : Int) x35_2 = some (r1, r2)) ∧ Aside0 (kq ≤ kj3) ∧ Aside0 (Kd.R (Kd.int .i64) 3 w' w.heap.size (fun k_ => some k_ ≠ ((.slice Ao14 t594.length co14) : Value).ownBlock) v600 x9_2) ∧ Aside0 (Kd.R (Kd.int .i64) 3 w' w.heap.size (fun k_ => some k_ ≠ (v600 : Value).ownBlock) (.slice Ao14 t594.length co14) t594) ∧ Aside0 (Below w.heap.size w w'))
    case atStart => exact ⟨(y599), (0), (0), sD, sD, H', ⟨Nat.le_refl _⟩, ⟨by (with_reducible repeat (first | apply Kd.R_alloc | apply Kd.R_drewN | apply Kd.R_drew)); exact Kd.R_mono HO601.out (fun _ hk => hk.2)⟩, ⟨by (with_reducible repeat (first | apply Kd.R_alloc | apply Kd.R_drewN | apply Kd.R_drew)); exact Kd.R_mono HO_6.out (fun _ hk => hk.2)⟩, ⟨uB⟩⟩
    case round =>
     clear H'
     try clear c1
     try clear p2
     try clear c6
     try clear c7
     try clear c8
     try clear c9
     try clear c9b0
     try clear c9b1
     try clear c10
     try clear c10b0
     try clear c10b1
     try clear p2
     obtain ⟨x9_2, x10_2, x35_2, rfl, rfl, HA, HK2, HO_9, HO_33, HB⟩ := hrel
     cases gk with
     | zero => exact absurd HA.out (by simp [phi_PLCP.l0])
     | succ k2 =>
      have H := HA.out
      clear HA
      simp only [phi_PLCP.l0] at H
      rcases ifC H with ⟨c15b0, H⟩ | ⟨c15b0, H⟩
      ·obtain ⟨c16b0, c17b0, H⟩ := ifD2 H
       obtain ⟨ji18, hji18⟩ : ∃ j_ : Int, (mx (wrap64 (x10_2 - 1)) 0) = j_ := ⟨_, rfl⟩
       first | rw [hji18] at H | simp only [hji18] at H
       have hji18_ : (if (wrap64 (x10_2 - 1)) < 0 then 0 else (wrap64 (x10_2 - 1))) = ji18 := hji18
       by_cases c19 : (rd t594 x35_2) = (-1)
       ·rw [if_pos c19] at H
        have c19b0 : ((rd t594 x35_2) == (-1)) = true := beq_iff_eq.mpr c19
        have c19b1 : ((rd t594 x35_2) != (-1)) = false := bne_eq_false_iff_eq.mpr c19
        clear c19
        obtain ⟨c20b0, H⟩ := ifD H
        generalize hy603 : (x9_2.set (x35_2 : Int).toNat 0 : List Int) = y603 at H
        try simp only [Option.bind_some] at H
        have Ny603 := Aside0.mk hy603.symm
        clear hy603
        have H' := Aside0.mk H
        clear H
        obtain ⟨ad602, e602, hx602_0, p602, q602⟩ := rI (Kd.R_reads' HO_33.out).2.2 x35_2
        cases e602
        have p21 : 0 ≤ (x35_2 : Int) := dT
        have q21 : (x35_2 : Int) < ((x9_2.length : Int) : Int) := dT
        obtain ⟨go21, co21, eo21, gb21, gl21, cl21, HG21⟩ := Kd.R_form HO_9.out (by omega)
        (first | cases eo21 | (injection eo21 with ea_ en_ ec_; (first | subst ea_ | (injection ea_ with ea_; subst ea_)); subst ec_; clear en_))
        have GB21 := Aside0.mk gb21
        have GG21 := Aside0.mk HG21
        clear gb21 gl21 HG21
        obtain ⟨hx21_0, hf21_0⟩ := Kd.R_celln 0 HO_9.out (x35_2 : Int) p21 q21
        replace p21 := eq_true p21
        replace q21 := eq_true q21
        have HP22 := Kd.R_putg HO_9.out (x35_2 : Int) 0
        go_wp2_with (first | ((with_reducible refine gate_store (t := 3) (p := 65) rfl ?_); refine store_event (t := 3) (p := 65) (v := ?vo_w23) (w1 := (wr.setCell ⟨go21, (x35_2 : Int).toNat, none⟩ (.int .i64 0))) ?hg ?ho ?hn ?hr ?_; (case ho => rfl); (case hg => rfl); (case hn => rfl); (case hr => first | (go_simp; done) | (go_simp; rfl)); intro w23 hw; have hg : wr.grownBy w23 (some go21) := (by rw [hw]; exact HP22.2); have hp_ : Kd.R (Kd.int .i64) 3 w23 w.heap.size (fun k_ => some k_ ≠ (.slice (some ad602) t594.length co14 : Value).ownBlock) (.slice (some ⟨go21, 0, none⟩) x9_2.length co21) y603 := (by rw [hw, Ny603.out]; exact HP22.1); clear HP22; have n0_ := Aside0.mk (hp_); have n1_ := Aside0.mk (Kd.R_after (v := (.slice (some ⟨go21, 0, none⟩) x9_2.length co21)) (v1 := (.slice (some ⟨go21, 0, none⟩) x9_2.length co21)) (ok := (fun _ => True)) (by (with_reducible repeat (first | apply Kd.R_alloc | apply Kd.R_drewN | apply Kd.R_drew)); exact Kd.R_mono HO_33.out (fun _ hk => ⟨trivial, hk⟩)) hg (.inl rfl)); have n2_ := Aside0.mk ((by rw [hw]; exact below_set (HB.out) GB21.out : Below w.heap.size w w23)); clear HO_9; clear HO_33; clear HB; have HO_9 := n0_; have HO_33 := n1_; have HB := n2_; clear n0_ n1_ n2_; clear hg hw hp_))
        go_roundg k2
        case measure => have := HJ3.out; have := HK2.out; omega
        case rel => exact ⟨(y603), (0), (wrap64 (x35_2 + 1)), sD, sD, H', ⟨by have := HJ3.out; have := HK2.out; omega⟩, ⟨uR HO_9.out⟩, ⟨by (with_reducible repeat (first | apply Kd.R_alloc | apply Kd.R_drewN | apply Kd.R_drew)); exact Kd.R_mono HO_33.out (fun _ hk => hk.2)⟩, ⟨uB⟩⟩
       ·rw [if_neg c19] at H
        have c19b0 : ((rd t594 x35_2) == (-1)) = false := beq_eq_false_iff_ne.mpr c19
        have c19b1 : ((rd t594 x35_2) != (-1)) = true := bne_iff_ne.mpr c19
        by_cases c24 : t598 = true
        ·subst c24
         rw [if_pos rfl] at H
         obtain ⟨t604, A25, H⟩ := bdS H
         try dsimp only at H
         obtain ⟨c26b0, H⟩ := ifD H
         generalize hy605 : (x9_2.set (x35_2 : Int).toNat (wrap64 ((ji18) + t604)) : List Int) = y605 at H
         try simp only [Option.bind_some] at H
         have Ny605 := Aside0.mk hy605.symm
         clear hy605
         have H' := Aside0.mk H
         clear H
         obtain ⟨ad602, e602, hx602_0, p602, q602⟩ := rI (Kd.R_reads' HO_33.out).2.2 x35_2
         cases e602
         go_wp2_with (first | ((with_reducible refine gate_callee (f := 82) rfl ?_); refine goesL_ (some 60) rfl rfl Tryz.func82 (by kernel_rfl) rfl #[.slice A0 l0.length c0, .int .i64 (wrap64 (x35_2 + (ji18))), .int .i64 (wrap64 ((rd t594 x35_2) + (ji18)))] rfl (by (try simp only [List.map_toArray, List.map_cons, List.map_nil]); first | done | (simp only [hji18]; rfl) | rfl | (simp only [List.length_drop, List.length_take]; rfl)) ?_; (with_reducible refine (lex_Common.calls k2 _ _ l0 (wrap64 (x35_2 + (ji18))) (wrap64 ((rd t594 x35_2) + (ji18))) t604 _ ?side1 ?side2 A25.out).mono ?_); (case side1 => exact uC (Kd.C_below HR0.out HB.out)); (case side2 => exact HC0.out); rintro e w28 ⟨rfl, hb⟩; refine ⟨_, rfl, ?_⟩; have n0_ := Aside0.mk (Kd.R_below (uR HO_9.out) hb); have n1_ := Aside0.mk (Kd.R_below (uR HO_33.out) hb); have n2_ := Aside0.mk (below_step uB hb); clear HO_9; clear HO_33; clear HB; have HO_9 := n0_; have HO_33 := n1_; have HB := n2_; clear n0_ n1_ n2_; (try clear hb); (try clear hb2); (try clear hk); (try clear hi); have p27 : 0 ≤ (x35_2 : Int) := dT; have q27 : (x35_2 : Int) < ((x9_2.length : Int) : Int) := dT; obtain ⟨go27, co27, eo27, gb27, gl27, cl27, HG27⟩ := Kd.R_form HO_9.out (by omega); (first | cases eo27 | (injection eo27 with ea_ en_ ec_; (first | subst ea_ | (injection ea_ with ea_; subst ea_)); subst ec_; clear en_)); have GB27 := Aside0.mk gb27; have GG27 := Aside0.mk HG27; clear gb27 gl27 HG27; obtain ⟨hx27_0, hf27_0⟩ := Kd.R_celln 0 HO_9.out (x35_2 : Int) p27 q27; replace p27 := eq_true p27; replace q27 := eq_true q27; obtain ⟨hy29_, hz29_⟩ := Kd.R_celln 0 HO_9.out (x35_2 : Int) dT dT; have HP29 := Kd.R_putg HO_9.out (x35_2 : Int) (wrap64 ((ji18) + t604))) | ((with_reducible refine gate_store (t := 3) (p := 65) rfl ?_); refine store_event (t := 3) (p := 65) (v := ?vo_w30) (w1 := (w28.setCell ⟨go27, (x35_2 : Int).toNat, none⟩ (.int .i64 (wrap64 ((ji18) + t604))))) ?hg ?ho ?hn ?hr ?_; (case ho => rfl); (case hg => rfl); (case hn => rfl); (case hr => first | (go_simp; done) | (go_simp; rfl)); intro w30 hw; have hg : w28.grownBy w30 (some go27) := (by rw [hw]; exact HP29.2); have hp_ : Kd.R (Kd.int .i64) 3 w30 w.heap.size (fun k_ => some k_ ≠ (.slice (some ad602) t594.length co14 : Value).ownBlock) (.slice (some ⟨go27, 0, none⟩) x9_2.length co27) y605 := (by rw [hw, Ny605.out]; exact HP29.1); clear HP29; have n0_ := Aside0.mk (hp_); have n1_ := Aside0.mk (Kd.R_after (v := (.slice (some ⟨go27, 0, none⟩) x9_2.length co27)) (v1 := (.slice (some ⟨go27, 0, none⟩) x9_2.length co27)) (ok := (fun _ => True)) (by (with_reducible repeat (first | apply Kd.R_alloc | apply Kd.R_drewN | apply Kd.R_drew)); exact Kd.R_mono HO_33.out (fun _ hk => ⟨trivial, hk⟩)) hg (.inl rfl)); have n2_ := Aside0.mk ((by rw [hw]; exact below_set (HB.out) GB27.out : Below w.heap.size w w30)); clear HO_9; clear HO_33; clear HB; have HO_9 := n0_; have HO_33 := n1_; have HB := n2_; clear n0_ n1_ n2_; clear hg hw hp_))
         go_roundg k2
         case measure => have := HJ3.out; have := HK2.out; omega
         case rel => exact ⟨(y605), (wrap64 ((ji18) + t604)), (wrap64 (x35_2 + 1)), (by first | rfl | (simp; done) | (simp only [← hji18] <;> (first | rfl | simp)) | (simp [*]; done)), sD, H', ⟨by have := HJ3.out; have := HK2.out; omega⟩, ⟨uR HO_9.out⟩, ⟨by (with_reducible repeat (first | apply Kd.R_alloc | apply Kd.R_drewN | apply Kd.R_drew)); exact Kd.R_mono HO_33.out (fun _ hk => hk.2)⟩, ⟨uB⟩⟩
        ·replace c24 := Bool.eq_false_iff.mpr c24
         subst c24
         rw [if_neg (by decide)] at H
         obtain ⟨t606, A31, H⟩ := bdS H
         try dsimp only at H
         obtain ⟨c32b0, H⟩ := ifD H
         generalize hy607 : (x9_2.set (x35_2 : Int).toNat t606 : List Int) = y607 at H
         try simp only [Option.bind_some] at H
         have Ny607 := Aside0.mk hy607.symm
         clear hy607
         have H' := Aside0.mk H
         clear H
         obtain ⟨ad602, e602, hx602_0, p602, q602⟩ := rI (Kd.R_reads' HO_33.out).2.2 x35_2
         cases e602
         go_wp2_with (first | ((with_reducible refine gate_callee (f := 82) rfl ?_); refine goesL_ (some 46) rfl rfl Tryz.func82 (by kernel_rfl) rfl #[.slice A0 l0.length c0, .int .i64 x35_2, .int .i64 (rd t594 x35_2)] rfl aE ?_; (with_reducible refine (lex_Common.calls k2 _ _ l0 x35_2 (rd t594 x35_2) t606 _ ?side1 ?side2 A31.out).mono ?_); (case side1 => exact uC (Kd.C_below HR0.out HB.out)); (case side2 => exact HC0.out); rintro e w34 ⟨rfl, hb⟩; refine ⟨_, rfl, ?_⟩; have n0_ := Aside0.mk (Kd.R_below (uR HO_9.out) hb); have n1_ := Aside0.mk (Kd.R_below (uR HO_33.out) hb); have n2_ := Aside0.mk (below_step uB hb); clear HO_9; clear HO_33; clear HB; have HO_9 := n0_; have HO_33 := n1_; have HB := n2_; clear n0_ n1_ n2_; (try clear hb); (try clear hb2); (try clear hk); (try clear hi); have p33 : 0 ≤ (x35_2 : Int) := dT; have q33 : (x35_2 : Int) < ((x9_2.length : Int) : Int) := dT; obtain ⟨go33, co33, eo33, gb33, gl33, cl33, HG33⟩ := Kd.R_form HO_9.out (by omega); (first | cases eo33 | (injection eo33 with ea_ en_ ec_; (first | subst ea_ | (injection ea_ with ea_; subst ea_)); subst ec_; clear en_)); have GB33 := Aside0.mk gb33; have GG33 := Aside0.mk HG33; clear gb33 gl33 HG33; obtain ⟨hx33_0, hf33_0⟩ := Kd.R_celln 0 HO_9.out (x35_2 : Int) p33 q33; replace p33 := eq_true p33; replace q33 := eq_true q33; obtain ⟨hy35_, hz35_⟩ := Kd.R_celln 0 HO_9.out (x35_2 : Int) dT dT; have HP35 := Kd.R_putg HO_9.out (x35_2 : Int) t606) | ((with_reducible refine gate_store (t := 3) (p := 65) rfl ?_); refine store_event (t := 3) (p := 65) (v := ?vo_w36) (w1 := (w34.setCell ⟨go33, (x35_2 : Int).toNat, none⟩ (.int .i64 t606))) ?hg ?ho ?hn ?hr ?_; (case ho => rfl); (case hg => rfl); (case hn => rfl); (case hr => first | (go_simp; done) | (go_simp; rfl)); intro w36 hw; have hg : w34.grownBy w36 (some go33) := (by rw [hw]; exact HP35.2); have hp_ : Kd.R (Kd.int .i64) 3 w36 w.heap.size (fun k_ => some k_ ≠ (.slice (some ad602) t594.length co14 : Value).ownBlock) (.slice (some ⟨go33, 0, none⟩) x9_2.length co33) y607 := (by rw [hw, Ny607.out]; exact HP35.1); clear HP35; have n0_ := Aside0.mk (hp_); have n1_ := Aside0.mk (Kd.R_after (v := (.slice (some ⟨go33, 0, none⟩) x9_2.length co33)) (v1 := (.slice (some ⟨go33, 0, none⟩) x9_2.length co33)) (ok := (fun _ => True)) (by (with_reducible repeat (first | apply Kd.R_alloc | apply Kd.R_drewN | apply Kd.R_drew)); exact Kd.R_mono HO_33.out (fun _ hk => ⟨trivial, hk⟩)) hg (.inl rfl)); have n2_ := Aside0.mk ((by rw [hw]; exact below_set (HB.out) GB33.out : Below w.heap.size w w36)); clear HO_9; clear HO_33; clear HB; have HO_9 := n0_; have HO_33 := n1_; have HB := n2_; clear n0_ n1_ n2_; clear hg hw hp_))
         go_roundg k2
         case measure => have := HJ3.out; have := HK2.out; omega
         case rel => exact ⟨(y607), (t606), (wrap64 (x35_2 + 1)), sD, sD, H', ⟨by have := HJ3.out; have := HK2.out; omega⟩, ⟨uR HO_9.out⟩, ⟨by (with_reducible repeat (first | apply Kd.R_alloc | apply Kd.R_drewN | apply Kd.R_drew)); exact Kd.R_mono HO_33.out (fun _ hk => hk.2)⟩, ⟨uB⟩⟩
      ·simp only [Option.some.injEq, Prod.mk.injEq] at H
       obtain ⟨rfl, rfl⟩ := H
       go_wp2
       go_ret2
       exact ⟨_, eR, by (with_reducible repeat (first | apply Kd.R_alloc | apply Kd.R_drewN | apply Kd.R_drew)); exact Kd.R_mono HO_9.out (fun _ hk => trivial), uB⟩
def phi_LCP.l0 : Nat → List Int → List Int → List Int → Int → Int → Option (List Int × Bool)
  | 0, _, _, _, _, _ => none
  | k + 1, x6, x8, x22, x23, x24 => if x24 < x23 then (if 0 ≤ x24 then (if x24 < (x22.length : Int) then (if 0 ≤ (rd x22 x24) then (if (rd x22 x24) < (x6.length : Int) then (if x24 < (x8.length : Int) then (phi_LCP.l0 k x6 (x8.set (x24 : Int).toNat (rd x6 (rd x22 x24))) x22 x23 (wrap64 (x24 + 1))) else (none)) else (none)) else (none)) else (none)) else (none)) else (some (x8, true))
def phi_LCP.f (k : Nat) (l0 : List Int) (l1 : List Int) : Option (List Int × Bool) := (phi_PLCP.f k l0 l1).bind fun bt608 => (if bt608.2 = true then (if 0 ≤ (l1.length : Int) then (if ((l1.length : Int) : Int).toNat ≤ 35184372088832 then (phi_LCP.l0 k bt608.1 (List.replicate ((l1.length : Int) : Int).toNat 0) l1 (l1.length : Int) 0) else (none)) else (none)) else (some (([] : List Int), false)))
theorem phi_LCP.mono_l : ∀ k, (∀ y0 y1 y2 y3 y4, LeO (phi_LCP.l0 k y0 y1 y2 y3 y4) (phi_LCP.l0 (k + 1) y0 y1 y2 y3 y4))
  | 0 => fun _ _ _ _ _ r h => by simp [phi_LCP.l0] at h
  | k + 1 => by
    have ih0 := phi_LCP.mono_l k
    · intro y0 y1 y2 y3 y4
      unfold phi_LCP.l0
      have m0 := @phi_PLCP.mono
      exact mB
theorem phi_LCP.mono : ∀ a0 a1 k, LeO (phi_LCP.f k a0 a1) (phi_LCP.f (k + 1) a0 a1) := by
  intro a0 a1 k
  have ih0 := phi_LCP.mono_l k
  unfold phi_LCP.f
  have m0 := @phi_PLCP.mono
  exact mB
set_option maxHeartbeats 8000000 in
set_option maxRecDepth 100000 in
theorem phi_LCP.calls (k : Nat) (A0 : Option Addr) (c0 : Nat) (l0 : List Int) (A1 : Option Addr) (c1 : Nat) (l1 : List Int) (r1 : List Int) (r2 : Bool) (w : World) (hr0 : Kd.C (Kd.int .u8) w A0 l0.length l0) (hc0 : l0.length ≤ c0) (hr1 : Kd.C (Kd.int .i64) w A1 l1.length l1) (hc1 : l1.length ≤ c1) (h : phi_LCP.f k l0 l1 = some (r1, r2)) :
    Calls Tryz.prog 62 #[.slice A0 l0.length c0, .slice A1 l1.length c1] w fun e w' => ∃ v0_ : Value, e = .returned (.tuple #[v0_, .bool r2]) ∧ Kd.R (Kd.int .i64) 3 w' w.heap.size (fun _ => True) v0_ r1 ∧ Below w.heap.size w w' := by
 have HR0 := Aside0.mk hr0
 have HC0 := Aside0.mk hc0
 clear hr0 hc0
 have HR1 := Aside0.mk hr1
 have HC1 := Aside0.mk hc1
 clear hr1 hc1
 have HB := Aside0.mk (Below.refl w.heap.size w)
 have H := h
 clear h
 unfold phi_LCP.f at H
 obtain ⟨⟨t608, t609⟩, A3, H⟩ := bdS H
 try dsimp only at H
 by_cases c4 : t609 = true
 ·subst c4
  rw [if_pos rfl] at H
  obtain ⟨c5b0, c5b1, H⟩ := ifE H
  obtain ⟨c6b0, c6b1, H⟩ := ifE H
  generalize hy612 : (List.replicate ((l1.length : Int) : Int).toNat 0 : List Int) = y612 at H
  try simp only [Option.bind_some] at H
  have Ny612 := Aside0.mk hy612.symm
  clear hy612
  have H' := Aside0.mk H
  clear H
  go_enter Tryz.func62, Tryz.ntmps62
  go_wp2_with (first | ((with_reducible refine gate_callee (f := 83) rfl ?_); refine goesL_ (some 14) rfl rfl Tryz.func83 (by kernel_rfl) rfl #[.slice A0 l0.length c0, .slice A1 l1.length c1] rfl aE ?_; (with_reducible refine (phi_PLCP.calls k _ _ l0 _ _ l1 t608 true _ ?side1 ?side2 ?side3 ?side4 A3.out).mono ?_); (case side1 => exact uC HR0.out); (case side2 => exact HC0.out); (case side3 => exact uC HR1.out); (case side4 => exact HC1.out); rintro e w7 ⟨v610, rfl, ho0, hb⟩; refine ⟨_, rfl, ?_⟩; have n0_ := Aside0.mk (Kd.R_lower ho0 (below_size uB)); have n1_ := Aside0.mk (below_step uB hb); clear HB; have HO611 := n0_; have HB := n1_; clear n0_ n1_; (try clear hb); (try clear hb2); (try clear hk); (try clear hi); (try clear ho0)) | ((with_reducible refine gate_dst (N := 21) rfl ?_); refine Kd.R_make (Kd.int .i64) _ 3 rfl (N := 21) rfl 29 _ _ rfl (l1.length : Int) rfl rfl Tryz.underlying29 (.int .i64 0) 8 info3 rfl (by decide) (by omega) 0 (ok := fun _ => True) (okp := fun _ => True) rfl (fun _ hk => hk) trivial dT (Nat.le_trans (Nat.mul_le_mul_right _ (dT : (l1.length : Int).toNat ≤ 35184372088832)) (by omega)) (Below.refl _ _) (Nat.le_refl _) ?_; intro v613 w8 ho9 hb hg_ hnew_; clear hg_ hnew_; (first | rw [← Ny612.out] at ho9 | (simp only [Int.reduceToNat] at ho9; rw [← Ny612.out] at ho9)); have n0_ := Aside0.mk (Kd.R_elder' (uR HO611.out) (Kd.R_base ho9) hb); have n1_ := Aside0.mk (Kd.R_lower (Kd.R_new' ho9 (Kd.R_lt (uR HO611.out))) (below_size uB)); have n2_ := Aside0.mk (below_step uB hb); clear HO611; clear HB; have HO611 := n0_; have HO614 := n1_; have HB := n2_; clear n0_ n1_ n2_; clear hb ho9))
  go_loopg [24] k (fun kq v24 w' => ∃ (x8_1 : List Int) (x24_1 : Int), v24 = .int .i64 x24_1 ∧ Aside0 (phi_LCP.l0 kq t608 x8_1 l1 (l1.length : Int) x24_1 = some (r1, r2)) ∧ Aside0 (kq ≤ k) ∧ Aside0 (Kd.R (Kd.int .i64) 3 w' w.heap.size (fun k_ => some k_ ≠ (v613 : Value).ownBlock) v610 t608) ∧ Aside0 (Kd.R (Kd.int .i64) 3 w' w.heap.size (fun k_ => some k_ ≠ (v610 : Value).ownBlock) v613 x8_1) ∧ Aside0 (Below w.heap.size w w'))
  case atStart => exact ⟨(y612), (0), sD, H', ⟨Nat.le_refl _⟩, ⟨by (with_reducible repeat (first | apply Kd.R_alloc | apply Kd.R_drewN | apply Kd.R_drew)); exact Kd.R_mono HO611.out (fun _ hk => hk.2)⟩, ⟨by (with_reducible repeat (first | apply Kd.R_alloc | apply Kd.R_drewN | apply Kd.R_drew)); exact Kd.R_mono HO614.out (fun _ hk => hk.2)⟩, ⟨uB⟩⟩
  case round =>
   clear H'
   try clear c1
   try clear p2
   try clear c4
   try clear c5
   try clear c5b0
   try clear c5b1
   try clear c6
   try clear c6b0
   try clear c6b1
   try clear c8
   obtain ⟨x8_1, x24_1, rfl, HA, HK1, HO_6, HO_8, HB⟩ := hrel
   cases gk with
   | zero => exact absurd HA.out (by simp [phi_LCP.l0])
   | succ k1 =>
    have H := HA.out
    clear HA
    simp only [phi_LCP.l0] at H
    rcases ifC H with ⟨c10b0, H⟩ | ⟨c10b0, H⟩
    ·obtain ⟨c11b0, H⟩ := ifD H
     obtain ⟨c12b0, c13b0, H⟩ := ifD2 H
     obtain ⟨c14b0, c15b0, H⟩ := ifD2 H
     generalize hy617 : (x8_1.set (x24_1 : Int).toNat (rd t608 (rd l1 x24_1)) : List Int) = y617 at H
     try simp only [Option.bind_some] at H
     have Ny617 := Aside0.mk hy617.symm
     clear hy617
     have H' := Aside0.mk H
     clear H
     obtain ⟨ad615, e615, hx615_0, p615, q615⟩ := rIO HB.out HR1.out x24_1
     cases e615
     obtain ⟨Ao17, co17, eo17⟩ := Kd.R_slice HO_6.out
     subst eo17
     obtain ⟨ad616, e616, hx616_0, p616, q616⟩ := rI (Kd.R_reads' HO_6.out).2.2 (rd l1 x24_1)
     cases e616
     have p16 : 0 ≤ (x24_1 : Int) := dT
     have q16 : (x24_1 : Int) < ((x8_1.length : Int) : Int) := dT
     obtain ⟨go16, co16, eo16, gb16, gl16, cl16, HG16⟩ := Kd.R_form HO_8.out (by omega)
     (first | cases eo16 | (injection eo16 with ea_ en_ ec_; (first | subst ea_ | (injection ea_ with ea_; subst ea_)); subst ec_; clear en_))
     have GB16 := Aside0.mk gb16
     have GG16 := Aside0.mk HG16
     clear gb16 gl16 HG16
     obtain ⟨hx16_0, hf16_0⟩ := Kd.R_celln 0 HO_8.out (x24_1 : Int) p16 q16
     replace p16 := eq_true p16
     replace q16 := eq_true q16
     have HP18 := Kd.R_putg HO_8.out (x24_1 : Int) (rd t608 (rd l1 x24_1))
     go_wp2_with (first | ((with_reducible refine gate_store (t := 3) (p := 35) rfl ?_); refine store_event (t := 3) (p := 35) (v := ?vo_w19) (w1 := (wr.setCell ⟨go16, (x24_1 : Int).toNat, none⟩ (.int .i64 (rd t608 (rd l1 x24_1))))) ?hg ?ho ?hn ?hr ?_; (case ho => rfl); (case hg => rfl); (case hn => rfl); (case hr => first | (go_simp; done) | (go_simp; rfl)); intro w19 hw; have hg : wr.grownBy w19 (some go16) := (by rw [hw]; exact HP18.2); have hp_ : Kd.R (Kd.int .i64) 3 w19 w.heap.size (fun k_ => some k_ ≠ (.slice (some ad616) t608.length co17 : Value).ownBlock) (.slice (some ⟨go16, 0, none⟩) x8_1.length co16) y617 := (by rw [hw, Ny617.out]; exact HP18.1); clear HP18; have n0_ := Aside0.mk (Kd.R_after (v := (.slice (some ⟨go16, 0, none⟩) x8_1.length co16)) (v1 := (.slice (some ⟨go16, 0, none⟩) x8_1.length co16)) (ok := (fun _ => True)) (by (with_reducible repeat (first | apply Kd.R_alloc | apply Kd.R_drewN | apply Kd.R_drew)); exact Kd.R_mono HO_6.out (fun _ hk => ⟨trivial, hk⟩)) hg (.inl rfl)); have n1_ := Aside0.mk (hp_); have n2_ := Aside0.mk ((by rw [hw]; exact below_set (HB.out) GB16.out : Below w.heap.size w w19)); clear HO_6; clear HO_8; clear HB; have HO_6 := n0_; have HO_8 := n1_; have HB := n2_; clear n0_ n1_ n2_; clear hg hw hp_))
     go_roundg k1
     case measure => have := HK1.out; omega
     case rel => exact ⟨(y617), (wrap64 (x24_1 + 1)), sD, H', ⟨by have := HK1.out; omega⟩, ⟨by (with_reducible repeat (first | apply Kd.R_alloc | apply Kd.R_drewN | apply Kd.R_drew)); exact Kd.R_mono HO_6.out (fun _ hk => hk.2)⟩, ⟨uR HO_8.out⟩, ⟨uB⟩⟩
    ·simp only [Option.some.injEq, Prod.mk.injEq] at H
     obtain ⟨rfl, rfl⟩ := H
     go_wp2
     go_ret2
     exact ⟨_, eR, by (with_reducible repeat (first | apply Kd.R_alloc | apply Kd.R_drewN | apply Kd.R_drew)); exact Kd.R_mono HO_8.out (fun _ hk => trivial), uB⟩
 ·replace c4 := Bool.eq_false_iff.mpr c4
  subst c4
  rw [if_neg (by decide)] at H
  simp only [Option.some.injEq, Prod.mk.injEq] at H
  obtain ⟨rfl, rfl⟩ := H
  go_enter Tryz.func62, Tryz.ntmps62
  go_wp2_with (first | ((with_reducible refine gate_callee (f := 83) rfl ?_); refine goesL_ (some 14) rfl rfl Tryz.func83 (by kernel_rfl) rfl #[.slice A0 l0.length c0, .slice A1 l1.length c1] rfl aE ?_; (with_reducible refine (phi_PLCP.calls k _ _ l0 _ _ l1 t608 false _ ?side1 ?side2 ?side3 ?side4 A3.out).mono ?_); (case side1 => exact uC HR0.out); (case side2 => exact HC0.out); (case side3 => exact uC HR1.out); (case side4 => exact HC1.out); rintro e w20 ⟨v610, rfl, ho0, hb⟩; refine ⟨_, rfl, ?_⟩; have n0_ := Aside0.mk (Kd.R_lower ho0 (below_size uB)); have n1_ := Aside0.mk (below_step uB hb); clear HB; have HO611 := n0_; have HB := n1_; clear n0_ n1_; (try clear hb); (try clear hb2); (try clear hk); (try clear hi); (try clear ho0)))
  go_ret2
  exact ⟨_, eR, nL, uB⟩
end Go.Proofs.YtbbpplnnegdenaaGreat.PTopPipe
end
section
namespace Go.Proofs.YtbbpplnnegdenaaGreat.PTopPipe
open Go.RowKit Go.Proofs.YtbbpplnnegdenaaGreatW.PrintWords Go.Proofs.YtbbpplnnegdenaaGreatW.PrintLast Go.Proofs.YtbbpplnnegdenaaGreatW.PrintMore
attribute [local go_sem] max2_int min2_int max_two min_two max_three min_three max_four min_four
set_option linter.unusedVariables false
set_option linter.unusedSimpArgs false
mutual
def check_SA.j0 : Nat → List Int → List Int → List Int → Bool → Option (Bool)
  | 0, _, _, _, _ => none
  | k + 1, x0, x1, x5, x23 => if x23 = true then (some false) else (if x5.length < 17592186044416 then (check_SA.l0 k x0 x1 (x5 ++ [(-1)]) 1) else (none))
def check_SA.l0 : Nat → List Int → List Int → List Int → Int → Option (Bool)
  | 0, _, _, _, _ => none
  | k + 1, x0, x1, x5, x7 => if x7 < (x1.length : Int) then (if 0 ≤ (wrap64 (x7 - 1)) then (if (wrap64 (x7 - 1)) < (x1.length : Int) then (if 0 ≤ x7 then (if 0 ≤ (rd x1 (wrap64 (x7 - 1))) then (if (rd x1 (wrap64 (x7 - 1))) < (x0.length : Int) then (if 0 ≤ (rd x1 x7) then (if (rd x1 x7) < (x0.length : Int) then (if (rd x0 (rd x1 (wrap64 (x7 - 1)))) > (rd x0 (rd x1 x7)) then (some false) else (if (rd x0 (rd x1 (wrap64 (x7 - 1)))) = (rd x0 (rd x1 x7)) then (if 0 ≤ (wrap64 ((rd x1 (wrap64 (x7 - 1))) + 1)) then (if (wrap64 ((rd x1 (wrap64 (x7 - 1))) + 1)) < (x5.length : Int) then (if 0 ≤ (wrap64 ((rd x1 x7) + 1)) then (if (wrap64 ((rd x1 x7) + 1)) < (x5.length : Int) then (if (rd x5 (wrap64 ((rd x1 (wrap64 (x7 - 1))) + 1))) > (rd x5 (wrap64 ((rd x1 x7) + 1))) then (some false) else (check_SA.l0 k x0 x1 x5 (wrap64 (x7 + 1)))) else (none)) else (none)) else (none)) else (none)) else (check_SA.l0 k x0 x1 x5 (wrap64 (x7 + 1))))) else (none)) else (none)) else (none)) else (none)) else (none)) else (none)) else (none)) else (some true)
end
def check_SA.f (k : Nat) (l0 : List Int) (l1 : List Int) : Option (Bool) := (rank_Inverse.f k l1).bind fun bt618 => (if bt618.2 = true then (check_SA.j0 k l0 l1 bt618.1 ((l1.length : Int) != (l0.length : Int))) else (check_SA.j0 k l0 l1 bt618.1 true))
theorem check_SA.mono_l : ∀ k, (∀ y0 y1 y2 y3, LeO (check_SA.j0 k y0 y1 y2 y3) (check_SA.j0 (k + 1) y0 y1 y2 y3)) ∧ (∀ y0 y1 y2 y3, LeO (check_SA.l0 k y0 y1 y2 y3) (check_SA.l0 (k + 1) y0 y1 y2 y3))
  | 0 => ⟨fun _ _ _ _ r h => by simp [check_SA.j0] at h, fun _ _ _ _ r h => by simp [check_SA.l0] at h⟩
  | k + 1 => by
    obtain ⟨ih0, ih1⟩ := check_SA.mono_l k
    refine ⟨?_, ?_⟩
    · intro y0 y1 y2 y3
      unfold check_SA.j0
      have m0 := @rank_Inverse.mono
      exact mB
    · intro y0 y1 y2 y3
      unfold check_SA.l0
      have m0 := @rank_Inverse.mono
      exact mB
theorem check_SA.mono : ∀ a0 a1 k, LeO (check_SA.f k a0 a1) (check_SA.f (k + 1) a0 a1) := by
  intro a0 a1 k
  obtain ⟨ih0, ih1⟩ := check_SA.mono_l k
  unfold check_SA.f
  have m0 := @rank_Inverse.mono
  exact mB
set_option maxHeartbeats 8000000 in
set_option maxRecDepth 100000 in
theorem check_SA.calls (k : Nat) (A0 : Option Addr) (c0 : Nat) (l0 : List Int) (A1 : Option Addr) (c1 : Nat) (l1 : List Int) (r : Bool) (w : World) (hr0 : Kd.C (Kd.int .u8) w A0 l0.length l0) (hc0 : l0.length ≤ c0) (hr1 : Kd.C (Kd.int .i64) w A1 l1.length l1) (hc1 : l1.length ≤ c1) (h : check_SA.f k l0 l1 = some r) :
    Calls Tryz.prog 84 #[.slice A0 l0.length c0, .slice A1 l1.length c1] w fun e w' => e = .returned (.bool r) ∧ Below w.heap.size w w' := by
 have HR0 := Aside0.mk hr0
 have HC0 := Aside0.mk hc0
 clear hr0 hc0
 have HR1 := Aside0.mk hr1
 have HC1 := Aside0.mk hc1
 clear hr1 hc1
 have HB := Aside0.mk (Below.refl w.heap.size w)
 have H := h
 clear h
 unfold check_SA.f at H
 obtain ⟨⟨t618, t619⟩, A3, H⟩ := bdS H
 try dsimp only at H
 have HC4 := Aside0.mk H
 clear H
 go_enter Tryz.func84, Tryz.ntmps84
 go_upto_region 2 with (first | (go_at_call 72; (with_reducible refine (rank_Inverse.calls k _ _ l1 t618 t619 _ ?side1 ?side2 A3.out).mono ?_); (case side1 => exact uC HR1.out); (case side2 => exact HC1.out); rintro e w5 ⟨v620, rfl, ho0, hb⟩; have n0_ := Aside0.mk (Kd.R_lower ho0 (below_size uB)); have n1_ := Aside0.mk (below_step uB hb); clear HB; have HO621 := n0_; have HB := n1_; clear n0_ n1_; (try clear hb); (try clear hb2); (try clear hk); (try clear hi); (try clear ho0)))
 repeat (go_quiet (first | (go_at_call 72; (with_reducible refine (rank_Inverse.calls k _ _ l1 t618 t619 _ ?side1 ?side2 A3.out).mono ?_); (case side1 => exact uC HR1.out); (case side2 => exact HC1.out); rintro e w5 ⟨v620, rfl, ho0, hb⟩; have n0_ := Aside0.mk (Kd.R_lower ho0 (below_size uB)); have n1_ := Aside0.mk (below_step uB hb); clear HB; have HO621 := n0_; have HB := n1_; clear n0_ n1_; (try clear hb); (try clear hb2); (try clear hk); (try clear hi); (try clear ho0))); go_upto_region 2 with (first | (go_at_call 72; (with_reducible refine (rank_Inverse.calls k _ _ l1 t618 t619 _ ?side1 ?side2 A3.out).mono ?_); (case side1 => exact uC HR1.out); (case side2 => exact HC1.out); rintro e w5 ⟨v620, rfl, ho0, hb⟩; have n0_ := Aside0.mk (Kd.R_lower ho0 (below_size uB)); have n1_ := Aside0.mk (below_step uB hb); clear HB; have HO621 := n0_; have HB := n1_; clear n0_ n1_; (try clear hb); (try clear hb2); (try clear hk); (try clear hi); (try clear ho0))))
 (try simp only [Act.put, List.setIfInBounds_toArray, List.set_cons_zero, List.set_cons_succ])
 go_cut [23] (fun v23 wc => ∃ (kq : Nat) (x23_3 : Bool), v23 = .bool x23_3 ∧ Aside0 (check_SA.j0 kq l0 l1 t618 x23_3 = some r) ∧ Aside0 (kq ≤ k) ∧ Aside0 (Kd.R (Kd.int .i64) 3 wc w.heap.size (fun _ => True) v620 t618) ∧ Aside0 (Below w.heap.size w wc))
 case first =>
  have H := HC4.out
  clear HC4
  by_cases c6 : t619 = true
  ·subst c6
   rw [if_pos rfl] at H
   have H' := Aside0.mk H
   clear H
   go_wp2
   repeat (go_quiet (fail); try go_wp2)
   go_meet
   case rel => exact ⟨_, (((l1.length : Int) != (l0.length : Int))), sD, H', ⟨by first | omega | exact Nat.le_refl _⟩, ⟨uR HO621.out⟩, ⟨uB⟩⟩
  ·replace c6 := Bool.eq_false_iff.mpr c6
   subst c6
   rw [if_neg (by decide)] at H
   have H' := Aside0.mk H
   clear H
   go_wp2
   repeat (go_quiet (fail); try go_wp2)
   go_meet
   case rel => exact ⟨_, (true), sD, H', ⟨by first | omega | exact Nat.le_refl _⟩, ⟨uR HO621.out⟩, ⟨uB⟩⟩
 case rest =>
  clear HC4
  try clear c1
  try clear p2
  try clear c6
  obtain ⟨kq, x23_3, rfl, HA, HJ3, HO_5, HB⟩ := hcut
  cases kq with
  | zero => exact absurd HA.out (by simp [check_SA.j0])
  | succ kj3 =>
   have H := HA.out
   clear HA
   simp only [check_SA.j0] at H
   by_cases c7 : x23_3 = true
   ·subst c7
    rw [if_pos rfl] at H
    obtain rfl := Option.some.inj H
    go_wp2
    repeat (go_quiet (fail); try go_wp2)
    go_ret
    exact ⟨eR, uB⟩
   ·replace c7 := Bool.eq_false_iff.mpr c7
    subst c7
    rw [if_neg (by decide)] at H
    obtain ⟨c8, H⟩ := ifP H
    have LMc8 := Aside0.mk c8
    clear c8
    generalize hy622 : (t618 ++ [(-1)] : List Int) = y622 at H
    try simp only [Option.bind_some] at H
    have Ny622 := Aside0.mk hy622.symm
    clear hy622
    have H' := Aside0.mk H
    clear H
    go_wp2_with (first | ((with_reducible refine gate_builtin (b := .append) (xs := #[.tmp 24, .tmp 25]) rfl ?_); (try (refine gate_guard (by rfl) ?_; dsimp only)); at_builtin; refine Kd.R_append (Kd.int .i64) (w0 := w) w.heap.size rfl (.tmp 24) (.tmp 25) 29 3 (.int .i64 0) 8 rfl Tryz.underlying29 info3 rfl (by decide) (by omega) v620 t618 (-1) [.int .i64 (-1)] (fun _ => True) (fun _ => False) rfl rfl ?aP (fun _ hk => hk.elim) ?aF ?aO ?aB ?aS ?aL ?_; (case aP => exact rfl); (case aB => exact uB); (case aF => exact (fun _ _ => trivial)); (case aO => exact (uR HO_5.out)); (case aS => exact (below_size uB)); (case aL => have := LMc8.out; omega); intro v623 w9 ho hb hg hat; rw [← Ny622.out] at ho; have n0_ := Aside0.mk (hb); have n1_ := Aside0.mk (ho); clear HB; clear HO_5; have HB := n0_; have HO624 := n1_; clear n0_ n1_; clear ho hb hg hat))
    repeat (go_quiet (first | ((with_reducible refine gate_builtin (b := .append) (xs := #[.tmp 24, .tmp 25]) rfl ?_); (try (refine gate_guard (by rfl) ?_; dsimp only)); at_builtin; refine Kd.R_append (Kd.int .i64) (w0 := w) w.heap.size rfl (.tmp 24) (.tmp 25) 29 3 (.int .i64 0) 8 rfl Tryz.underlying29 info3 rfl (by decide) (by omega) v620 t618 (-1) [.int .i64 (-1)] (fun _ => True) (fun _ => False) rfl rfl ?aP (fun _ hk => hk.elim) ?aF ?aO ?aB ?aS ?aL ?_; (case aP => exact rfl); (case aB => exact uB); (case aF => exact (fun _ _ => trivial)); (case aO => exact (uR HO_5.out)); (case aS => exact (below_size uB)); (case aL => have := LMc8.out; omega); intro v623 w9 ho hb hg hat; rw [← Ny622.out] at ho; have n0_ := Aside0.mk (hb); have n1_ := Aside0.mk (ho); clear HB; clear HO_5; have HB := n0_; have HO624 := n1_; clear n0_ n1_; clear ho hb hg hat)); try go_wp2_with (first | ((with_reducible refine gate_builtin (b := .append) (xs := #[.tmp 24, .tmp 25]) rfl ?_); (try (refine gate_guard (by rfl) ?_; dsimp only)); at_builtin; refine Kd.R_append (Kd.int .i64) (w0 := w) w.heap.size rfl (.tmp 24) (.tmp 25) 29 3 (.int .i64 0) 8 rfl Tryz.underlying29 info3 rfl (by decide) (by omega) v620 t618 (-1) [.int .i64 (-1)] (fun _ => True) (fun _ => False) rfl rfl ?aP (fun _ hk => hk.elim) ?aF ?aO ?aB ?aS ?aL ?_; (case aP => exact rfl); (case aB => exact uB); (case aF => exact (fun _ _ => trivial)); (case aO => exact (uR HO_5.out)); (case aS => exact (below_size uB)); (case aL => have := LMc8.out; omega); intro v623 w9 ho hb hg hat; rw [← Ny622.out] at ho; have n0_ := Aside0.mk (hb); have n1_ := Aside0.mk (ho); clear HB; clear HO_5; have HB := n0_; have HO624 := n1_; clear n0_ n1_; clear ho hb hg hat)))
    go_loopg [7] kj3 (fun kq v7 w' => ∃ (x7_2 : Int), v7 = .int .i64 x7_2 ∧ Aside0 (check_SA.l0 kq l0 l1 y622 x7_2 = some r) ∧ Aside0 (kq ≤ kj3) ∧ Aside0 (Kd.R (Kd.int .i64) 3 w' w.heap.size (fun _ => True) v623 y622) ∧ Aside0 (Below w.heap.size w w'))
    case atStart => exact ⟨(1), sD, H', ⟨Nat.le_refl _⟩, ⟨uR HO624.out⟩, ⟨uB⟩⟩
    case round =>
     clear H'
     try clear c1
     try clear p2
     try clear c6
     try clear c7
     try clear c8
     try clear p2
     obtain ⟨x7_2, rfl, HA, HK2, HO_5, HB⟩ := hrel
     cases gk with
     | zero => exact absurd HA.out (by simp [check_SA.l0])
     | succ k2 =>
      have H := HA.out
      clear HA
      simp only [check_SA.l0] at H
      rcases ifC H with ⟨c10b0, H⟩ | ⟨c10b0, H⟩
      ·obtain ⟨ji11, hji11⟩ : ∃ j_ : Int, (wrap64 (x7_2 - 1)) = j_ := ⟨_, rfl⟩
       first | rw [hji11] at H | simp only [hji11] at H
       have hji11w : (IntKind.i64.wrap (x7_2 - 1)) = ji11 := (i64_w _).trans hji11
       obtain ⟨c12b0, H⟩ := ifD H
       obtain ⟨c13b0, c14b0, H⟩ := ifD2 H
       obtain ⟨c15b0, c16b0, H⟩ := ifD2 H
       obtain ⟨c17b0, c18b0, H⟩ := ifD2 H
       rcases ifK H with ⟨c19b0, H⟩ | ⟨c19b0, H⟩
       ·obtain rfl := Option.some.inj H
        obtain ⟨ad625, e625, hx625_0, p625, q625⟩ := rIO HB.out HR1.out (ji11)
        cases e625
        obtain ⟨ad626, e626, hx626_0, p626, q626⟩ := rIO HB.out HR1.out x7_2
        obtain rfl : ad625 = ad626 := (by injection e626)
        obtain ⟨ad627, e627, hx627_0, p627, q627⟩ := rIO HB.out HR0.out (rd l1 (ji11))
        cases e627
        obtain ⟨ad628, e628, hx628_0, p628, q628⟩ := rIO HB.out HR0.out (rd l1 x7_2)
        obtain rfl : ad627 = ad628 := (by injection e628)
        go_wp2
        repeat (go_quiet (fail); try go_wp2)
        go_ret
        exact ⟨by first | rfl | (simp [errW_none, errW_some] <;> rfl) | (simp only [← hji11]; first | rfl | (simp [errW_none, errW_some] <;> rfl)) | (simp [*, errW_none, errW_some] <;> rfl), uB⟩
       ·by_cases c20 : (rd l0 (rd l1 (ji11))) = (rd l0 (rd l1 x7_2))
        ·rw [if_pos c20] at H
         have c20b0 : ((rd l0 (rd l1 (ji11))) == (rd l0 (rd l1 x7_2))) = true := beq_iff_eq.mpr c20
         have c20b1 : ((rd l0 (rd l1 (ji11))) != (rd l0 (rd l1 x7_2))) = false := bne_eq_false_iff_eq.mpr c20
         clear c20
         obtain ⟨ji21, hji21⟩ : ∃ j_ : Int, (wrap64 ((rd l1 (ji11)) + 1)) = j_ := ⟨_, rfl⟩
         first | rw [hji21] at H | simp only [hji21] at H
         have hji21w : (IntKind.i64.wrap ((rd l1 (ji11)) + 1)) = ji21 := (i64_w _).trans hji21
         obtain ⟨c22b0, c23b0, H⟩ := ifD2 H
         obtain ⟨ji24, hji24⟩ : ∃ j_ : Int, (wrap64 ((rd l1 x7_2) + 1)) = j_ := ⟨_, rfl⟩
         first | rw [hji24] at H | simp only [hji24] at H
         have hji24w : (IntKind.i64.wrap ((rd l1 x7_2) + 1)) = ji24 := (i64_w _).trans hji24
         obtain ⟨c25b0, c26b0, H⟩ := ifD2 H
         rcases ifK H with ⟨c27b0, H⟩ | ⟨c27b0, H⟩
         ·obtain rfl := Option.some.inj H
          obtain ⟨ad625, e625, hx625_0, p625, q625⟩ := rIO HB.out HR1.out (ji11)
          cases e625
          obtain ⟨ad626, e626, hx626_0, p626, q626⟩ := rIO HB.out HR1.out x7_2
          obtain rfl : ad625 = ad626 := (by injection e626)
          obtain ⟨ad627, e627, hx627_0, p627, q627⟩ := rIO HB.out HR0.out (rd l1 (ji11))
          cases e627
          obtain ⟨ad628, e628, hx628_0, p628, q628⟩ := rIO HB.out HR0.out (rd l1 x7_2)
          obtain rfl : ad627 = ad628 := (by injection e628)
          obtain ⟨ad629, e629, hx629_0, p629, q629⟩ := rIO HB.out HR0.out (rd l1 (ji11))
          obtain rfl : ad627 = ad629 := (by injection e629)
          obtain ⟨ad630, e630, hx630_0, p630, q630⟩ := rIO HB.out HR0.out (rd l1 x7_2)
          obtain rfl : ad627 = ad630 := (by injection e630)
          obtain ⟨Ao28, co28, eo28⟩ := Kd.R_slice HO_5.out
          subst eo28
          obtain ⟨ad631, e631, hx631_0, p631, q631⟩ := rI (Kd.R_reads' HO_5.out).2.2 (ji21)
          cases e631
          obtain ⟨ad632, e632, hx632_0, p632, q632⟩ := rI (Kd.R_reads' HO_5.out).2.2 (ji24)
          obtain rfl : ad631 = ad632 := (by injection e632)
          go_wp2
          repeat (go_quiet (fail); try go_wp2)
          go_ret
          exact ⟨by first | rfl | (simp [errW_none, errW_some] <;> rfl) | (simp only [← hji11, ← hji21, ← hji24]; first | rfl | (simp [errW_none, errW_some] <;> rfl)) | (simp [*, errW_none, errW_some] <;> rfl), uB⟩
         ·have H' := Aside0.mk H
          clear H
          obtain ⟨ad625, e625, hx625_0, p625, q625⟩ := rIO HB.out HR1.out (ji11)
          cases e625
          obtain ⟨ad626, e626, hx626_0, p626, q626⟩ := rIO HB.out HR1.out x7_2
          obtain rfl : ad625 = ad626 := (by injection e626)
          obtain ⟨ad627, e627, hx627_0, p627, q627⟩ := rIO HB.out HR0.out (rd l1 (ji11))
          cases e627
          obtain ⟨ad628, e628, hx628_0, p628, q628⟩ := rIO HB.out HR0.out (rd l1 x7_2)
          obtain rfl : ad627 = ad628 := (by injection e628)
          obtain ⟨ad629, e629, hx629_0, p629, q629⟩ := rIO HB.out HR0.out (rd l1 (ji11))
          obtain rfl : ad627 = ad629 := (by injection e629)
          obtain ⟨ad630, e630, hx630_0, p630, q630⟩ := rIO HB.out HR0.out (rd l1 x7_2)
          obtain rfl : ad627 = ad630 := (by injection e630)
          obtain ⟨Ao29, co29, eo29⟩ := Kd.R_slice HO_5.out
          subst eo29
          obtain ⟨ad631, e631, hx631_0, p631, q631⟩ := rI (Kd.R_reads' HO_5.out).2.2 (ji21)
          cases e631
          obtain ⟨ad632, e632, hx632_0, p632, q632⟩ := rI (Kd.R_reads' HO_5.out).2.2 (ji24)
          obtain rfl : ad631 = ad632 := (by injection e632)
          go_wp2
          repeat (go_quiet (fail); try go_wp2)
          go_roundg k2
          case measure => have := HJ3.out; have := HK2.out; omega
          case rel => exact ⟨(wrap64 (x7_2 + 1)), sD, H', ⟨by have := HJ3.out; have := HK2.out; omega⟩, ⟨uR HO_5.out⟩, ⟨uB⟩⟩
        ·rw [if_neg c20] at H
         have c20b0 : ((rd l0 (rd l1 (ji11))) == (rd l0 (rd l1 x7_2))) = false := beq_eq_false_iff_ne.mpr c20
         have c20b1 : ((rd l0 (rd l1 (ji11))) != (rd l0 (rd l1 x7_2))) = true := bne_iff_ne.mpr c20
         have H' := Aside0.mk H
         clear H
         obtain ⟨ad625, e625, hx625_0, p625, q625⟩ := rIO HB.out HR1.out (ji11)
         cases e625
         obtain ⟨ad626, e626, hx626_0, p626, q626⟩ := rIO HB.out HR1.out x7_2
         obtain rfl : ad625 = ad626 := (by injection e626)
         obtain ⟨ad627, e627, hx627_0, p627, q627⟩ := rIO HB.out HR0.out (rd l1 (ji11))
         cases e627
         obtain ⟨ad628, e628, hx628_0, p628, q628⟩ := rIO HB.out HR0.out (rd l1 x7_2)
         obtain rfl : ad627 = ad628 := (by injection e628)
         obtain ⟨ad629, e629, hx629_0, p629, q629⟩ := rIO HB.out HR0.out (rd l1 (ji11))
         obtain rfl : ad627 = ad629 := (by injection e629)
         obtain ⟨ad630, e630, hx630_0, p630, q630⟩ := rIO HB.out HR0.out (rd l1 x7_2)
         obtain rfl : ad627 = ad630 := (by injection e630)
         go_wp2
         repeat (go_quiet (fail); try go_wp2)
         go_roundg k2
         case measure => have := HJ3.out; have := HK2.out; omega
         case rel => exact ⟨(wrap64 (x7_2 + 1)), sD, H', ⟨by have := HJ3.out; have := HK2.out; omega⟩, ⟨uR HO_5.out⟩, ⟨uB⟩⟩
      ·obtain rfl := Option.some.inj H
       go_wp2
       repeat (go_quiet (fail); try go_wp2)
       go_ret
       exact ⟨eR, uB⟩
def check_LCP.f (k : Nat) (l0 : List Int) (l1 : List Int) (l2 : List Int) : Option (Bool) := (kasai_LCP.f k l0 l1).bind fun bt633 => ((check_SA.f k l0 l1).bind fun t637 => (if t637 = true then ((slices_Equal_int_int.f k bt633.1 l2).bind fun t638 => (some t638)) else (some false)))
theorem check_LCP.mono : ∀ a0 a1 a2 k, LeO (check_LCP.f k a0 a1 a2) (check_LCP.f (k + 1) a0 a1 a2) := by
  intro a0 a1 a2 k
  unfold check_LCP.f
  have m0 := @check_SA.mono
  have m1 := @kasai_LCP.mono
  have m2 := @slices_Equal_int_int.mono
  exact mB
set_option maxHeartbeats 8000000 in
set_option maxRecDepth 100000 in
theorem check_LCP.calls (k : Nat) (A0 : Option Addr) (c0 : Nat) (l0 : List Int) (A1 : Option Addr) (c1 : Nat) (l1 : List Int) (A2 : Option Addr) (c2 : Nat) (l2 : List Int) (r : Bool) (w : World) (hr0 : Kd.C (Kd.int .u8) w A0 l0.length l0) (hc0 : l0.length ≤ c0) (hr1 : Kd.C (Kd.int .i64) w A1 l1.length l1) (hc1 : l1.length ≤ c1) (hr2 : Kd.C (Kd.int .i64) w A2 l2.length l2) (hc2 : l2.length ≤ c2) (h : check_LCP.f k l0 l1 l2 = some r) :
    Calls Tryz.prog 64 #[.slice A0 l0.length c0, .slice A1 l1.length c1, .slice A2 l2.length c2] w fun e w' => e = .returned (.bool r) ∧ Below w.heap.size w w' := by
 have HR0 := Aside0.mk hr0
 have HC0 := Aside0.mk hc0
 clear hr0 hc0
 have HR1 := Aside0.mk hr1
 have HC1 := Aside0.mk hc1
 clear hr1 hc1
 have HR2 := Aside0.mk hr2
 have HC2 := Aside0.mk hc2
 clear hr2 hc2
 have HB := Aside0.mk (Below.refl w.heap.size w)
 have H := h
 clear h
 unfold check_LCP.f at H
 obtain ⟨⟨t633, t634⟩, A4, H⟩ := bdS H
 try dsimp only at H
 obtain ⟨t637, A5, H⟩ := bdS H
 try dsimp only at H
 by_cases c6 : t637 = true
 ·subst c6
  rw [if_pos rfl] at H
  obtain ⟨t638, A7, H⟩ := bdS H
  try dsimp only at H
  obtain rfl := Option.some.inj H
  go_enter Tryz.func64, Tryz.ntmps64
  go_wp2_with (first | ((with_reducible refine gate_callee (f := 61) rfl ?_); refine goesL_ (some 12) rfl rfl Tryz.func61 (by kernel_rfl) rfl #[.slice A0 l0.length c0, .slice A1 l1.length c1] rfl aE ?_; (with_reducible refine (kasai_LCP.calls k _ _ l0 _ _ l1 t633 t634 _ ?side1 ?side2 ?side3 ?side4 A4.out).mono ?_); (case side1 => exact uC HR0.out); (case side2 => exact HC0.out); (case side3 => exact uC HR1.out); (case side4 => exact HC1.out); rintro e w8 ⟨v635, rfl, ho0, hb⟩; refine ⟨_, rfl, ?_⟩; have n0_ := Aside0.mk (Kd.R_lower ho0 (below_size uB)); have n1_ := Aside0.mk (below_step uB hb); clear HB; have HO636 := n0_; have HB := n1_; clear n0_ n1_; (try clear hb); (try clear hb2); (try clear hk); (try clear hi); (try clear ho0)) | ((with_reducible refine gate_callee (f := 84) rfl ?_); refine goesL_ (some 17) rfl rfl Tryz.func84 (by kernel_rfl) rfl #[.slice A0 l0.length c0, .slice A1 l1.length c1] rfl aE ?_; (with_reducible refine (check_SA.calls k _ _ l0 _ _ l1 true _ ?side1 ?side2 ?side3 ?side4 A5.out).mono ?_); (case side1 => exact uC (Kd.C_below HR0.out HB.out)); (case side2 => exact HC0.out); (case side3 => exact uC (Kd.C_below HR1.out HB.out)); (case side4 => exact HC1.out); rintro e w9 ⟨rfl, hb⟩; refine ⟨_, rfl, ?_⟩; have n0_ := Aside0.mk (Kd.R_below (uR HO636.out) hb); have n1_ := Aside0.mk (below_step uB hb); clear HO636; clear HB; have HO636 := n0_; have HB := n1_; clear n0_ n1_; (try clear hb); (try clear hb2); (try clear hk); (try clear hi); obtain ⟨Ao10, co10, eo10⟩ := Kd.R_slice HO636.out; subst eo10) | (go_at_call 63; (with_reducible refine (slices_Equal_int_int.calls k _ _ t633 _ _ l2 t638 _ ?side1 ?side2 ?side3 ?side4 A7.out).mono ?_); (case side1 => exact uC (Kd.R_reads' HO636.out).2.2); (case side2 => exact (Kd.R_reads' HO636.out).2.1); (case side3 => exact uC (Kd.C_below HR2.out HB.out)); (case side4 => exact HC2.out); rintro e w' ⟨rfl, ⟨nd, rfl⟩⟩))
  go_ret
  exact ⟨eR, uB⟩
 ·replace c6 := Bool.eq_false_iff.mpr c6
  subst c6
  rw [if_neg (by decide)] at H
  obtain rfl := Option.some.inj H
  go_enter Tryz.func64, Tryz.ntmps64
  go_wp2_with (first | ((with_reducible refine gate_callee (f := 61) rfl ?_); refine goesL_ (some 12) rfl rfl Tryz.func61 (by kernel_rfl) rfl #[.slice A0 l0.length c0, .slice A1 l1.length c1] rfl aE ?_; (with_reducible refine (kasai_LCP.calls k _ _ l0 _ _ l1 t633 t634 _ ?side1 ?side2 ?side3 ?side4 A4.out).mono ?_); (case side1 => exact uC HR0.out); (case side2 => exact HC0.out); (case side3 => exact uC HR1.out); (case side4 => exact HC1.out); rintro e w11 ⟨v635, rfl, ho0, hb⟩; refine ⟨_, rfl, ?_⟩; have n0_ := Aside0.mk (Kd.R_lower ho0 (below_size uB)); have n1_ := Aside0.mk (below_step uB hb); clear HB; have HO636 := n0_; have HB := n1_; clear n0_ n1_; (try clear hb); (try clear hb2); (try clear hk); (try clear hi); (try clear ho0)) | ((with_reducible refine gate_callee (f := 84) rfl ?_); refine goesL_ (some 17) rfl rfl Tryz.func84 (by kernel_rfl) rfl #[.slice A0 l0.length c0, .slice A1 l1.length c1] rfl aE ?_; (with_reducible refine (check_SA.calls k _ _ l0 _ _ l1 false _ ?side1 ?side2 ?side3 ?side4 A5.out).mono ?_); (case side1 => exact uC (Kd.C_below HR0.out HB.out)); (case side2 => exact HC0.out); (case side3 => exact uC (Kd.C_below HR1.out HB.out)); (case side4 => exact HC1.out); rintro e w12 ⟨rfl, hb⟩; refine ⟨_, rfl, ?_⟩; have n0_ := Aside0.mk (Kd.R_below (uR HO636.out) hb); have n1_ := Aside0.mk (below_step uB hb); clear HO636; clear HB; have HO636 := n0_; have HB := n1_; clear n0_ n1_; (try clear hb); (try clear hb2); (try clear hk); (try clear hi)))
  go_ret
  exact ⟨eR, uB⟩
def whorlref4_Ints.l0 : Nat → List Int → List Int → Int → Option (Bool)
  | 0, _, _, _ => none
  | k + 1, x0, x1, x5 => if x5 < (x0.length : Int) then (if 0 ≤ x5 then (if x5 < (x1.length : Int) then (if (rd x0 x5) = (rd x1 x5) then (whorlref4_Ints.l0 k x0 x1 (wrap64 (x5 + 1))) else (some false)) else (none)) else (none)) else (some true)
def whorlref4_Ints.f (k : Nat) (l0 : List Int) (l1 : List Int) : Option (Bool) := if (l0.length : Int) = (l1.length : Int) then (whorlref4_Ints.l0 k l0 l1 0) else (some false)
theorem whorlref4_Ints.mono_l : ∀ k, (∀ y0 y1 y2, LeO (whorlref4_Ints.l0 k y0 y1 y2) (whorlref4_Ints.l0 (k + 1) y0 y1 y2))
  | 0 => fun _ _ _ r h => by simp [whorlref4_Ints.l0] at h
  | k + 1 => by
    have ih0 := whorlref4_Ints.mono_l k
    · intro y0 y1 y2
      unfold whorlref4_Ints.l0
      exact mB
theorem whorlref4_Ints.mono : ∀ a0 a1 k, LeO (whorlref4_Ints.f k a0 a1) (whorlref4_Ints.f (k + 1) a0 a1) := by
  intro a0 a1 k
  have ih0 := whorlref4_Ints.mono_l k
  unfold whorlref4_Ints.f
  exact mB
set_option maxHeartbeats 8000000 in
set_option maxRecDepth 100000 in
theorem whorlref4_Ints.calls (k : Nat) (A0 : Option Addr) (c0 : Nat) (l0 : List Int) (A1 : Option Addr) (c1 : Nat) (l1 : List Int) (r : Bool) (w : World) (hr0 : Kd.C (Kd.int .i64) w A0 l0.length l0) (hc0 : l0.length ≤ c0) (hr1 : Kd.C (Kd.int .i64) w A1 l1.length l1) (hc1 : l1.length ≤ c1) (h : whorlref4_Ints.f k l0 l1 = some r) :
    Calls Tryz.prog 32 #[.slice A0 l0.length c0, .slice A1 l1.length c1] w fun e w' => e = .returned (.bool r) ∧ Drawn0 w w' := by
 have HR0 := Aside0.mk hr0
 have HC0 := Aside0.mk hc0
 clear hr0 hc0
 have HR1 := Aside0.mk hr1
 have HC1 := Aside0.mk hc1
 clear hr1 hc1
 have H := h
 clear h
 unfold whorlref4_Ints.f at H
 by_cases c3 : (l0.length : Int) = (l1.length : Int)
 ·rw [if_pos c3] at H
  have c3b0 : ((l0.length : Int) == (l1.length : Int)) = true := beq_iff_eq.mpr c3
  have c3b1 : ((l0.length : Int) != (l1.length : Int)) = false := bne_eq_false_iff_eq.mpr c3
  have c3b2 : (l0.length == l1.length) = true := by first | simpa using c3 | (simp at c3 ⊢; omega)
  clear c3
  have H' := Aside0.mk H
  clear H
  go_enter Tryz.func32, Tryz.ntmps32
  go_wp2
  repeat (go_quiet (fail); try go_wp2)
  go_loopg [5] k (fun kq v5 w' => ∃ (x5_1 : Int), v5 = .int .i64 x5_1 ∧ Aside0 (whorlref4_Ints.l0 kq l0 l1 x5_1 = some r) ∧ Aside0 (kq ≤ k) ∧ Drawn0 w w')
  case atStart => exact ⟨(0), sD, H', ⟨Nat.le_refl _⟩, dD⟩
  case round =>
   clear H'
   try clear c1
   try clear p2
   try clear c3
   try clear c3b0
   try clear c3b1
   try clear c3b2
   obtain ⟨x5_1, rfl, HA, HK1, ⟨m1, rfl⟩⟩ := hrel
   cases gk with
   | zero => exact absurd HA.out (by simp [whorlref4_Ints.l0])
   | succ k1 =>
    have H := HA.out
    clear HA
    simp only [whorlref4_Ints.l0] at H
    rcases ifC H with ⟨c4b0, H⟩ | ⟨c4b0, H⟩
    ·obtain ⟨c5b0, c6b0, H⟩ := ifD2 H
     by_cases c7 : (rd l0 x5_1) = (rd l1 x5_1)
     ·rw [if_pos c7] at H
      have c7b0 : ((rd l0 x5_1) == (rd l1 x5_1)) = true := beq_iff_eq.mpr c7
      have c7b1 : ((rd l0 x5_1) != (rd l1 x5_1)) = false := bne_eq_false_iff_eq.mpr c7
      clear c7
      have H' := Aside0.mk H
      clear H
      obtain ⟨ad639, e639, hx639_0, p639, q639⟩ := rI HR0.out x5_1
      cases e639
      obtain ⟨ad640, e640, hx640_0, p640, q640⟩ := rI HR1.out x5_1
      cases e640
      go_wp2
      repeat (go_quiet (fail); try go_wp2)
      go_roundg k1
      case measure => have := HK1.out; omega
      case rel => exact ⟨(wrap64 (x5_1 + 1)), sD, H', ⟨by have := HK1.out; omega⟩, dD⟩
     ·rw [if_neg c7] at H
      have c7b0 : ((rd l0 x5_1) == (rd l1 x5_1)) = false := beq_eq_false_iff_ne.mpr c7
      have c7b1 : ((rd l0 x5_1) != (rd l1 x5_1)) = true := bne_iff_ne.mpr c7
      obtain rfl := Option.some.inj H
      obtain ⟨ad639, e639, hx639_0, p639, q639⟩ := rI HR0.out x5_1
      cases e639
      obtain ⟨ad640, e640, hx640_0, p640, q640⟩ := rI HR1.out x5_1
      cases e640
      go_wp2
      repeat (go_quiet (fail); try go_wp2)
      go_ret
      exact ⟨sD, dD⟩
    ·obtain rfl := Option.some.inj H
     go_wp2
     repeat (go_quiet (fail); try go_wp2)
     go_ret
     exact ⟨sD, dD⟩
 ·rw [if_neg c3] at H
  have c3b0 : ((l0.length : Int) == (l1.length : Int)) = false := beq_eq_false_iff_ne.mpr c3
  have c3b1 : ((l0.length : Int) != (l1.length : Int)) = true := bne_iff_ne.mpr c3
  have c3b2 : (l0.length == l1.length) = false := by first | simpa using c3 | (simp at c3 ⊢; omega)
  obtain rfl := Option.some.inj H
  go_enter Tryz.func32, Tryz.ntmps32
  go_wp2
  repeat (go_quiet (fail); try go_wp2)
  go_ret
  exact ⟨sD, dD⟩
def whorltop_known.f (k : Nat)  : Option (Bool) := some true
theorem whorltop_known.mono : ∀ k, LeO (whorltop_known.f k ) (whorltop_known.f (k + 1) ) := fun k => LeO.refl _
theorem whorltop_known.A1 : sais_Bytes.f 600 [98, 97, 110, 97, 110, 97] = some ([5, 3, 1, 0, 4, 2], 0) := by decide +kernel
theorem whorltop_known.A2 : skew_Bytes.f 200 [98, 97, 110, 97, 110, 97] = some ([5, 3, 1, 0, 4, 2], 0) := by decide +kernel
theorem whorltop_known.A3 : double_Bytes.f 100 [98, 97, 110, 97, 110, 97] = some ([5, 3, 1, 0, 4, 2], 0) := by decide +kernel
theorem whorltop_known.A4 : kasai_LCP.f 100 [98, 97, 110, 97, 110, 97] [5, 3, 1, 0, 4, 2] = some ([0, 1, 3, 0, 0, 2], true) := by decide +kernel
theorem whorltop_known.A5 : phi_LCP.f 100 [98, 97, 110, 97, 110, 97] [5, 3, 1, 0, 4, 2] = some ([0, 1, 3, 0, 0, 2], true) := by decide +kernel
theorem whorltop_known.A6 : check_LCP.f 100 [98, 97, 110, 97, 110, 97] [5, 3, 1, 0, 4, 2] [0, 1, 3, 0, 0, 2] = some true := by decide +kernel
theorem whorltop_known.A7 : slices_Equal_int_int.f 100 [5, 3, 1, 0, 4, 2] [5, 3, 1, 0, 4, 2] = some true := by decide +kernel
theorem whorltop_known.A8 : slices_Equal_int_int.f 100 [0, 1, 3, 0, 0, 2] [0, 1, 3, 0, 0, 2] = some true := by decide +kernel
theorem whorltop_known.A9 : whorlref4_Ints.f 100 [5, 3, 1, 0, 4, 2] [5, 3, 1, 0, 4, 2] = some true := by decide +kernel
theorem whorltop_known.run (w : World) (g : Nat) (x0 x1 x2 : Int) (A : Option Addr) (c : Nat) (hg : w.heap[g]? = some (.cells #[.int .i64 x0, .int .i64 x1, .int .i64 x2] 107 (0, 0)))
    (hs : Kd.C (Kd.int .u8) w A 6 [98, 97, 110, 97, 110, 97]) (hsc : 6 ≤ c) (hAg : ∀ ad, A = some ad → ad.block ≠ g) :
    Calls Tryz.prog 31 #[.pointer (some ⟨g, 0, none⟩), .slice A 6 c] w fun e w' => ∃ v Au nu cu, e = .returned (.tuple #[.agg #[v, .slice Au nu cu, .bool true], .int .i64 0]) ∧ Kd.R (Kd.int .i64) 3 w' w.heap.size (fun _ => True) v [5, 3, 1, 0, 4, 2] ∧ w.grownBy w' (some g) :=
  Go.Proofs.YtbbpplnnegdenaaGreat.Rn.run_calls w g x0 x1 x2 A c [98, 97, 110, 97, 110, 97] [5, 3, 1, 0, 4, 2] [0, 1, 3, 0, 0, 2] hg hs hsc hAg
    (fun W A c hc hC => sais_Bytes.calls 600 A c [98, 97, 110, 97, 110, 97] _ _ W hC hc whorltop_known.A1) (fun W A c hc hC => skew_Bytes.calls 200 A c [98, 97, 110, 97, 110, 97] _ _ W hC hc whorltop_known.A2) (fun W A c hc hC => double_Bytes.calls 100 A c [98, 97, 110, 97, 110, 97] _ _ W hC hc whorltop_known.A3)
    (fun W A c B d hc hd hA hB => (kasai_LCP.calls 100 A c [98, 97, 110, 97, 110, 97] B d [5, 3, 1, 0, 4, 2] _ _ W hA hc hB hd whorltop_known.A4).mono (fun _ _ ⟨v, h1, h2, h3⟩ => ⟨v, _, h1, h2, h3⟩))
    (fun W A c B d hc hd hA hB => (phi_LCP.calls 100 A c [98, 97, 110, 97, 110, 97] B d [5, 3, 1, 0, 4, 2] _ _ W hA hc hB hd whorltop_known.A5).mono (fun _ _ ⟨v, h1, h2, h3⟩ => ⟨v, _, h1, h2, h3⟩))
    (fun W A c B d hc hd hA hB => slices_Equal_int_int.calls 100 A c [5, 3, 1, 0, 4, 2] B d [5, 3, 1, 0, 4, 2] _ W hA hc hB hd whorltop_known.A7)
    (fun W A c B d hc hd hA hB => slices_Equal_int_int.calls 100 A c [0, 1, 3, 0, 0, 2] B d [0, 1, 3, 0, 0, 2] _ W hA hc hB hd whorltop_known.A8)
    (fun W A c B d C e hc hd he hA hB hC => check_LCP.calls 100 A c [98, 97, 110, 97, 110, 97] B d [5, 3, 1, 0, 4, 2] C e [0, 1, 3, 0, 0, 2] _ W hA hc hB hd hC he whorltop_known.A6)
theorem whorltop_known.below {w w1 w' : World} {g : Nat} (b1 : Below w.heap.size w w1) (hg : w.heap.size ≤ g) (h : w1.grownBy w' (some g)) : Below w.heap.size w w' :=
  ⟨h.os.trans b1.os, h.tape.trans b1.tape, h.output.trans b1.output, Nat.le_trans b1.size h.size, fun k hk => (h.block k (Nat.lt_of_lt_of_le hk b1.size) (fun e => by cases e; omega)).trans (b1.block k hk)⟩
set_option maxHeartbeats 4000000 in
theorem whorltop_known.calls (k : Nat)  (r : Bool) (w : World) (h : whorltop_known.f k  = some r) :
    Calls Tryz.prog 8 #[] w fun e w' => e = .returned (.bool r) ∧ Below w.heap.size w w' := by
 obtain rfl : true = r := Option.some.inj h
 clear h
 have kc := fun (w : World) (C : Array Value) (n c : Nat) => Lib.run_convert_bytes_const (P := Tryz.prog) w 22 5 C n c Tryz.underlying22 Tryz.underlying5
 have cN := Go.Proofs.YtbbpplnnegdenaaGreat.Cr.new_calls w
 go_enter Tryz.func8, Tryz.ntmps8
 go_wp2_with (fail)
 (with_reducible refine cN.mono ?_)
 clear cN
 rintro e w1 ⟨g, rfl, hg0, hg, hb1⟩
 have B1 := Aside0.mk hb1
 have HG := Go.Lib.hid hg
 have HG0 := Aside0.mk hg0
 clear hb1 hg hg0
 go_wp2_with (fail)
 refine (whorltop_known.run _ g 0 0 0 (some ⟨w1.heap.size, 0, none⟩) 6 ?hg (lit_reads .u8 w1 5 [98, 97, 110, 97, 110, 97] (6, 7) (by decide) rfl) (by decide) ?hne).mono ?_
 case hg => exact (Below.heap_alloc _ _ _ (Array.getElem?_eq_some_iff.1 HG.out).1).trans HG.out
 case hne => intro ad e; cases e; have := (Array.getElem?_eq_some_iff.1 HG.out).1; show w1.heap.size ≠ g; omega
 rintro e w2 ⟨v, Au, nu, cu, rfl, hR, hgr⟩
 obtain ⟨p1, q1, rfl⟩ := Kd.R_slice hR
 have B2 := Aside0.mk (whorltop_known.below (below_alloc B1.out _) HG0.out hgr)
 have R2 := Aside0.mk hR
 clear hR hgr
 go_wp2_with (fail)
 refine Calls.mono (show Calls Tryz.prog 32 #[.slice p1 6 q1, .slice (some ⟨w2.heap.size + 1, 0, none⟩) 6 6] _ _ from whorlref4_Ints.calls 100 p1 q1 [5, 3, 1, 0, 4, 2] _ 6 [5, 3, 1, 0, 4, 2] true _ (Kd.C_alloc (Kd.C_alloc (Kd.R_reads' R2.out).2.2 _) _) (Kd.R_reads' R2.out).2.1
  (by have := lit_reads .i64 (w2.alloc (.cells #[.slice p1 6 q1, .slice Au nu cu, .bool true] 62)) 3 [5, 3, 1, 0, 4, 2] (0, 0) (by decide) rfl; simpa using this) (by decide) whorltop_known.A9) ?_
 rintro e w3 ⟨rfl, hd⟩
 have B3 := Aside0.mk (below_step (below_alloc (below_alloc B2.out _) _) hd.below)
 clear hd R2 B2
 go_wp2_with (fail)
 go_ret
 exact ⟨rfl, B3.out⟩
end Go.Proofs.YtbbpplnnegdenaaGreat.PTopPipe
end
section
namespace Go.Proofs.YtbbpplnnegdenaaGreat.PTopPipe
open Go.RowKit Go.Proofs.YtbbpplnnegdenaaGreatW.PrintWords Go.Proofs.YtbbpplnnegdenaaGreatW.PrintLast Go.Proofs.YtbbpplnnegdenaaGreatW.PrintMore
attribute [local go_sem] max2_int min2_int max_two min_two max_three min_three max_four min_four
set_option linter.unusedVariables false
set_option linter.unusedSimpArgs false
mutual
def whorltop_TopPipe.j0 : Nat → List Int → Int → List Int → Bool → Option (Bool)
  | 0, _, _, _, _ => none
  | k + 1, x0, x1, x2, x30 => if x30 = true then (some true) else ((pipe_Pack.f k x0 x1).bind fun bt641 => ((pipe_Unpack.f k bt641.1 x1 (x0.length : Int)).bind fun bt645 => ((pipe_Unpack.f k x2 x1 1000).bind fun bt649 => (if bt641.2 = true then (if bt645.2 = true then (whorltop_TopPipe.j1 k x1 x2 bt649.1 bt649.2 ((strOfNums bt645.1).toList != (strOfNums x0).toList)) else (whorltop_TopPipe.j1 k x1 x2 bt649.1 bt649.2 true)) else (whorltop_TopPipe.j1 k x1 x2 bt649.1 bt649.2 true)))))
def whorltop_TopPipe.j1 : Nat → Int → List Int → List Int → Bool → Bool → Option (Bool)
  | 0, _, _, _, _, _ => none
  | k + 1, x1, x2, x11, x12, x63 => if x63 = true then (some false) else (if x12 = true then ((pipe_Pack.f k x11 x1).bind fun bt653 => (if bt653.2 = true then (if (strOfNums bt653.1).toList = (strOfNums x2).toList then ((whorltop_known.f k).bind fun t657 => (some t657)) else (some false)) else (some false))) else ((whorltop_known.f k).bind fun t658 => (some t658)))
end
def whorltop_TopPipe.f (k : Nat) (l0 : List Int) (a1 : Int) (l2 : List Int) : Option (Bool) := if (l0.length : Int) > 200 then (whorltop_TopPipe.j0 k l0 a1 l2 true) else (if (l2.length : Int) > 200 then (whorltop_TopPipe.j0 k l0 a1 l2 true) else (if a1 < 0 then (whorltop_TopPipe.j0 k l0 a1 l2 true) else (whorltop_TopPipe.j0 k l0 a1 l2 (decide (a1 > 1)))))
theorem whorltop_TopPipe.mono_l : ∀ k, (∀ y0 y1 y2 y3, LeO (whorltop_TopPipe.j0 k y0 y1 y2 y3) (whorltop_TopPipe.j0 (k + 1) y0 y1 y2 y3)) ∧ (∀ y0 y1 y2 y3 y4, LeO (whorltop_TopPipe.j1 k y0 y1 y2 y3 y4) (whorltop_TopPipe.j1 (k + 1) y0 y1 y2 y3 y4))
  | 0 => ⟨fun _ _ _ _ r h => by simp [whorltop_TopPipe.j0] at h, fun _ _ _ _ _ r h => by simp [whorltop_TopPipe.j1] at h⟩
  | k + 1 => by
    obtain ⟨ih0, ih1⟩ := whorltop_TopPipe.mono_l k
    refine ⟨?_, ?_⟩
    · intro y0 y1 y2 y3
      unfold whorltop_TopPipe.j0
      have m0 := @pipe_Pack.mono
      have m1 := @pipe_Unpack.mono
      have m2 := @whorltop_known.mono
      exact mB
    · intro y0 y1 y2 y3 y4
      unfold whorltop_TopPipe.j1
      have m0 := @pipe_Pack.mono
      have m1 := @pipe_Unpack.mono
      have m2 := @whorltop_known.mono
      exact mB
theorem whorltop_TopPipe.mono : ∀ a0 a1 a2 k, LeO (whorltop_TopPipe.f k a0 a1 a2) (whorltop_TopPipe.f (k + 1) a0 a1 a2) := by
  intro a0 a1 a2 k
  obtain ⟨ih0, ih1⟩ := whorltop_TopPipe.mono_l k
  unfold whorltop_TopPipe.f
  have m0 := @pipe_Pack.mono
  have m1 := @pipe_Unpack.mono
  have m2 := @whorltop_known.mono
  exact mB
set_option maxHeartbeats 8000000 in
set_option maxRecDepth 100000 in
theorem whorltop_TopPipe.calls (k : Nat) (A0 : Option Addr) (c0 : Nat) (l0 : List Int) (a1 : Int) (A2 : Option Addr) (c2 : Nat) (l2 : List Int) (r : Bool) (w : World) (hr0 : Kd.C (Kd.int .u8) w A0 l0.length l0) (hc0 : l0.length ≤ c0) (hr2 : Kd.C (Kd.int .u8) w A2 l2.length l2) (hc2 : l2.length ≤ c2) (h : whorltop_TopPipe.f k l0 a1 l2 = some r) :
    Calls Tryz.prog 3 #[.slice A0 l0.length c0, .int .i64 a1, .slice A2 l2.length c2] w fun e w' => e = .returned (.bool r) ∧ Below w.heap.size w w' := by
 have HR0 := Aside0.mk hr0
 have HC0 := Aside0.mk hc0
 clear hr0 hc0
 have HR2 := Aside0.mk hr2
 have HC2 := Aside0.mk hc2
 clear hr2 hc2
 have HB := Aside0.mk (Below.refl w.heap.size w)
 have H := h
 clear h
 unfold whorltop_TopPipe.f at H
 have HC4 := Aside0.mk H
 clear H
 go_enter Tryz.func3, Tryz.ntmps3
 go_upto_region 1 with (fail)
 go_cut [30] (fun v30 wc => ∃ (kq : Nat) (x30_3 : Bool), v30 = .bool x30_3 ∧ Aside0 (whorltop_TopPipe.j0 kq l0 a1 l2 x30_3 = some r) ∧ Aside0 (kq ≤ k) ∧ Aside0 (Below w.heap.size w wc))
 case first =>
  have H := HC4.out
  clear HC4
  by_cases c5 : (l0.length : Int) > 200
  ·rw [if_pos c5] at H
   have c5b0 : decide (200 < (l0.length : Int)) = true := decide_eq_true c5
   have c5b1 : decide (200 < l0.length) = true := decide_eq_true (by omega)
   clear c5
   (first | rw [c5b0] | (simp only [i64_w, i32_w]; rw [c5b0]) | skip)
   have H' := Aside0.mk H
   clear H
   go_wp2
   go_meet
   case rel => exact ⟨_, (true), sD, H', ⟨by first | omega | exact Nat.le_refl _⟩, ⟨uB⟩⟩
  ·rw [if_neg c5] at H
   have c5b0 : decide (200 < (l0.length : Int)) = false := decide_eq_false c5
   have c5b1 : decide (200 < l0.length) = false := decide_eq_false (by omega)
   clear c5
   (first | rw [c5b0] | (simp only [i64_w, i32_w]; rw [c5b0]) | skip)
   by_cases c6 : (l2.length : Int) > 200
   ·rw [if_pos c6] at H
    have c6b0 : decide (200 < (l2.length : Int)) = true := decide_eq_true c6
    have c6b1 : decide (200 < l2.length) = true := decide_eq_true (by omega)
    clear c6
    have H' := Aside0.mk H
    clear H
    go_wp2
    go_meet
    case rel => exact ⟨_, (true), sD, H', ⟨by first | omega | exact Nat.le_refl _⟩, ⟨uB⟩⟩
   ·rw [if_neg c6] at H
    have c6b0 : decide (200 < (l2.length : Int)) = false := decide_eq_false c6
    have c6b1 : decide (200 < l2.length) = false := decide_eq_false (by omega)
    clear c6
    rcases ifC H with ⟨c7b0, H⟩ | ⟨c7b0, H⟩
    ·have H' := Aside0.mk H
     clear H
     go_wp2
     go_meet
     case rel => exact ⟨_, (true), sD, H', ⟨by first | omega | exact Nat.le_refl _⟩, ⟨uB⟩⟩
    ·have H' := Aside0.mk H
     clear H
     go_wp2
     go_meet
     case rel => exact ⟨_, (decide (a1 > 1)), sD, H', ⟨by first | omega | exact Nat.le_refl _⟩, ⟨uB⟩⟩
 case rest =>
  clear HC4
  try clear c2
  try clear p2
  try clear c3
  try clear c5
  try clear c5b0
  try clear c5b1
  try clear c6
  try clear c6b0
  try clear c6b1
  try clear c7
  try clear c7b0
  obtain ⟨kq, x30_3, rfl, HA, HJ3, HB⟩ := hcut
  cases kq with
  | zero => exact absurd HA.out (by simp [whorltop_TopPipe.j0])
  | succ kj3 =>
   have H := HA.out
   clear HA
   simp only [whorltop_TopPipe.j0] at H
   by_cases c8 : x30_3 = true
   ·subst c8
    rw [if_pos rfl] at H
    obtain rfl := Option.some.inj H
    go_wp2
    go_ret
    exact ⟨eR, uB⟩
   ·replace c8 := Bool.eq_false_iff.mpr c8
    subst c8
    rw [if_neg (by decide)] at H
    obtain ⟨⟨t641, t642⟩, A9, H⟩ := bdS H
    try dsimp only at H
    obtain ⟨⟨t645, t646⟩, A10, H⟩ := bdS H
    try dsimp only at H
    obtain ⟨⟨t649, t650⟩, A11, H⟩ := bdS H
    try dsimp only at H
    have HC12 := Aside0.mk H
    clear H
    go_upto_region 6 with (first | ((with_reducible refine gate_callee (f := 6) rfl ?_); refine goesL_ (some 34) rfl rfl Tryz.func6 (by kernel_rfl) rfl #[.slice A0 l0.length c0, .int .i64 a1] rfl aE ?_; (with_reducible refine (pipe_Pack.calls kj3 _ _ l0 a1 t641 t642 _ ?side1 ?side2 A9.out).mono ?_); (case side1 => exact uC (Kd.C_below HR0.out HB.out)); (case side2 => exact HC0.out); rintro e w13 ⟨v643, rfl, ho0, hb⟩; refine ⟨_, rfl, ?_⟩; have n0_ := Aside0.mk (Kd.R_lower ho0 (below_size uB)); have n1_ := Aside0.mk (below_step uB hb); clear HB; have HO644 := n0_; have HB := n1_; clear n0_ n1_; (try clear hb); (try clear hb2); (try clear hk); (try clear hi); (try clear ho0); obtain ⟨Ao14, co14, eo14⟩ := Kd.R_slice HO644.out; subst eo14) | ((with_reducible refine gate_callee (f := 7) rfl ?_); refine goesL_ (some 42) rfl rfl Tryz.func7 (by kernel_rfl) rfl #[.slice Ao14 t641.length co14, .int .i64 a1, .int .i64 (l0.length : Int)] rfl aE ?_; (with_reducible refine (pipe_Unpack.calls kj3 _ _ t641 a1 (l0.length : Int) t645 t646 _ ?side1 ?side2 A10.out).mono ?_); (case side1 => exact uC (Kd.R_reads' HO644.out).2.2); (case side2 => exact (Kd.R_reads' HO644.out).2.1); rintro e w15 ⟨v647, rfl, ho0, hb⟩; refine ⟨_, rfl, ?_⟩; have n0_ := Aside0.mk (Kd.R_elder' (uR HO644.out) (Kd.R_base ho0) hb); have n1_ := Aside0.mk (Kd.R_lower (Kd.R_new' ho0 (Kd.R_lt (uR HO644.out))) (below_size uB)); have n2_ := Aside0.mk (below_step uB hb); clear HO644; clear HB; have HO644 := n0_; have HO648 := n1_; have HB := n2_; clear n0_ n1_ n2_; (try clear hb); (try clear hb2); (try clear hk); (try clear hi); (try clear ho0)) | ((with_reducible refine gate_callee (f := 7) rfl ?_); refine goesL_ (some 48) rfl rfl Tryz.func7 (by kernel_rfl) rfl #[.slice A2 l2.length c2, .int .i64 a1, .int .i64 1000] rfl aE ?_; (with_reducible refine (pipe_Unpack.calls kj3 _ _ l2 a1 1000 t649 t650 _ ?side1 ?side2 A11.out).mono ?_); (case side1 => exact uC (Kd.C_below HR2.out HB.out)); (case side2 => exact HC2.out); rintro e w16 ⟨v651, rfl, ho0, hb⟩; refine ⟨_, rfl, ?_⟩; have n0_ := Aside0.mk (Kd.R_elder' (uR HO644.out) (Kd.R_base ho0) hb); have n1_ := Aside0.mk (Kd.R_elder' (uR HO648.out) (Kd.R_base ho0) hb); have n2_ := Aside0.mk (Kd.R_lower (Kd.R_new' (Kd.R_new' ho0 (Kd.R_lt (uR HO644.out))) (Kd.R_lt (uR HO648.out))) (below_size uB)); have n3_ := Aside0.mk (below_step uB hb); clear HO644; clear HO648; clear HB; have HO644 := n0_; have HO648 := n1_; have HO652 := n2_; have HB := n3_; clear n0_ n1_ n2_ n3_; (try clear hb); (try clear hb2); (try clear hk); (try clear hi); (try clear ho0)))
    (try simp only [Act.put, List.setIfInBounds_toArray, List.set_cons_zero, List.set_cons_succ])
    go_cut [63] (fun v63 wc => ∃ (kq : Nat) (x63_11 : Bool), v63 = .bool x63_11 ∧ Aside0 (whorltop_TopPipe.j1 kq a1 l2 t649 t650 x63_11 = some r) ∧ Aside0 (kq ≤ kj3) ∧ Aside0 (Kd.R (Kd.int .u8) 5 wc w.heap.size (fun _ => True) v651 t649) ∧ Aside0 (Below w.heap.size w wc))
    case first =>
     have H := HC12.out
     clear HC12
     by_cases c17 : t642 = true
     ·subst c17
      rw [if_pos rfl] at H
      by_cases c18 : t646 = true
      ·subst c18
       rw [if_pos rfl] at H
       have H' := Aside0.mk H
       clear H
       have hcv19 := own_string (P := Tryz.prog) Tryz.underlying22 Tryz.underlying5 Tryz.underlying9 (Kd.own_of_R HO648.out)
       have hcv20 := Kd.C_string (P := Tryz.prog) (A := A0) (c := c0) Tryz.underlying22 Tryz.underlying5 Tryz.underlying9 (Kd.C_below HR0.out HB.out)
       go_wp2
       go_meet
       case rel => exact ⟨_, (((strOfNums t645).toList != (strOfNums l0).toList)), sD, H', ⟨by have := HJ3.out; first | omega | exact Nat.le_refl _⟩, ⟨by (with_reducible repeat (first | apply Kd.R_alloc | apply Kd.R_drewN | apply Kd.R_drew)); exact Kd.R_mono HO652.out (fun _ hk => trivial)⟩, ⟨uB⟩⟩
      ·replace c18 := Bool.eq_false_iff.mpr c18
       subst c18
       rw [if_neg (by decide)] at H
       have H' := Aside0.mk H
       clear H
       go_wp2
       go_meet
       case rel => exact ⟨_, (true), sD, H', ⟨by have := HJ3.out; first | omega | exact Nat.le_refl _⟩, ⟨by (with_reducible repeat (first | apply Kd.R_alloc | apply Kd.R_drewN | apply Kd.R_drew)); exact Kd.R_mono HO652.out (fun _ hk => trivial)⟩, ⟨uB⟩⟩
     ·replace c17 := Bool.eq_false_iff.mpr c17
      subst c17
      rw [if_neg (by decide)] at H
      have H' := Aside0.mk H
      clear H
      go_wp2
      go_meet
      case rel => exact ⟨_, (true), sD, H', ⟨by have := HJ3.out; first | omega | exact Nat.le_refl _⟩, ⟨by (with_reducible repeat (first | apply Kd.R_alloc | apply Kd.R_drewN | apply Kd.R_drew)); exact Kd.R_mono HO652.out (fun _ hk => trivial)⟩, ⟨uB⟩⟩
    case rest =>
     clear HC12
     try clear c1
     try clear hcv1
     try clear c2
     try clear p2
     try clear hcv2
     try clear c3
     try clear c5
     try clear c5b0
     try clear c5b1
     try clear c6
     try clear c6b0
     try clear c6b1
     try clear c7
     try clear c7b0
     try clear c8
     try clear c17
     try clear c18
     try clear hcv19
     try clear hcv20
     try clear p2
     obtain ⟨kq, x63_11, rfl, HA, HJ11, HO_11, HB⟩ := hcut
     cases kq with
     | zero => exact absurd HA.out (by simp [whorltop_TopPipe.j1])
     | succ kj11 =>
      have H := HA.out
      clear HA
      simp only [whorltop_TopPipe.j1] at H
      by_cases c21 : x63_11 = true
      ·subst c21
       rw [if_pos rfl] at H
       obtain rfl := Option.some.inj H
       go_wp2
       go_ret
       exact ⟨eR, uB⟩
      ·replace c21 := Bool.eq_false_iff.mpr c21
       subst c21
       rw [if_neg (by decide)] at H
       by_cases c22 : t650 = true
       ·subst c22
        rw [if_pos rfl] at H
        obtain ⟨⟨t653, t654⟩, A23, H⟩ := bdS H
        try dsimp only at H
        by_cases c24 : t654 = true
        ·subst c24
         rw [if_pos rfl] at H
         by_cases c25 : (strOfNums t653).toList = (strOfNums l2).toList
         ·rw [if_pos c25] at H
          have c25b0 : ((strOfNums t653).toList == (strOfNums l2).toList) = true := beq_iff_eq.mpr c25
          have c25b1 : ((strOfNums t653).toList != (strOfNums l2).toList) = false := bne_eq_false_iff_eq.mpr c25
          clear c25
          obtain ⟨t657, A26, H⟩ := bdS H
          try dsimp only at H
          obtain rfl := Option.some.inj H
          obtain ⟨Ao27, co27, eo27⟩ := Kd.R_slice HO_11.out
          subst eo27
          go_wp2_with (first | ((with_reducible refine gate_callee (f := 6) rfl ?_); refine goesL_ (some 70) rfl rfl Tryz.func6 (by kernel_rfl) rfl #[.slice Ao27 t649.length co27, .int .i64 a1] rfl aE ?_; (with_reducible refine (pipe_Pack.calls kj11 _ _ t649 a1 t653 true _ ?side1 ?side2 A23.out).mono ?_); (case side1 => exact uC (Kd.R_reads' HO_11.out).2.2); (case side2 => exact (Kd.R_reads' HO_11.out).2.1); rintro e w28 ⟨v655, rfl, ho0, hb⟩; refine ⟨_, rfl, ?_⟩; have n0_ := Aside0.mk (Kd.R_elder' (uR HO_11.out) (Kd.R_base ho0) hb); have n1_ := Aside0.mk (Kd.R_lower (Kd.R_new' ho0 (Kd.R_lt (uR HO_11.out))) (below_size uB)); have n2_ := Aside0.mk (below_step uB hb); clear HO_11; clear HB; have HO_11 := n0_; have HO656 := n1_; have HB := n2_; clear n0_ n1_ n2_; (try clear hb); (try clear hb2); (try clear hk); (try clear hi); (try clear ho0); have hcv29 := own_string (P := Tryz.prog) Tryz.underlying22 Tryz.underlying5 Tryz.underlying9 (Kd.own_of_R HO656.out); have hcv30 := Kd.C_string (P := Tryz.prog) (A := A2) (c := c2) Tryz.underlying22 Tryz.underlying5 Tryz.underlying9 (Kd.C_below HR2.out HB.out)) | (go_at_call 8; (with_reducible refine (whorltop_known.calls kj11  t657 _ A26.out).mono ?_); rintro e w31 ⟨rfl, hb⟩; have n0_ := Aside0.mk (Kd.R_below (uR HO_11.out) hb); have n1_ := Aside0.mk (Kd.R_below (uR HO656.out) hb); have n2_ := Aside0.mk (below_step uB hb); clear HO_11; clear HO656; clear HB; have HO_11 := n0_; have HO656 := n1_; have HB := n2_; clear n0_ n1_ n2_; (try clear hb); (try clear hb2); (try clear hk); (try clear hi)))
          go_ret
          exact ⟨eR, uB⟩
         ·rw [if_neg c25] at H
          have c25b0 : ((strOfNums t653).toList == (strOfNums l2).toList) = false := beq_eq_false_iff_ne.mpr c25
          have c25b1 : ((strOfNums t653).toList != (strOfNums l2).toList) = true := bne_iff_ne.mpr c25
          obtain rfl := Option.some.inj H
          obtain ⟨Ao32, co32, eo32⟩ := Kd.R_slice HO_11.out
          subst eo32
          go_wp2_with (first | ((with_reducible refine gate_callee (f := 6) rfl ?_); refine goesL_ (some 70) rfl rfl Tryz.func6 (by kernel_rfl) rfl #[.slice Ao32 t649.length co32, .int .i64 a1] rfl aE ?_; (with_reducible refine (pipe_Pack.calls kj11 _ _ t649 a1 t653 true _ ?side1 ?side2 A23.out).mono ?_); (case side1 => exact uC (Kd.R_reads' HO_11.out).2.2); (case side2 => exact (Kd.R_reads' HO_11.out).2.1); rintro e w33 ⟨v655, rfl, ho0, hb⟩; refine ⟨_, rfl, ?_⟩; have n0_ := Aside0.mk (Kd.R_elder' (uR HO_11.out) (Kd.R_base ho0) hb); have n1_ := Aside0.mk (Kd.R_lower (Kd.R_new' ho0 (Kd.R_lt (uR HO_11.out))) (below_size uB)); have n2_ := Aside0.mk (below_step uB hb); clear HO_11; clear HB; have HO_11 := n0_; have HO656 := n1_; have HB := n2_; clear n0_ n1_ n2_; (try clear hb); (try clear hb2); (try clear hk); (try clear hi); (try clear ho0); have hcv34 := own_string (P := Tryz.prog) Tryz.underlying22 Tryz.underlying5 Tryz.underlying9 (Kd.own_of_R HO656.out); have hcv35 := Kd.C_string (P := Tryz.prog) (A := A2) (c := c2) Tryz.underlying22 Tryz.underlying5 Tryz.underlying9 (Kd.C_below HR2.out HB.out)))
          go_ret
          exact ⟨eR, uB⟩
        ·replace c24 := Bool.eq_false_iff.mpr c24
         subst c24
         rw [if_neg (by decide)] at H
         obtain rfl := Option.some.inj H
         obtain ⟨Ao36, co36, eo36⟩ := Kd.R_slice HO_11.out
         subst eo36
         go_wp2_with (first | ((with_reducible refine gate_callee (f := 6) rfl ?_); refine goesL_ (some 70) rfl rfl Tryz.func6 (by kernel_rfl) rfl #[.slice Ao36 t649.length co36, .int .i64 a1] rfl aE ?_; (with_reducible refine (pipe_Pack.calls kj11 _ _ t649 a1 t653 false _ ?side1 ?side2 A23.out).mono ?_); (case side1 => exact uC (Kd.R_reads' HO_11.out).2.2); (case side2 => exact (Kd.R_reads' HO_11.out).2.1); rintro e w37 ⟨v655, rfl, ho0, hb⟩; refine ⟨_, rfl, ?_⟩; have n0_ := Aside0.mk (Kd.R_elder' (uR HO_11.out) (Kd.R_base ho0) hb); have n1_ := Aside0.mk (Kd.R_lower (Kd.R_new' ho0 (Kd.R_lt (uR HO_11.out))) (below_size uB)); have n2_ := Aside0.mk (below_step uB hb); clear HO_11; clear HB; have HO_11 := n0_; have HO656 := n1_; have HB := n2_; clear n0_ n1_ n2_; (try clear hb); (try clear hb2); (try clear hk); (try clear hi); (try clear ho0)))
         go_ret
         exact ⟨eR, uB⟩
       ·replace c22 := Bool.eq_false_iff.mpr c22
        subst c22
        rw [if_neg (by decide)] at H
        obtain ⟨t658, A38, H⟩ := bdS H
        try dsimp only at H
        obtain rfl := Option.some.inj H
        go_wp2_with (first | ((with_reducible refine gate_callee (f := 8) rfl ?_); refine goesL_ (some 66) rfl rfl Tryz.func8 (by kernel_rfl) rfl #[] rfl aE ?_; (with_reducible refine (whorltop_known.calls kj11  t658 _ A38.out).mono ?_); rintro e w39 ⟨rfl, hb⟩; refine ⟨_, rfl, ?_⟩; have n0_ := Aside0.mk (Kd.R_below (uR HO_11.out) hb); have n1_ := Aside0.mk (below_step uB hb); clear HO_11; clear HB; have HO_11 := n0_; have HB := n1_; clear n0_ n1_; (try clear hb); (try clear hb2); (try clear hk); (try clear hi)))
        go_ret
        exact ⟨eR, uB⟩
def whorltop_TopPipe.Pure : Prop := ∀ (l0 : List Int) (a1 : Int) (l2 : List Int), l0.length ≤ maxLen → l0.length * 1 ≤ 140737488351232 → (∀ x ∈ l0, (Lit.int .u8 x).wf = true) → (Lit.int .i64 a1).wf = true → l2.length ≤ maxLen → l2.length * 1 ≤ 140737488351232 → (∀ x ∈ l2, (Lit.int .u8 x).wf = true) → ∃ k, whorltop_TopPipe.f k l0 a1 l2 = some true
theorem whorltop_TopPipe.walk (P : whorltop_TopPipe.Pure) (a0 : Option Addr) (len0 cap0 : Nat) (z0 : List Int) (a1 : Int) (a2 : Option Addr) (len2 cap2 : Nat) (z2 : List Int) (w : World) (w0 : (a0 = none ∧ len0 = 0 ∧ cap0 = 0 ∧ z0 = []) ∨ ∃ x, a0 = some x ∧ len0 ≤ cap0 ∧ cap0 ≤ maxLen ∧ z0.length = cap0 ∧ (∀ i, i < z0.length → w.cell? (x.add i) = some (.int .u8 (z0.getD i 0))) ∧ ∀ n ∈ z0, (Lit.int .u8 n).wf = true) (y0 : len0 * 1 ≤ 140737488351232) (w1 : (Lit.int .i64 a1).wf = true) (w2 : (a2 = none ∧ len2 = 0 ∧ cap2 = 0 ∧ z2 = []) ∨ ∃ x, a2 = some x ∧ len2 ≤ cap2 ∧ cap2 ≤ maxLen ∧ z2.length = cap2 ∧ (∀ i, i < z2.length → w.cell? (x.add i) = some (.int .u8 (z2.getD i 0))) ∧ ∀ n ∈ z2, (Lit.int .u8 n).wf = true) (y2 : len2 * 1 ≤ 140737488351232) :
    Calls Tryz.prog 3 #[.slice a0 len0 cap0, .int .i64 a1, .slice a2 len2 cap2] w fun e w' => e = .returned (.bool true) ∧ Below w.heap.size w w' := by
  obtain ⟨l0, rfl, hr0, hm0, hw0, hc0⟩ := ReadsInt.ofRowC w0
  obtain ⟨l2, rfl, hr2, hm2, hw2, hc2⟩ := ReadsInt.ofRowC w2
  obtain ⟨k, h⟩ := P l0 a1 l2 hm0 y0 hw0 w1 hm2 y2 hw2
  refine (whorltop_TopPipe.calls k _ _ l0 a1 _ _ l2 true w (Kd.C_of_reads (d := (0 : Int)) (h1 := fun _ => rfl) hr0) hc0 (Kd.C_of_reads (d := (0 : Int)) (h1 := fun _ => rfl) hr2) hc2 h).mono ?_
  rintro e w' ⟨rfl, hd⟩
  exact ⟨rfl, hd⟩
end Go.Proofs.YtbbpplnnegdenaaGreat.PTopPipe
end
section
set_option linter.unusedVariables false
set_option linter.unusedSimpArgs false
namespace Go.Proofs.YtbbpplnnegdenaaGreat.Pure
open Go Go.RowKit Go.Proofs.YtbbpplnnegdenaaGreat.PTopPipe Go.Proofs.YtbbpplnnegdenaaGreatW.PrintWords Go.Proofs.YtbbpplnnegdenaaGreatW.PrintLast Go.Proofs.YtbbpplnnegdenaaGreat.MM
open Go.Proofs.YtbbpplnnegdenaaGreat.Mp Go.Proofs.YtbbpplnnegdenaaGreat.Wr Go.Proofs.YtbbpplnnegdenaaGreat.We Go.Proofs.YtbbpplnnegdenaaGreat.Mk Go.Proofs.YtbbpplnnegdenaaGreat.Pk Go.Proofs.YtbbpplnnegdenaaGreat.Sy Go.Proofs.YtbbpplnnegdenaaGreat.Pm
open Go.Proofs.YtbbpplnnegdenaaGreat.Fr (moveF backF rowL moveF_length backF_length)
theorem strOf_eq {a b : List Int} (ha : ∀ x ∈ a, 0 ≤ x ∧ x < 256) (hb : ∀ x ∈ b, 0 ≤ x ∧ x < 256) : (strOfNums a).toList = (strOfNums b).toList ↔ a = b := by
  constructor
  · intro h
    rw [Go.Lib.strOfNums_toList, Go.Lib.strOfNums_toList] at h
    have hl : a.length = b.length := by
      have := congrArg List.length h
      simpa [Go.Lib.bytesOf] using this
    refine ext_getD hl (fun i hi => ?_)
    have h1 := congrArg (fun z => z[i]?) h
    simp only [Go.Lib.bytesOf, List.getElem?_map, List.getElem?_eq_getElem hi, List.getElem?_eq_getElem (show i < b.length by omega), Option.map_some, Option.some.injEq] at h1
    have h2 := congrArg UInt8.toNat h1
    rw [UInt8.toNat_ofNat', UInt8.toNat_ofNat'] at h2
    have h3 := ha _ (List.getElem_mem hi)
    have h4 := hb _ (List.getElem_mem (show i < b.length by omega))
    rw [List.getD_eq_getElem?_getD, List.getD_eq_getElem?_getD, List.getElem?_eq_getElem hi, List.getElem?_eq_getElem (show i < b.length by omega)]
    show a[i] = b[i]
    omega
  · rintro rfl; rfl
theorem strOf_beq {a b : List Int} (ha : ∀ x ∈ a, 0 ≤ x ∧ x < 256) (hb : ∀ x ∈ b, 0 ≤ x ∧ x < 256) : ((strOfNums a).toList == (strOfNums b).toList) = decide (a = b) := by
  rw [Bool.eq_iff_iff, beq_iff_eq, decide_eq_true_eq]; exact strOf_eq ha hb
theorem drop_get {l : List Int} {i : Nat} (h : i < l.length) : l.drop i = l.getD i 0 :: l.drop (i + 1) := by
  rw [List.getD_eq_getElem?_getD, List.getElem?_eq_getElem h]
  exact List.drop_eq_getElem_cons h
theorem runs_told_l0 (n : Nat) : ∀ acc : List Int, acc.length + n ≤ 1000000000 → Ev (fun k => runs_told.l0 k (n : Int) acc) (acc ++ toldN n) := by
  induction n using Nat.strongRecOn with
  | _ n ih =>
    intro acc h
    refine Ev.step (fun k => by rw [runs_told.l0]) ?_
    rcases Nat.eq_zero_or_pos n with rfl | hp
    · simp only [if_neg (show ¬ ((0 : Nat) : Int) > 0 by omega), toldN_zero, List.append_nil]
      exact Ev.now _
    · have e1 : wrap64 ((n : Int) - 1) = ((n - 1 : Nat) : Int) := by rw [wrap64_id (by omega) (by omega)]; omega
      have e2 : Int.tdiv ((n - 1 : Nat) : Int) 2 = (((n - 1) / 2 : Nat) : Int) := by rw [Int.tdiv_eq_ediv_of_nonneg (by omega)]; omega
      have e3 : Int.tmod ((n - 1 : Nat) : Int) 2 = (((n - 1) % 2 : Nat) : Int) := by rw [Int.tmod_eq_emod_of_nonneg (by omega)]; omega
      have e4 : wrap64 (((n - 1) / 2 : Nat) : Int) = (((n - 1) / 2 : Nat) : Int) := wrap64_id (by omega) (by omega)
      simp only [if_pos (show (n : Int) > 0 by omega), if_pos (show acc.length < 17592186044416 by omega), e1, e2, e3, e4]
      have := ih ((n - 1) / 2) (by omega) (acc ++ [(((n - 1) % 2 : Nat) : Int)]) (by rw [List.length_append, List.length_singleton]; omega)
      rw [List.append_assoc, List.singleton_append, ← toldN_pos hp] at this
      exact this
theorem runs_told_ev (n : Nat) (h : n ≤ 1000000000) : Ev (fun k => runs_told.f k (n : Int)) (toldN n) := by
  refine Ev.congr (fun k => by rw [runs_told.f]) ?_
  have := runs_told_l0 n [] (by simpa using h)
  rwa [List.nil_append] at this
theorem runs_Tell_l0 (bs : List Int) (hb : ∀ x ∈ bs, 0 ≤ x ∧ x < 256) (hn : bs.length ≤ 1000000) : ∀ (d i n : Nat) (acc : List Int), i + d = bs.length → acc.length + n ≤ i → Ev (fun k => runs_Tell.l0 k acc (n : Int) bs (bs.length : Int) (i : Int)) (acc ++ tellF n (bs.drop i)) := by
  intro d
  induction d with
  | zero =>
    intro i n acc hd h1
    have ht := (toldN_ok n).1
    refine Ev.step (fun k => by rw [runs_Tell.l0]) ?_
    simp only [if_neg (show ¬ (i : Int) < bs.length by omega)]
    refine Ev.bind (runs_told_ev n (by omega)) ?_
    simp only [if_pos (show acc.length + (toldN n).length < 17592186044416 by omega)]
    rw [List.drop_of_length_le (by omega), tellF]
    exact Ev.now _
  | succ d ih =>
    intro i n acc hd h1
    have hi : i < bs.length := by omega
    have hc := hb _ (getD_mem hi)
    have ht := (toldN_ok n).1
    refine Ev.step (fun k => by rw [runs_Tell.l0]) ?_
    rw [drop_get hi, tellF]
    simp only [if_pos (show (i : Int) < bs.length by omega), if_pos (show 0 ≤ (i : Int) by omega), rd_nat, wrap_nat hi (show bs.length ≤ 140737488355328 by omega)]
    by_cases e : bs.getD i 0 = 0
    · simp only [if_pos e, show wrap64 ((n : Int) + 1) = ((n + 1 : Nat) : Int) by rw [wrap64_id (by omega) (by omega)]; omega]
      exact ih (i + 1) (n + 1) acc (by omega) (by omega)
    · simp only [if_neg e]
      refine Ev.bind (runs_told_ev n (by omega)) ?_
      have e1 : wrap64 (wrap64 (bs.getD i 0) + 1) = bs.getD i 0 + 1 := by
        rw [wrap64_id (x := bs.getD i 0) (by omega) (by omega), wrap64_id (by omega) (by omega)]
      simp only [if_pos (show acc.length + (toldN n).length < 17592186044416 by omega), Option.bind_some, if_pos (show (acc ++ toldN n).length < 17592186044416 by rw [List.length_append]; omega), e1]
      have := ih (i + 1) 0 (acc ++ toldN n ++ [bs.getD i 0 + 1]) (by omega) (by rw [List.length_append, List.length_append, List.length_singleton]; omega)
      rw [show acc ++ (toldN n ++ (bs.getD i 0 + 1) :: tellF 0 (bs.drop (i + 1))) = acc ++ toldN n ++ [bs.getD i 0 + 1] ++ tellF 0 (bs.drop (i + 1)) by simp]
      exact this
theorem runs_Tell_ev (bs : List Int) (hb : ∀ x ∈ bs, 0 ≤ x ∧ x < 256) (hn : bs.length ≤ 1000000) : Ev (fun k => runs_Tell.f k bs) (tellF 0 bs) := by
  refine Ev.congr (fun k => by rw [runs_Tell.f]) ?_
  have := runs_Tell_l0 bs hb hn bs.length 0 0 [] (by omega) (by simp)
  rwa [List.nil_append, List.drop_zero] at this
theorem runs_Back_l0 (l : List Int) (hl : l.length ≤ 1000000) (most : Nat) (hm : most ≤ 1000000) : ∀ (d i p : Nat) (b : List Int), i + d = l.length → p ≤ 2 * most + 2 → b.length ≤ most → Ev (fun k => runs_Back.l0 k (most : Int) b (p : Int) l (l.length : Int) (i : Int)) (backB most (l.drop i) b p) := by
  intro d
  induction d with
  | zero =>
    intro i p b hd hp hb
    refine Ev.step (fun k => by rw [runs_Back.l0]) ?_
    simp only [if_neg (show ¬ (i : Int) < l.length by omega)]
    rw [List.drop_of_length_le (by omega), backB]
    exact Ev.now _
  | succ d ih =>
    intro i p b hd hp hb
    have hi : i < l.length := by omega
    refine Ev.step (fun k => by rw [runs_Back.l0]) ?_
    simp only [if_pos (show (i : Int) < l.length by omega), if_pos (show 0 ≤ (i : Int) by omega), rd_nat]
    rw [drop_get hi, backB]
    obtain ⟨x, hx⟩ : ∃ x, l.getD i 0 = x := ⟨_, rfl⟩
    rw [hx]
    by_cases c0 : x < 0
    · simp only [if_pos c0, if_pos (show x < 0 ∨ 257 ≤ x from .inl c0)]
      refine Ev.step (fun k => by rw [runs_Back.j1]) ?_
      simp only [if_true]; exact Ev.now _
    · simp only [if_neg c0]
      refine Ev.step (fun k => by rw [runs_Back.j1]) ?_
      by_cases c1 : 257 ≤ x
      · simp only [decide_eq_true (show x ≥ 257 from c1), if_true, if_pos (show x < 0 ∨ 257 ≤ x from .inr c1)]
        exact Ev.now _
      · rw [if_neg (show ¬ (x < 0 ∨ 257 ≤ x) by omega)]
        simp only [decide_eq_false (show ¬ x ≥ 257 from c1), if_neg (show ¬ false = true by decide)]
        by_cases c2 : 2 ≤ x
        · have e1 : wrap64 (x - 1) % 256 = x - 1 := by rw [wrap64_id (by omega) (by omega)]; omega
          simp only [if_pos (show x ≥ 2 from c2), if_pos c2, if_pos (show b.length < 140737488355328 by omega), Option.bind_some, e1, List.length_append, List.length_singleton]
          by_cases c3 : most < b.length + 1
          · simp only [if_pos c3, if_pos (show ((b.length + 1 : Nat) : Int) > most by omega)]
            exact Ev.now _
          · simp only [if_neg c3, if_neg (show ¬ ((b.length + 1 : Nat) : Int) > most by omega), wrap_nat hi (show l.length ≤ 140737488355328 by omega)]
            exact ih (i + 1) 1 _ (by omega) (by omega) (by rw [List.length_append, List.length_singleton]; omega)
        · simp only [if_neg (show ¬ x ≥ 2 from c2), if_neg c2]
          have e1 : wrap64 (wrap64 (x + 1) * p) = (((x.toNat + 1) * p : Nat) : Int) := by
            rw [wrap64_id (x := x + 1) (by omega) (by omega), show ((x.toNat + 1) * p : Nat) = ((x.toNat + 1 : Nat) * p : Nat) from rfl]
            have h : x = 0 ∨ x = 1 := by omega
            rcases h with rfl | rfl
            · rw [wrap64_id (by omega) (by omega)]; push_cast; simp
            · rw [wrap64_id (by omega) (by omega)]; push_cast; simp
          have e2 : wrap64 ((most : Int) - b.length) = ((most - b.length : Nat) : Int) := by rw [wrap64_id (by omega) (by omega)]; omega
          rw [e1, e2]
          obtain ⟨q, hq⟩ : ∃ q, (x.toNat + 1) * p = q := ⟨_, rfl⟩
          rw [hq]
          by_cases c3 : most < p
          · simp only [if_pos (show (p : Int) > most by omega), if_pos (show most < p ∨ most < b.length + q from .inl c3)]
            refine Ev.step (fun k => by rw [runs_Back.j2]) ?_
            simp only [if_true]; exact Ev.now _
          · simp only [if_neg (show ¬ (p : Int) > most by omega)]
            refine Ev.step (fun k => by rw [runs_Back.j2]) ?_
            by_cases c4 : most < b.length + q
            · simp only [if_pos (show most < p ∨ most < b.length + q from .inr c4), decide_eq_true (show (q : Int) > ((most - b.length : Nat) : Int) by omega), if_true]
              exact Ev.now _
            · simp only [if_neg (show ¬ (most < p ∨ most < b.length + q) by omega), decide_eq_false (show ¬ (q : Int) > ((most - b.length : Nat) : Int) by omega), if_neg (show ¬ false = true by decide), if_pos (show 0 ≤ (q : Int) by omega), Int.toNat_natCast, if_pos (show b.length + q < 140737488355328 by omega), Option.bind_some, List.length_append, List.length_replicate, if_neg (show ¬ ((b.length + q : Nat) : Int) > most by omega), wrap_nat hi (show l.length ≤ 140737488355328 by omega),
                show wrap64 ((p : Int) * 2) = ((p * 2 : Nat) : Int) by rw [wrap64_id (by omega) (by omega)]; push_cast; rfl]
              exact ih (i + 1) (p * 2) _ (by omega) (by omega) (by rw [List.length_append, List.length_replicate]; omega)
theorem runs_Back_ev (l : List Int) (hl : l.length ≤ 1000000) (most : Nat) (hm : most ≤ 1000000) : Ev (fun k => runs_Back.f k l (most : Int)) (backB most l [] 1) := by
  refine Ev.congr (fun k => by rw [runs_Back.f]) ?_
  simp only [if_neg (show ¬ (most : Int) < 0 by omega)]
  have := runs_Back_l0 l hl most hm l.length 0 1 [] (by omega) (by omega) (by simp)
  rwa [List.drop_zero] at this
def packB (ord : Int) (b : List Int) : List Int := packS ord (tellF 0 (moveF rowL b) ++ [257])
theorem tell_ok {b : List Int} (hb : ∀ x ∈ b, 0 ≤ x ∧ x < 256) : (tellF 0 (moveF rowL b)).length ≤ b.length ∧ ∀ x ∈ tellF 0 (moveF rowL b), 0 ≤ x ∧ x < 257 := by
  have h := tellF_ok (moveF rowL b) 0 (moveF_byte b rowL (List.Perm.refl _) hb)
  rw [moveF_length] at h
  exact ⟨by omega, h.2⟩
theorem packB_byte {ord : Int} (ho : ord = 0 ∨ ord = 1) {b : List Int} (hb : ∀ x ∈ b, 0 ≤ x ∧ x < 256) : ∀ x ∈ packB ord b, 0 ≤ x ∧ x < 256 := by
  refine packS_byte ho (fun s hs => ?_)
  rcases List.mem_append.1 hs with h | h
  · have := (tell_ok hb).2 s h; omega
  · rw [List.mem_singleton.1 h]; decide
theorem packL_len {ord : Int} (ho : ord = 0 ∨ ord = 1) : ∀ {l : List Int} {st : Go.Proofs.YtbbpplnnegdenaaGreat.Pk.St}, Go.Proofs.YtbbpplnnegdenaaGreat.Pm.Good st → (∀ s ∈ l, 0 ≤ s ∧ s < 258) → (packL ord st l).1.1.length ≤ st.1.1.length + 3 * l.length
  | [], st, h, _ => Nat.le_refl _
  | s :: l, st, h, hl => by
    have hs := hl s List.mem_cons_self
    have hm := h.ms _ (askF_lt h.cl ho)
    have hsp := hm.span (s := s.toNat) (by omega)
    have hle := hm.le
    have h1 := (h.w.put (total := (st.2.1 (askF st.2.2 ord)).2) (by omega) hsp.1 hsp.2.1 hsp.2.2).2
    have h2 := packL_len ho (l := l) (h.step ho hs) (fun x hx => hl x (List.mem_cons_of_mem _ hx))
    have h3 : (stepP ord st s).1.1.length ≤ st.1.1.length + 3 := h1
    rw [packL_snoc, List.length_cons]; omega
theorem packB_len (b : List Int) {ord : Int} (ho : ord = 0 ∨ ord = 1) (hb : ∀ x ∈ b, 0 ≤ x ∧ x < 256) (hn : b.length ≤ 100000) : (packB ord b).length ≤ 17592186044416 := by
  have ht := tell_ok hb
  have h := packL_len ho (l := tellF 0 (moveF rowL b) ++ [257]) Go.Proofs.YtbbpplnnegdenaaGreat.Pm.Good.new (fun s hs => by
    rcases List.mem_append.1 hs with h | h
    · have := ht.2 s h; omega
    · rw [List.mem_singleton.1 h]; decide)
  have h0 : Go.Proofs.YtbbpplnnegdenaaGreat.Pk.st0.1.1.length = 0 := rfl
  unfold packB packS
  rw [endF_length]
  rw [h0, List.length_append, List.length_singleton] at h
  omega
theorem pipe_Pack_ev {ord : Int} (ho : ord = 0 ∨ ord = 1) {b : List Int} (hb : ∀ x ∈ b, 0 ≤ x ∧ x < 256) (hn : b.length ≤ 100000) : Ev (fun k => pipe_Pack.f k b ord) (packB ord b, true) := by
  have ht := tell_ok hb
  refine Ev.congr (fun k => by rw [pipe_Pack.f, if_pos ⟨ho, hn⟩, if_pos hb]) ?_
  refine Ev.bind (runs_Tell_ev _ (moveF_byte b rowL (List.Perm.refl _) hb) (by rw [moveF_length]; omega)) ?_
  simp only [if_pos (show (∀ s ∈ tellF 0 (moveF rowL b), 0 ≤ s ∧ s < 258) ∧ (tellF 0 (moveF rowL b)).length < 1000000 from ⟨fun s hs => by have := ht.2 s hs; omega, by omega⟩)]
  exact Ev.now _
def unpR (xs : List Int) (ord : Int) (most : Nat) : List Int × Bool :=
  match symF xs ord most with
  | none => ([], false)
  | some l => if (backB most l [] 1).2 = true then (if packB ord (backF rowL (backB most l [] 1).1) = xs then (backF rowL (backB most l [] 1).1, true) else ([], false)) else ([], false)
theorem backF_okB {most : Nat} {l : List Int} : (backF rowL (backB most l [] 1).1).length ≤ most ∧ ∀ x ∈ backF rowL (backB most l [] 1).1, 0 ≤ x ∧ x < 256 := by
  have h := backB_ok most l [] 1 (by simp) (Nat.zero_le _)
  exact ⟨by rw [backF_length]; exact h.1, backF_byte _ rowL (List.Perm.refl _) h.2⟩
theorem pipe_Unpack_ev {ord : Int} (ho : ord = 0 ∨ ord = 1) {xs : List Int} (hx : ∀ x ∈ xs, 0 ≤ x ∧ x < 256) (hn : xs.length ≤ 17592186044416) {most : Nat} (hm : most ≤ 100000) : Ev (fun k => pipe_Unpack.f k xs ord (most : Int)) (unpR xs ord most) := by
  have e : (min (most : Int) 100000) = most := by omega
  refine Ev.congr (fun k => by rw [pipe_Unpack.f, if_pos ⟨ho, by omega⟩, if_pos ⟨hx, hn⟩, e, Int.toNat_natCast]) ?_
  unfold unpR
  cases hS : symF xs ord most with
  | none => exact Ev.now _
  | some l =>
    have hl : l.length ≤ most := by
      unfold symF at hS
      split at hS
      · cases hS
      · have := symL_ok _ _ _ _ _ _ hS
        simp at this; omega
    have hB := backB_ok most l [] 1 (by simp) (Nat.zero_le _)
    have hF := backF_okB (most := most) (l := l)
    dsimp only
    refine Ev.bind (runs_Back_ev l (by omega) most (by omega)) ?_
    by_cases c : (backB most l [] 1).2 = true
    · simp only [if_pos c, if_pos (show (backB most l [] 1).1.length ≤ 17592186044416 ∧ ∀ x ∈ (backB most l [] 1).1, 0 ≤ x ∧ x < 256 from ⟨by omega, hB.2⟩)]
      refine Ev.bind (pipe_Pack_ev ho hF.2 (by omega)) ?_
      simp only [bytes_Equal.f, strOf_beq (packB_byte ho hF.2) hx, if_true]
      exact Ev.now _
    · simp only [if_neg c]
      exact Ev.now _
theorem unpR_packB {ord : Int} (ho : ord = 0 ∨ ord = 1) {b : List Int} (hb : ∀ x ∈ b, 0 ≤ x ∧ x < 256) : unpR (packB ord b) ord b.length = (b, true) := by
  have ht := tell_ok hb
  have hmv := moveF_byte b rowL (List.Perm.refl _) hb
  have h1 : symF (packB ord b) ord b.length = some (tellF 0 (moveF rowL b)) := symF_packS ho ht.2 ht.1
  have h2 := backB_tell b.length (moveF rowL b) 0 [] hmv (by rw [moveF_length]; simp)
  have h3 := backF_moveF b rowL (List.Perm.refl _) hb
  unfold unpR
  rw [h1]
  dsimp only
  rw [h2]
  simp only [List.replicate_zero, List.append_nil, List.nil_append, h3, if_true]
theorem unpR_some {xs z : List Int} {ord : Int} {most : Nat} (h : unpR xs ord most = (z, true)) : packB ord z = xs ∧ z.length ≤ most ∧ ∀ x ∈ z, 0 ≤ x ∧ x < 256 := by
  unfold unpR at h
  split at h
  · cases h
  · split at h
    · split at h
      · injection h with h1 h2
        subst h1
        exact ⟨by assumption, backF_okB⟩
      · cases h
    · cases h
theorem toppipe_j1 {ord : Int} (ho : ord = 0 ∨ ord = 1) {o : List Int} (hob : ∀ x ∈ o, 0 ≤ x ∧ x < 256) : Ev (fun k => whorltop_TopPipe.j1 k ord o (unpR o ord 1000).1 (unpR o ord 1000).2 false) true := by
  refine Ev.step (fun k => by rw [whorltop_TopPipe.j1]) ?_
  simp only [if_neg (show ¬ false = true by decide), whorltop_known.f, Option.bind_some]
  obtain ⟨⟨z, may⟩, hz⟩ : ∃ r, unpR o ord 1000 = r := ⟨_, rfl⟩
  rw [hz]
  cases may with
  | false => simp only [if_neg (show ¬ false = true by decide)]; exact Ev.now _
  | true =>
    obtain ⟨h1, h2, h3⟩ := unpR_some hz
    simp only [if_true]
    refine Ev.bind (pipe_Pack_ev ho h3 (by omega)) ?_
    simp only [h1, if_true]
    exact Ev.now _
theorem TopPipe : whorltop_TopPipe.Pure := by
  intro b ord o h1 h2 h3 h4 h5 h6 h7
  refine Ev.rounds ?_
  have hb : ∀ x ∈ b, 0 ≤ x ∧ x < 256 := fun x hx => by have := wf_u8 (h3 x hx); omega
  have hob : ∀ x ∈ o, 0 ≤ x ∧ x < 256 := fun x hx => by have := wf_u8 (h7 x hx); omega
  have out : Ev (fun k => whorltop_TopPipe.j0 k b ord o true) true := Ev.step (fun k => by rw [whorltop_TopPipe.j0, if_pos rfl]) (Ev.now _)
  refine Ev.congr (fun k => by rw [whorltop_TopPipe.f]) ?_
  by_cases g1 : (b.length : Int) > 200
  · simp only [if_pos g1]; exact out
  simp only [if_neg g1]
  by_cases g2 : (o.length : Int) > 200
  · simp only [if_pos g2]; exact out
  simp only [if_neg g2]
  by_cases g3 : ord < 0
  · simp only [if_pos g3]; exact out
  simp only [if_neg g3]
  by_cases g4 : ord > 1
  · simp only [decide_eq_true g4]; exact out
  simp only [decide_eq_false g4]
  have ho : ord = 0 ∨ ord = 1 := by omega
  refine Ev.step (fun k => by rw [whorltop_TopPipe.j0]) ?_
  simp only [if_neg (show ¬ false = true by decide)]
  refine Ev.bind (pipe_Pack_ev ho hb (by omega)) ?_
  have hu := pipe_Unpack_ev ho (packB_byte ho hb) (packB_len b ho hb (by omega)) (most := b.length) (by omega)
  rw [unpR_packB ho hb] at hu
  refine Ev.bind hu ?_
  refine Ev.bind (pipe_Unpack_ev ho hob (by omega) (most := 1000) (by omega)) ?_
  simp only [if_true, bne_self_eq_false]
  exact toppipe_j1 ho hob
end Go.Proofs.YtbbpplnnegdenaaGreat.Pure
end
