/- Words, functions, walks and plain mathematics for TopThree, part 6: laid together by a program of this session (pack.py). -/
import Derived.Test.YtbbpplnnegdenaaKTopThreee
set_option linter.unusedVariables false
set_option linter.unusedSimpArgs false
section
namespace Go.Proofs.Ytbbpplnnegdenaa.PTopThree
open Go.RowKit Go.Proofs.YtbbpplnnegdenaaW.PrintWords Go.Proofs.YtbbpplnnegdenaaW.PrintLast Go.Proofs.YtbbpplnnegdenaaW.PrintMore
attribute [local go_sem] max2_int min2_int max_two min_two max_three min_three max_four min_four
set_option linter.unusedVariables false
set_option linter.unusedSimpArgs false
def phi_falls.l0 : Nat → List Int → List Int → List Int → List Int → Int → Int → Option (Bool)
  | 0, _, _, _, _, _, _ => none
  | k + 1, x0, x1, x5, x18, x19, x20 => if x20 < x19 then (if 0 ≤ x20 then (if x20 < (x18.length : Int) then (if x20 = 0 then (phi_falls.l0 k x0 x1 x5 x18 x19 (wrap64 (x20 + 1))) else (if 0 ≤ (wrap64 (x20 - 1)) then (if (wrap64 (x20 - 1)) < (x1.length : Int) then (if 0 ≤ (rd x1 (wrap64 (x20 - 1))) then (if (rd x1 (wrap64 (x20 - 1))) < (x0.length : Int) then (if 0 ≤ (rd x18 x20) then (if (rd x18 x20) < (x0.length : Int) then (if (rd x0 (rd x1 (wrap64 (x20 - 1)))) > (rd x0 (rd x18 x20)) then (some false) else (if (rd x0 (rd x1 (wrap64 (x20 - 1)))) = (rd x0 (rd x18 x20)) then (if 0 ≤ (wrap64 ((rd x1 (wrap64 (x20 - 1))) + 1)) then (if (wrap64 ((rd x1 (wrap64 (x20 - 1))) + 1)) < (x5.length : Int) then (if 0 ≤ (wrap64 ((rd x18 x20) + 1)) then (if (wrap64 ((rd x18 x20) + 1)) < (x5.length : Int) then (if (rd x5 (wrap64 ((rd x1 (wrap64 (x20 - 1))) + 1))) > (rd x5 (wrap64 ((rd x18 x20) + 1))) then (some false) else (phi_falls.l0 k x0 x1 x5 x18 x19 (wrap64 (x20 + 1)))) else (none)) else (none)) else (none)) else (none)) else (phi_falls.l0 k x0 x1 x5 x18 x19 (wrap64 (x20 + 1))))) else (none)) else (none)) else (none)) else (none)) else (none)) else (none))) else (none)) else (none)) else (some true)
def phi_falls.f (k : Nat) (l0 : List Int) (l1 : List Int) : Option (Bool) := (rank_Inverse.f k l1).bind fun bt528 => (if bt528.1.length < 17592186044416 then (phi_falls.l0 k l0 l1 (bt528.1 ++ [(-1)]) l1 (l1.length : Int) 0) else (none))
theorem phi_falls.mono_l : ∀ k, (∀ y0 y1 y2 y3 y4 y5, LeO (phi_falls.l0 k y0 y1 y2 y3 y4 y5) (phi_falls.l0 (k + 1) y0 y1 y2 y3 y4 y5))
  | 0 => fun _ _ _ _ _ _ r h => by simp [phi_falls.l0] at h
  | k + 1 => by
    have ih0 := phi_falls.mono_l k
    · intro y0 y1 y2 y3 y4 y5
      unfold phi_falls.l0
      have m0 := @rank_Inverse.mono
      exact mB
theorem phi_falls.mono : ∀ a0 a1 k, LeO (phi_falls.f k a0 a1) (phi_falls.f (k + 1) a0 a1) := by
  intro a0 a1 k
  have ih0 := phi_falls.mono_l k
  unfold phi_falls.f
  have m0 := @rank_Inverse.mono
  exact mB
set_option maxHeartbeats 8000000 in
set_option maxRecDepth 100000 in
theorem phi_falls.calls (k : Nat) (A0 : Option Addr) (c0 : Nat) (l0 : List Int) (A1 : Option Addr) (c1 : Nat) (l1 : List Int) (r : Bool) (w : World) (hr0 : Kd.C (Kd.int .u8) w A0 l0.length l0) (hc0 : l0.length ≤ c0) (hr1 : Kd.C (Kd.int .i64) w A1 l1.length l1) (hc1 : l1.length ≤ c1) (h : phi_falls.f k l0 l1 = some r) :
    Calls Try.prog 64 #[.slice A0 l0.length c0, .slice A1 l1.length c1] w fun e w' => e = .returned (.bool r) ∧ Below w.heap.size w w' := by
 have HR0 := Aside0.mk hr0
 have HC0 := Aside0.mk hc0
 clear hr0 hc0
 have HR1 := Aside0.mk hr1
 have HC1 := Aside0.mk hc1
 clear hr1 hc1
 have HB := Aside0.mk (Below.refl w.heap.size w)
 have H := h
 clear h
 unfold phi_falls.f at H
 obtain ⟨⟨t528, t529⟩, A3, H⟩ := bdS H
 try dsimp only at H
 obtain ⟨c4, H⟩ := ifP H
 have LMc4 := Aside0.mk c4
 clear c4
 generalize hy532 : (t528 ++ [(-1)] : List Int) = y532 at H
 try simp only [Option.bind_some] at H
 have Ny532 := Aside0.mk hy532.symm
 clear hy532
 have H' := Aside0.mk H
 clear H
 go_enter Try.func64, Try.ntmps64
 go_wp2_with (first | (go_at_call 39; (with_reducible refine (rank_Inverse.calls k _ _ l1 t528 t529 _ ?side1 ?side2 A3.out).mono ?_); (case side1 => exact uC HR1.out); (case side2 => exact HC1.out); rintro e w5 ⟨v530, rfl, ho0, hb⟩; have n0_ := Aside0.mk (Kd.R_lower ho0 (below_size uB)); have n1_ := Aside0.mk (below_step uB hb); clear HB; have HO531 := n0_; have HB := n1_; clear n0_ n1_; (try clear hb); (try clear hb2); (try clear hk); (try clear hi); (try clear ho0)) | ((with_reducible refine gate_builtin (b := .append) (xs := #[.tmp 15, .tmp 16]) rfl ?_); at_builtin; refine Kd.R_append (Kd.int .i64) (w0 := w) w.heap.size rfl (.tmp 15) (.tmp 16) 23 3 (.int .i64 0) 8 rfl Try.underlying23 info3 rfl (by decide) (by omega) v530 t528 (-1) [.int .i64 (-1)] (fun _ => True) (fun _ => False) rfl rfl ?aP (fun _ hk => hk.elim) ?aF ?aO ?aB ?aS ?aL ?_; (case aP => exact rfl); (case aB => exact uB); (case aF => exact (fun _ _ => trivial)); (case aO => exact (uR HO531.out)); (case aS => exact (below_size uB)); (case aL => have := LMc4.out; omega); intro v533 w6 ho hb hg hat; rw [← Ny532.out] at ho; have n0_ := Aside0.mk (hb); have n1_ := Aside0.mk (ho); clear HB; clear HO531; have HB := n0_; have HO534 := n1_; clear n0_ n1_; clear ho hb hg hat))
 repeat (go_quiet (first | (go_at_call 39; (with_reducible refine (rank_Inverse.calls k _ _ l1 t528 t529 _ ?side1 ?side2 A3.out).mono ?_); (case side1 => exact uC HR1.out); (case side2 => exact HC1.out); rintro e w5 ⟨v530, rfl, ho0, hb⟩; have n0_ := Aside0.mk (Kd.R_lower ho0 (below_size uB)); have n1_ := Aside0.mk (below_step uB hb); clear HB; have HO531 := n0_; have HB := n1_; clear n0_ n1_; (try clear hb); (try clear hb2); (try clear hk); (try clear hi); (try clear ho0)) | ((with_reducible refine gate_builtin (b := .append) (xs := #[.tmp 15, .tmp 16]) rfl ?_); at_builtin; refine Kd.R_append (Kd.int .i64) (w0 := w) w.heap.size rfl (.tmp 15) (.tmp 16) 23 3 (.int .i64 0) 8 rfl Try.underlying23 info3 rfl (by decide) (by omega) v530 t528 (-1) [.int .i64 (-1)] (fun _ => True) (fun _ => False) rfl rfl ?aP (fun _ hk => hk.elim) ?aF ?aO ?aB ?aS ?aL ?_; (case aP => exact rfl); (case aB => exact uB); (case aF => exact (fun _ _ => trivial)); (case aO => exact (uR HO531.out)); (case aS => exact (below_size uB)); (case aL => have := LMc4.out; omega); intro v533 w6 ho hb hg hat; rw [← Ny532.out] at ho; have n0_ := Aside0.mk (hb); have n1_ := Aside0.mk (ho); clear HB; clear HO531; have HB := n0_; have HO534 := n1_; clear n0_ n1_; clear ho hb hg hat)); try go_wp2_with (first | (go_at_call 39; (with_reducible refine (rank_Inverse.calls k _ _ l1 t528 t529 _ ?side1 ?side2 A3.out).mono ?_); (case side1 => exact uC HR1.out); (case side2 => exact HC1.out); rintro e w5 ⟨v530, rfl, ho0, hb⟩; have n0_ := Aside0.mk (Kd.R_lower ho0 (below_size uB)); have n1_ := Aside0.mk (below_step uB hb); clear HB; have HO531 := n0_; have HB := n1_; clear n0_ n1_; (try clear hb); (try clear hb2); (try clear hk); (try clear hi); (try clear ho0)) | ((with_reducible refine gate_builtin (b := .append) (xs := #[.tmp 15, .tmp 16]) rfl ?_); at_builtin; refine Kd.R_append (Kd.int .i64) (w0 := w) w.heap.size rfl (.tmp 15) (.tmp 16) 23 3 (.int .i64 0) 8 rfl Try.underlying23 info3 rfl (by decide) (by omega) v530 t528 (-1) [.int .i64 (-1)] (fun _ => True) (fun _ => False) rfl rfl ?aP (fun _ hk => hk.elim) ?aF ?aO ?aB ?aS ?aL ?_; (case aP => exact rfl); (case aB => exact uB); (case aF => exact (fun _ _ => trivial)); (case aO => exact (uR HO531.out)); (case aS => exact (below_size uB)); (case aL => have := LMc4.out; omega); intro v533 w6 ho hb hg hat; rw [← Ny532.out] at ho; have n0_ := Aside0.mk (hb); have n1_ := Aside0.mk (ho); clear HB; clear HO531; have HB := n0_; have HO534 := n1_; clear n0_ n1_; clear ho hb hg hat)))
 go_loopg [20] k (fun kq v20 w' => ∃ (x20_1 : Int), v20 = .int .i64 x20_1 ∧ Aside0 (phi_falls.l0 kq l0 l1 y532 l1 (l1.length : Int) x20_1 = some r) ∧ Aside0 (kq ≤ k) ∧ Aside0 (Kd.R (Kd.int .i64) 3 w' w.heap.size (fun _ => True) v533 y532) ∧ Aside0 (Below w.heap.size w w'))
 case atStart => exact ⟨(0), sD, H', ⟨Nat.le_refl _⟩, ⟨uR HO534.out⟩, ⟨uB⟩⟩
 case round =>
  clear H'
  try clear c1
  try clear p2
  try clear c4
  try clear c6
  obtain ⟨x20_1, rfl, HA, HK1, HO_5, HB⟩ := hrel
  cases gk with
  | zero => exact absurd HA.out (by simp [phi_falls.l0])
  | succ k1 =>
   have H := HA.out
   clear HA
   simp only [phi_falls.l0] at H
   rcases ifC H with ⟨c7b0, H⟩ | ⟨c7b0, H⟩
   ·obtain ⟨c8b0, c9b0, H⟩ := ifD2 H
    by_cases c10 : x20_1 = 0
    ·rw [if_pos c10] at H
     have c10b0 : (x20_1 == 0) = true := beq_iff_eq.mpr c10
     have c10b1 : (x20_1 != 0) = false := bne_eq_false_iff_eq.mpr c10
     clear c10
     have H' := Aside0.mk H
     clear H
     obtain ⟨ad535, e535, hx535_0, p535, q535⟩ := rIO HB.out HR1.out x20_1
     cases e535
     go_wp2
     repeat (go_quiet (fail); try go_wp2)
     go_roundg k1
     case measure => have := HK1.out; omega
     case rel => exact ⟨(wrap64 (x20_1 + 1)), sD, H', ⟨by have := HK1.out; omega⟩, ⟨uR HO_5.out⟩, ⟨uB⟩⟩
    ·rw [if_neg c10] at H
     have c10b0 : (x20_1 == 0) = false := beq_eq_false_iff_ne.mpr c10
     have c10b1 : (x20_1 != 0) = true := bne_iff_ne.mpr c10
     obtain ⟨ji11, hji11⟩ : ∃ j_ : Int, (wrap64 (x20_1 - 1)) = j_ := ⟨_, rfl⟩
     first | rw [hji11] at H | simp only [hji11] at H
     have hji11w : (IntKind.i64.wrap (x20_1 - 1)) = ji11 := (i64_w _).trans hji11
     obtain ⟨c12b0, c13b0, H⟩ := ifD2 H
     obtain ⟨c14b0, c15b0, H⟩ := ifD2 H
     obtain ⟨c16b0, c17b0, H⟩ := ifD2 H
     rcases ifK H with ⟨c18b0, H⟩ | ⟨c18b0, H⟩
     ·obtain rfl := Option.some.inj H
      obtain ⟨ad535, e535, hx535_0, p535, q535⟩ := rIO HB.out HR1.out x20_1
      cases e535
      obtain ⟨ad536, e536, hx536_0, p536, q536⟩ := rIO HB.out HR1.out (ji11)
      obtain rfl : ad535 = ad536 := (by injection e536)
      obtain ⟨ad537, e537, hx537_0, p537, q537⟩ := rIO HB.out HR0.out (rd l1 (ji11))
      cases e537
      obtain ⟨ad538, e538, hx538_0, p538, q538⟩ := rIO HB.out HR0.out (rd l1 x20_1)
      obtain rfl : ad537 = ad538 := (by injection e538)
      go_wp2
      repeat (go_quiet (fail); try go_wp2)
      go_ret
      exact ⟨by first | rfl | (simp [errW_none, errW_some] <;> rfl) | (simp only [← hji11]; first | rfl | (simp [errW_none, errW_some] <;> rfl)) | (simp [*, errW_none, errW_some] <;> rfl), uB⟩
     ·by_cases c19 : (rd l0 (rd l1 (ji11))) = (rd l0 (rd l1 x20_1))
      ·rw [if_pos c19] at H
       have c19b0 : ((rd l0 (rd l1 (ji11))) == (rd l0 (rd l1 x20_1))) = true := beq_iff_eq.mpr c19
       have c19b1 : ((rd l0 (rd l1 (ji11))) != (rd l0 (rd l1 x20_1))) = false := bne_eq_false_iff_eq.mpr c19
       clear c19
       obtain ⟨ji20, hji20⟩ : ∃ j_ : Int, (wrap64 ((rd l1 (ji11)) + 1)) = j_ := ⟨_, rfl⟩
       first | rw [hji20] at H | simp only [hji20] at H
       have hji20w : (IntKind.i64.wrap ((rd l1 (ji11)) + 1)) = ji20 := (i64_w _).trans hji20
       obtain ⟨c21b0, c22b0, H⟩ := ifD2 H
       obtain ⟨ji23, hji23⟩ : ∃ j_ : Int, (wrap64 ((rd l1 x20_1) + 1)) = j_ := ⟨_, rfl⟩
       first | rw [hji23] at H | simp only [hji23] at H
       have hji23w : (IntKind.i64.wrap ((rd l1 x20_1) + 1)) = ji23 := (i64_w _).trans hji23
       obtain ⟨c24b0, c25b0, H⟩ := ifD2 H
       rcases ifK H with ⟨c26b0, H⟩ | ⟨c26b0, H⟩
       ·obtain rfl := Option.some.inj H
        obtain ⟨ad535, e535, hx535_0, p535, q535⟩ := rIO HB.out HR1.out x20_1
        cases e535
        obtain ⟨ad536, e536, hx536_0, p536, q536⟩ := rIO HB.out HR1.out (ji11)
        obtain rfl : ad535 = ad536 := (by injection e536)
        obtain ⟨ad537, e537, hx537_0, p537, q537⟩ := rIO HB.out HR0.out (rd l1 (ji11))
        cases e537
        obtain ⟨ad538, e538, hx538_0, p538, q538⟩ := rIO HB.out HR0.out (rd l1 x20_1)
        obtain rfl : ad537 = ad538 := (by injection e538)
        obtain ⟨ad539, e539, hx539_0, p539, q539⟩ := rIO HB.out HR0.out (rd l1 (ji11))
        obtain rfl : ad537 = ad539 := (by injection e539)
        obtain ⟨ad540, e540, hx540_0, p540, q540⟩ := rIO HB.out HR0.out (rd l1 x20_1)
        obtain rfl : ad537 = ad540 := (by injection e540)
        obtain ⟨Ao27, co27, eo27⟩ := Kd.R_slice HO_5.out
        subst eo27
        obtain ⟨ad541, e541, hx541_0, p541, q541⟩ := rI (Kd.R_reads' HO_5.out).2.2 (ji20)
        cases e541
        obtain ⟨ad542, e542, hx542_0, p542, q542⟩ := rI (Kd.R_reads' HO_5.out).2.2 (ji23)
        obtain rfl : ad541 = ad542 := (by injection e542)
        go_wp2
        repeat (go_quiet (fail); try go_wp2)
        go_ret
        exact ⟨by first | rfl | (simp [errW_none, errW_some] <;> rfl) | (simp only [← hji11, ← hji20, ← hji23]; first | rfl | (simp [errW_none, errW_some] <;> rfl)) | (simp [*, errW_none, errW_some] <;> rfl), uB⟩
       ·have H' := Aside0.mk H
        clear H
        obtain ⟨ad535, e535, hx535_0, p535, q535⟩ := rIO HB.out HR1.out x20_1
        cases e535
        obtain ⟨ad536, e536, hx536_0, p536, q536⟩ := rIO HB.out HR1.out (ji11)
        obtain rfl : ad535 = ad536 := (by injection e536)
        obtain ⟨ad537, e537, hx537_0, p537, q537⟩ := rIO HB.out HR0.out (rd l1 (ji11))
        cases e537
        obtain ⟨ad538, e538, hx538_0, p538, q538⟩ := rIO HB.out HR0.out (rd l1 x20_1)
        obtain rfl : ad537 = ad538 := (by injection e538)
        obtain ⟨ad539, e539, hx539_0, p539, q539⟩ := rIO HB.out HR0.out (rd l1 (ji11))
        obtain rfl : ad537 = ad539 := (by injection e539)
        obtain ⟨ad540, e540, hx540_0, p540, q540⟩ := rIO HB.out HR0.out (rd l1 x20_1)
        obtain rfl : ad537 = ad540 := (by injection e540)
        obtain ⟨Ao28, co28, eo28⟩ := Kd.R_slice HO_5.out
        subst eo28
        obtain ⟨ad541, e541, hx541_0, p541, q541⟩ := rI (Kd.R_reads' HO_5.out).2.2 (ji20)
        cases e541
        obtain ⟨ad542, e542, hx542_0, p542, q542⟩ := rI (Kd.R_reads' HO_5.out).2.2 (ji23)
        obtain rfl : ad541 = ad542 := (by injection e542)
        go_wp2
        repeat (go_quiet (fail); try go_wp2)
        go_roundg k1
        case measure => have := HK1.out; omega
        case rel => exact ⟨(wrap64 (x20_1 + 1)), sD, H', ⟨by have := HK1.out; omega⟩, ⟨uR HO_5.out⟩, ⟨uB⟩⟩
      ·rw [if_neg c19] at H
       have c19b0 : ((rd l0 (rd l1 (ji11))) == (rd l0 (rd l1 x20_1))) = false := beq_eq_false_iff_ne.mpr c19
       have c19b1 : ((rd l0 (rd l1 (ji11))) != (rd l0 (rd l1 x20_1))) = true := bne_iff_ne.mpr c19
       have H' := Aside0.mk H
       clear H
       obtain ⟨ad535, e535, hx535_0, p535, q535⟩ := rIO HB.out HR1.out x20_1
       cases e535
       obtain ⟨ad536, e536, hx536_0, p536, q536⟩ := rIO HB.out HR1.out (ji11)
       obtain rfl : ad535 = ad536 := (by injection e536)
       obtain ⟨ad537, e537, hx537_0, p537, q537⟩ := rIO HB.out HR0.out (rd l1 (ji11))
       cases e537
       obtain ⟨ad538, e538, hx538_0, p538, q538⟩ := rIO HB.out HR0.out (rd l1 x20_1)
       obtain rfl : ad537 = ad538 := (by injection e538)
       obtain ⟨ad539, e539, hx539_0, p539, q539⟩ := rIO HB.out HR0.out (rd l1 (ji11))
       obtain rfl : ad537 = ad539 := (by injection e539)
       obtain ⟨ad540, e540, hx540_0, p540, q540⟩ := rIO HB.out HR0.out (rd l1 x20_1)
       obtain rfl : ad537 = ad540 := (by injection e540)
       go_wp2
       repeat (go_quiet (fail); try go_wp2)
       go_roundg k1
       case measure => have := HK1.out; omega
       case rel => exact ⟨(wrap64 (x20_1 + 1)), sD, H', ⟨by have := HK1.out; omega⟩, ⟨uR HO_5.out⟩, ⟨uB⟩⟩
   ·obtain rfl := Option.some.inj H
    go_wp2
    repeat (go_quiet (fail); try go_wp2)
    go_ret
    exact ⟨eR, uB⟩
mutual
def phi_PLCP.j0 : Nat → List Int → List Int → List Int → Bool → Option (List Int × Bool)
  | 0, _, _, _, _ => none
  | k + 1, x0, x1, x6, x26 => if x26 = true then (some (([] : List Int), false)) else ((phi_falls.f k x0 x1).bind fun t547 => (if 0 ≤ (x1.length : Int) then (if ((x1.length : Int) : Int).toNat ≤ 35184372088832 then (phi_PLCP.l0 k x0 t547 (List.replicate ((x1.length : Int) : Int).toNat 0) 0 x6 (x6.length : Int) 0) else (none)) else (none)))
def phi_PLCP.l0 : Nat → List Int → Bool → List Int → Int → List Int → Int → Int → Option (List Int × Bool)
  | 0, _, _, _, _, _, _, _ => none
  | k + 1, x0, x8, x9, x10, x33, x34, x35 => if x35 < x34 then (if 0 ≤ x35 then (if x35 < (x33.length : Int) then (if (rd x33 x35) = (-1) then (if x35 < (x9.length : Int) then (phi_PLCP.l0 k x0 x8 (x9.set (x35 : Int).toNat 0) 0 x33 x34 (wrap64 (x35 + 1))) else (none)) else (if x8 = true then ((lex_Common.f k x0 (wrap64 (x35 + (mx (wrap64 (x10 - 1)) 0))) (wrap64 ((rd x33 x35) + (mx (wrap64 (x10 - 1)) 0)))).bind fun t553 => (if x35 < (x9.length : Int) then (phi_PLCP.l0 k x0 x8 (x9.set (x35 : Int).toNat (wrap64 ((mx (wrap64 (x10 - 1)) 0) + t553))) (wrap64 ((mx (wrap64 (x10 - 1)) 0) + t553)) x33 x34 (wrap64 (x35 + 1))) else (none))) else ((lex_Common.f k x0 x35 (rd x33 x35)).bind fun t555 => (if x35 < (x9.length : Int) then (phi_PLCP.l0 k x0 x8 (x9.set (x35 : Int).toNat t555) t555 x33 x34 (wrap64 (x35 + 1))) else (none))))) else (none)) else (none)) else (some (x9, true))
end
def phi_PLCP.f (k : Nat) (l0 : List Int) (l1 : List Int) : Option (List Int × Bool) := (phi_Ahead.f k l1).bind fun bt543 => (if bt543.2 = true then (phi_PLCP.j0 k l0 l1 bt543.1 ((l1.length : Int) != (l0.length : Int))) else (phi_PLCP.j0 k l0 l1 bt543.1 true))
theorem phi_PLCP.mono_l : ∀ k, (∀ y0 y1 y2 y3, LeO (phi_PLCP.j0 k y0 y1 y2 y3) (phi_PLCP.j0 (k + 1) y0 y1 y2 y3)) ∧ (∀ y0 y1 y2 y3 y4 y5 y6, LeO (phi_PLCP.l0 k y0 y1 y2 y3 y4 y5 y6) (phi_PLCP.l0 (k + 1) y0 y1 y2 y3 y4 y5 y6))
  | 0 => ⟨fun _ _ _ _ r h => by simp [phi_PLCP.j0] at h, fun _ _ _ _ _ _ _ r h => by simp [phi_PLCP.l0] at h⟩
  | k + 1 => by
    obtain ⟨ih0, ih1⟩ := phi_PLCP.mono_l k
    refine ⟨?_, ?_⟩
    · intro y0 y1 y2 y3
      unfold phi_PLCP.j0
      have m0 := @lex_Common.mono
      have m1 := @phi_Ahead.mono
      have m2 := @phi_falls.mono
      exact mB
    · intro y0 y1 y2 y3 y4 y5 y6
      unfold phi_PLCP.l0
      have m0 := @lex_Common.mono
      have m1 := @phi_Ahead.mono
      have m2 := @phi_falls.mono
      exact mB
theorem phi_PLCP.mono : ∀ a0 a1 k, LeO (phi_PLCP.f k a0 a1) (phi_PLCP.f (k + 1) a0 a1) := by
  intro a0 a1 k
  obtain ⟨ih0, ih1⟩ := phi_PLCP.mono_l k
  unfold phi_PLCP.f
  have m0 := @lex_Common.mono
  have m1 := @phi_Ahead.mono
  have m2 := @phi_falls.mono
  exact mB
set_option maxHeartbeats 8000000 in
set_option maxRecDepth 100000 in
theorem phi_PLCP.calls (k : Nat) (A0 : Option Addr) (c0 : Nat) (l0 : List Int) (A1 : Option Addr) (c1 : Nat) (l1 : List Int) (r1 : List Int) (r2 : Bool) (w : World) (hr0 : Kd.C (Kd.int .u8) w A0 l0.length l0) (hc0 : l0.length ≤ c0) (hr1 : Kd.C (Kd.int .i64) w A1 l1.length l1) (hc1 : l1.length ≤ c1) (h : phi_PLCP.f k l0 l1 = some (r1, r2)) :
    Calls Try.prog 43 #[.slice A0 l0.length c0, .slice A1 l1.length c1] w fun e w' => ∃ v0_ : Value, e = .returned (.tuple #[v0_, .bool r2]) ∧ Kd.R (Kd.int .i64) 3 w' w.heap.size (fun _ => True) v0_ r1 ∧ Below w.heap.size w w' := by
 have HR0 := Aside0.mk hr0
 have HC0 := Aside0.mk hc0
 clear hr0 hc0
 have HR1 := Aside0.mk hr1
 have HC1 := Aside0.mk hc1
 clear hr1 hc1
 have HB := Aside0.mk (Below.refl w.heap.size w)
 have H := h
 clear h
 unfold phi_PLCP.f at H
 obtain ⟨⟨t543, t544⟩, A3, H⟩ := bdS H
 try dsimp only at H
 have HC4 := Aside0.mk H
 clear H
 go_enter Try.func43, Try.ntmps43
 go_upto_region 2 with (first | ((with_reducible refine gate_callee (f := 63) rfl ?_); refine goesL_ (some 15) rfl rfl Try.func63 (by kernel_rfl) rfl #[.slice A1 l1.length c1] rfl aE ?_; (with_reducible refine (phi_Ahead.calls k _ _ l1 t543 t544 _ ?side1 ?side2 A3.out).mono ?_); (case side1 => exact uC HR1.out); (case side2 => exact HC1.out); rintro e w5 ⟨v545, rfl, ho0, hb⟩; refine ⟨_, rfl, ?_⟩; have n0_ := Aside0.mk (Kd.R_lower ho0 (below_size uB)); have n1_ := Aside0.mk (below_step uB hb); clear HB; have HO546 := n0_; have HB := n1_; clear n0_ n1_; (try clear hb); (try clear hb2); (try clear hk); (try clear hi); (try clear ho0)))
 (try simp only [Act.put, List.setIfInBounds_toArray, List.set_cons_zero, List.set_cons_succ])
 go_cut [26] (fun v26 wc => ∃ (kq : Nat) (x26_3 : Bool), v26 = .bool x26_3 ∧ Aside0 (phi_PLCP.j0 kq l0 l1 t543 x26_3 = some (r1, r2)) ∧ Aside0 (kq ≤ k) ∧ Aside0 (Kd.R (Kd.int .i64) 3 wc w.heap.size (fun _ => True) v545 t543) ∧ Aside0 (Below w.heap.size w wc))
 case first =>
  have H := HC4.out
  clear HC4
  by_cases c6 : t544 = true
  ·subst c6
   rw [if_pos rfl] at H
   have H' := Aside0.mk H
   clear H
   go_wp2
   go_meet
   case rel => exact ⟨_, (((l1.length : Int) != (l0.length : Int))), sD, H', ⟨by first | omega | exact Nat.le_refl _⟩, ⟨uR HO546.out⟩, ⟨uB⟩⟩
  ·replace c6 := Bool.eq_false_iff.mpr c6
   subst c6
   rw [if_neg (by decide)] at H
   have H' := Aside0.mk H
   clear H
   go_wp2
   go_meet
   case rel => exact ⟨_, (true), sD, H', ⟨by first | omega | exact Nat.le_refl _⟩, ⟨uR HO546.out⟩, ⟨uB⟩⟩
 case rest =>
  clear HC4
  try clear c1
  try clear p2
  try clear c4
  try clear c6
  obtain ⟨kq, x26_3, rfl, HA, HJ3, HO_6, HB⟩ := hcut
  cases kq with
  | zero => exact absurd HA.out (by simp [phi_PLCP.j0])
  | succ kj3 =>
   have H := HA.out
   clear HA
   simp only [phi_PLCP.j0] at H
   by_cases c7 : x26_3 = true
   ·subst c7
    rw [if_pos rfl] at H
    simp only [Option.some.injEq, Prod.mk.injEq] at H
    obtain ⟨rfl, rfl⟩ := H
    go_wp2
    go_ret2
    exact ⟨_, eR, nL, uB⟩
   ·replace c7 := Bool.eq_false_iff.mpr c7
    subst c7
    rw [if_neg (by decide)] at H
    obtain ⟨t547, A8, H⟩ := bdS H
    try dsimp only at H
    obtain ⟨c9b0, c9b1, H⟩ := ifE H
    obtain ⟨c10b0, c10b1, H⟩ := ifE H
    generalize hy548 : (List.replicate ((l1.length : Int) : Int).toNat 0 : List Int) = y548 at H
    try simp only [Option.bind_some] at H
    have Ny548 := Aside0.mk hy548.symm
    clear hy548
    have H' := Aside0.mk H
    clear H
    go_wp2_with (first | ((with_reducible refine gate_callee (f := 64) rfl ?_); refine goesL_ (some 29) rfl rfl Try.func64 (by kernel_rfl) rfl #[.slice A0 l0.length c0, .slice A1 l1.length c1] rfl aE ?_; (with_reducible refine (phi_falls.calls kj3 _ _ l0 _ _ l1 t547 _ ?side1 ?side2 ?side3 ?side4 A8.out).mono ?_); (case side1 => exact uC (Kd.C_below HR0.out HB.out)); (case side2 => exact HC0.out); (case side3 => exact uC (Kd.C_below HR1.out HB.out)); (case side4 => exact HC1.out); rintro e w11 ⟨rfl, hb⟩; refine ⟨_, rfl, ?_⟩; have n0_ := Aside0.mk (Kd.R_below (uR HO_6.out) hb); have n1_ := Aside0.mk (below_step uB hb); clear HO_6; clear HB; have HO_6 := n0_; have HB := n1_; clear n0_ n1_; (try clear hb); (try clear hb2); (try clear hk); (try clear hi)) | ((with_reducible refine gate_dst (N := 32) rfl ?_); (try (refine gate_guard (by rfl) ?_; dsimp only)); refine Kd.R_make (Kd.int .i64) _ 3 rfl (N := 32) rfl 23 _ _ rfl (l1.length : Int) rfl rfl Try.underlying23 (.int .i64 0) 8 info3 rfl (by decide) (by omega) 0 (ok := fun _ => True) (okp := fun _ => True) rfl (fun _ hk => hk) trivial dT (Nat.le_trans (Nat.mul_le_mul_right _ (dT : (l1.length : Int).toNat ≤ 35184372088832)) (by omega)) (Below.refl _ _) (Nat.le_refl _) ?_; intro v549 w12 ho13 hb hg_ hnew_; clear hg_ hnew_; (first | rw [← Ny548.out] at ho13 | (simp only [Int.reduceToNat] at ho13; rw [← Ny548.out] at ho13)); have n0_ := Aside0.mk (Kd.R_elder' (uR HO_6.out) (Kd.R_base ho13) hb); have n1_ := Aside0.mk (Kd.R_lower (Kd.R_new' ho13 (Kd.R_lt (uR HO_6.out))) (below_size uB)); have n2_ := Aside0.mk (below_step uB hb); clear HO_6; clear HB; have HO_6 := n0_; have HO550 := n1_; have HB := n2_; clear n0_ n1_ n2_; clear hb ho13; obtain ⟨Ao14, co14, eo14⟩ := Kd.R_slice HO_6.out; subst eo14))
    go_loopg [10, 35] kj3 (fun kq v10 v35 w' => ∃ (x9_2 : List Int) (x10_2 : Int) (x35_2 : Int), v10 = .int .i64 x10_2 ∧ v35 = .int .i64 x35_2 ∧ Aside0 (phi_PLCP.l0 kq l0 t547 x9_2 x10_2 t543 (t543.length : Int) x35_2 = some (r1, r2)) ∧ Aside0 (kq ≤ kj3) ∧ Aside0 (Kd.R (Kd.int .i64) 3 w' w.heap.size (fun k_ => some k_ ≠ ((.slice Ao14 t543.length co14) : Value).ownBlock) v549 x9_2) ∧ Aside0 (Kd.R (Kd.int .i64) 3 w' w.heap.size (fun k_ => some k_ ≠ (v549 : Value).ownBlock) (.slice Ao14 t543.length co14) t543) ∧ Aside0 (Below w.heap.size w w'))
    case atStart => exact ⟨(y548), (0), (0), sD, sD, H', ⟨Nat.le_refl _⟩, ⟨by (with_reducible repeat (first | apply Kd.R_alloc | apply Kd.R_drewN | apply Kd.R_drew)); exact Kd.R_mono HO550.out (fun _ hk => hk.2)⟩, ⟨by (with_reducible repeat (first | apply Kd.R_alloc | apply Kd.R_drewN | apply Kd.R_drew)); exact Kd.R_mono HO_6.out (fun _ hk => hk.2)⟩, ⟨uB⟩⟩
    case round =>
     clear H'
     try clear c1
     try clear p2
     try clear c4
     try clear c6
     try clear c7
     try clear c9
     try clear c9b0
     try clear c9b1
     try clear c10
     try clear c10b0
     try clear c10b1
     try clear p2
     obtain ⟨x9_2, x10_2, x35_2, rfl, rfl, HA, HK2, HO_9, HO_33, HB⟩ := hrel
     cases gk with
     | zero => exact absurd HA.out (by simp [phi_PLCP.l0])
     | succ k2 =>
      have H := HA.out
      clear HA
      simp only [phi_PLCP.l0] at H
      rcases ifC H with ⟨c15b0, H⟩ | ⟨c15b0, H⟩
      ·obtain ⟨c16b0, c17b0, H⟩ := ifD2 H
       obtain ⟨ji18, hji18⟩ : ∃ j_ : Int, (mx (wrap64 (x10_2 - 1)) 0) = j_ := ⟨_, rfl⟩
       first | rw [hji18] at H | simp only [hji18] at H
       have hji18_ : (if (wrap64 (x10_2 - 1)) < 0 then 0 else (wrap64 (x10_2 - 1))) = ji18 := hji18
       by_cases c19 : (rd t543 x35_2) = (-1)
       ·rw [if_pos c19] at H
        have c19b0 : ((rd t543 x35_2) == (-1)) = true := beq_iff_eq.mpr c19
        have c19b1 : ((rd t543 x35_2) != (-1)) = false := bne_eq_false_iff_eq.mpr c19
        clear c19
        obtain ⟨c20b0, H⟩ := ifD H
        generalize hy552 : (x9_2.set (x35_2 : Int).toNat 0 : List Int) = y552 at H
        try simp only [Option.bind_some] at H
        have Ny552 := Aside0.mk hy552.symm
        clear hy552
        have H' := Aside0.mk H
        clear H
        obtain ⟨ad551, e551, hx551_0, p551, q551⟩ := rI (Kd.R_reads' HO_33.out).2.2 x35_2
        cases e551
        have p21 : 0 ≤ (x35_2 : Int) := dT
        have q21 : (x35_2 : Int) < ((x9_2.length : Int) : Int) := dT
        obtain ⟨go21, co21, eo21, gb21, gl21, cl21, HG21⟩ := Kd.R_form HO_9.out (by omega)
        (first | cases eo21 | (injection eo21 with ea_ en_ ec_; (first | subst ea_ | (injection ea_ with ea_; subst ea_)); subst ec_; clear en_))
        have GB21 := Aside0.mk gb21
        have GG21 := Aside0.mk HG21
        clear gb21 gl21 HG21
        obtain ⟨hx21_0, hf21_0⟩ := Kd.R_celln 0 HO_9.out (x35_2 : Int) p21 q21
        replace p21 := eq_true p21
        replace q21 := eq_true q21
        have HP22 := Kd.R_putg HO_9.out (x35_2 : Int) 0
        go_wp2_with (first | ((with_reducible refine gate_store (t := 3) (p := 65) rfl ?_); refine store_event (t := 3) (p := 65) (v := ?vo_w23) (w1 := (wr.setCell ⟨go21, (x35_2 : Int).toNat, none⟩ (.int .i64 0))) ?hg ?ho ?hn ?hr ?_; (case ho => rfl); (case hg => rfl); (case hn => rfl); (case hr => first | (go_simp; done) | (go_simp; rfl)); intro w23 hw; have hg : wr.grownBy w23 (some go21) := (by rw [hw]; exact HP22.2); have hp_ : Kd.R (Kd.int .i64) 3 w23 w.heap.size (fun k_ => some k_ ≠ (.slice (some ad551) t543.length co14 : Value).ownBlock) (.slice (some ⟨go21, 0, none⟩) x9_2.length co21) y552 := (by rw [hw, Ny552.out]; exact HP22.1); clear HP22; have n0_ := Aside0.mk (hp_); have n1_ := Aside0.mk (Kd.R_after (v := (.slice (some ⟨go21, 0, none⟩) x9_2.length co21)) (v1 := (.slice (some ⟨go21, 0, none⟩) x9_2.length co21)) (ok := (fun _ => True)) (by (with_reducible repeat (first | apply Kd.R_alloc | apply Kd.R_drewN | apply Kd.R_drew)); exact Kd.R_mono HO_33.out (fun _ hk => ⟨trivial, hk⟩)) hg (.inl rfl)); have n2_ := Aside0.mk ((by rw [hw]; exact below_set (HB.out) GB21.out : Below w.heap.size w w23)); clear HO_9; clear HO_33; clear HB; have HO_9 := n0_; have HO_33 := n1_; have HB := n2_; clear n0_ n1_ n2_; clear hg hw hp_))
        go_roundg k2
        case measure => have := HJ3.out; have := HK2.out; omega
        case rel => exact ⟨(y552), (0), (wrap64 (x35_2 + 1)), sD, sD, H', ⟨by have := HJ3.out; have := HK2.out; omega⟩, ⟨uR HO_9.out⟩, ⟨by (with_reducible repeat (first | apply Kd.R_alloc | apply Kd.R_drewN | apply Kd.R_drew)); exact Kd.R_mono HO_33.out (fun _ hk => hk.2)⟩, ⟨uB⟩⟩
       ·rw [if_neg c19] at H
        have c19b0 : ((rd t543 x35_2) == (-1)) = false := beq_eq_false_iff_ne.mpr c19
        have c19b1 : ((rd t543 x35_2) != (-1)) = true := bne_iff_ne.mpr c19
        by_cases c24 : t547 = true
        ·subst c24
         rw [if_pos rfl] at H
         obtain ⟨t553, A25, H⟩ := bdS H
         try dsimp only at H
         obtain ⟨c26b0, H⟩ := ifD H
         generalize hy554 : (x9_2.set (x35_2 : Int).toNat (wrap64 ((ji18) + t553)) : List Int) = y554 at H
         try simp only [Option.bind_some] at H
         have Ny554 := Aside0.mk hy554.symm
         clear hy554
         have H' := Aside0.mk H
         clear H
         obtain ⟨ad551, e551, hx551_0, p551, q551⟩ := rI (Kd.R_reads' HO_33.out).2.2 x35_2
         cases e551
         go_wp2_with (first | ((with_reducible refine gate_callee (f := 42) rfl ?_); refine goesL_ (some 60) rfl rfl Try.func42 (by kernel_rfl) rfl #[.slice A0 l0.length c0, .int .i64 (wrap64 (x35_2 + (ji18))), .int .i64 (wrap64 ((rd t543 x35_2) + (ji18)))] rfl (by (try simp only [List.map_toArray, List.map_cons, List.map_nil]); first | done | (simp only [hji18]; rfl) | rfl | (simp only [List.length_drop, List.length_take]; rfl)) ?_; (with_reducible refine (lex_Common.calls k2 _ _ l0 (wrap64 (x35_2 + (ji18))) (wrap64 ((rd t543 x35_2) + (ji18))) t553 _ ?side1 ?side2 A25.out).mono ?_); (case side1 => exact uC (Kd.C_below HR0.out HB.out)); (case side2 => exact HC0.out); rintro e w28 ⟨rfl, hb⟩; refine ⟨_, rfl, ?_⟩; have n0_ := Aside0.mk (Kd.R_below (uR HO_9.out) hb); have n1_ := Aside0.mk (Kd.R_below (uR HO_33.out) hb); have n2_ := Aside0.mk (below_step uB hb); clear HO_9; clear HO_33; clear HB; have HO_9 := n0_; have HO_33 := n1_; have HB := n2_; clear n0_ n1_ n2_; (try clear hb); (try clear hb2); (try clear hk); (try clear hi); have p27 : 0 ≤ (x35_2 : Int) := dT; have q27 : (x35_2 : Int) < ((x9_2.length : Int) : Int) := dT; obtain ⟨go27, co27, eo27, gb27, gl27, cl27, HG27⟩ := Kd.R_form HO_9.out (by omega); (first | cases eo27 | (injection eo27 with ea_ en_ ec_; (first | subst ea_ | (injection ea_ with ea_; subst ea_)); subst ec_; clear en_)); have GB27 := Aside0.mk gb27; have GG27 := Aside0.mk HG27; clear gb27 gl27 HG27; obtain ⟨hx27_0, hf27_0⟩ := Kd.R_celln 0 HO_9.out (x35_2 : Int) p27 q27; replace p27 := eq_true p27; replace q27 := eq_true q27; obtain ⟨hy29_, hz29_⟩ := Kd.R_celln 0 HO_9.out (x35_2 : Int) dT dT; have HP29 := Kd.R_putg HO_9.out (x35_2 : Int) (wrap64 ((ji18) + t553))) | ((with_reducible refine gate_store (t := 3) (p := 65) rfl ?_); refine store_event (t := 3) (p := 65) (v := ?vo_w30) (w1 := (w28.setCell ⟨go27, (x35_2 : Int).toNat, none⟩ (.int .i64 (wrap64 ((ji18) + t553))))) ?hg ?ho ?hn ?hr ?_; (case ho => rfl); (case hg => rfl); (case hn => rfl); (case hr => first | (go_simp; done) | (go_simp; rfl)); intro w30 hw; have hg : w28.grownBy w30 (some go27) := (by rw [hw]; exact HP29.2); have hp_ : Kd.R (Kd.int .i64) 3 w30 w.heap.size (fun k_ => some k_ ≠ (.slice (some ad551) t543.length co14 : Value).ownBlock) (.slice (some ⟨go27, 0, none⟩) x9_2.length co27) y554 := (by rw [hw, Ny554.out]; exact HP29.1); clear HP29; have n0_ := Aside0.mk (hp_); have n1_ := Aside0.mk (Kd.R_after (v := (.slice (some ⟨go27, 0, none⟩) x9_2.length co27)) (v1 := (.slice (some ⟨go27, 0, none⟩) x9_2.length co27)) (ok := (fun _ => True)) (by (with_reducible repeat (first | apply Kd.R_alloc | apply Kd.R_drewN | apply Kd.R_drew)); exact Kd.R_mono HO_33.out (fun _ hk => ⟨trivial, hk⟩)) hg (.inl rfl)); have n2_ := Aside0.mk ((by rw [hw]; exact below_set (HB.out) GB27.out : Below w.heap.size w w30)); clear HO_9; clear HO_33; clear HB; have HO_9 := n0_; have HO_33 := n1_; have HB := n2_; clear n0_ n1_ n2_; clear hg hw hp_))
         go_roundg k2
         case measure => have := HJ3.out; have := HK2.out; omega
         case rel => exact ⟨(y554), (wrap64 ((ji18) + t553)), (wrap64 (x35_2 + 1)), (by first | rfl | (simp; done) | (simp only [← hji18] <;> (first | rfl | simp)) | (simp [*]; done)), sD, H', ⟨by have := HJ3.out; have := HK2.out; omega⟩, ⟨uR HO_9.out⟩, ⟨by (with_reducible repeat (first | apply Kd.R_alloc | apply Kd.R_drewN | apply Kd.R_drew)); exact Kd.R_mono HO_33.out (fun _ hk => hk.2)⟩, ⟨uB⟩⟩
        ·replace c24 := Bool.eq_false_iff.mpr c24
         subst c24
         rw [if_neg (by decide)] at H
         obtain ⟨t555, A31, H⟩ := bdS H
         try dsimp only at H
         obtain ⟨c32b0, H⟩ := ifD H
         generalize hy556 : (x9_2.set (x35_2 : Int).toNat t555 : List Int) = y556 at H
         try simp only [Option.bind_some] at H
         have Ny556 := Aside0.mk hy556.symm
         clear hy556
         have H' := Aside0.mk H
         clear H
         obtain ⟨ad551, e551, hx551_0, p551, q551⟩ := rI (Kd.R_reads' HO_33.out).2.2 x35_2
         cases e551
         go_wp2_with (first | ((with_reducible refine gate_callee (f := 42) rfl ?_); refine goesL_ (some 46) rfl rfl Try.func42 (by kernel_rfl) rfl #[.slice A0 l0.length c0, .int .i64 x35_2, .int .i64 (rd t543 x35_2)] rfl aE ?_; (with_reducible refine (lex_Common.calls k2 _ _ l0 x35_2 (rd t543 x35_2) t555 _ ?side1 ?side2 A31.out).mono ?_); (case side1 => exact uC (Kd.C_below HR0.out HB.out)); (case side2 => exact HC0.out); rintro e w34 ⟨rfl, hb⟩; refine ⟨_, rfl, ?_⟩; have n0_ := Aside0.mk (Kd.R_below (uR HO_9.out) hb); have n1_ := Aside0.mk (Kd.R_below (uR HO_33.out) hb); have n2_ := Aside0.mk (below_step uB hb); clear HO_9; clear HO_33; clear HB; have HO_9 := n0_; have HO_33 := n1_; have HB := n2_; clear n0_ n1_ n2_; (try clear hb); (try clear hb2); (try clear hk); (try clear hi); have p33 : 0 ≤ (x35_2 : Int) := dT; have q33 : (x35_2 : Int) < ((x9_2.length : Int) : Int) := dT; obtain ⟨go33, co33, eo33, gb33, gl33, cl33, HG33⟩ := Kd.R_form HO_9.out (by omega); (first | cases eo33 | (injection eo33 with ea_ en_ ec_; (first | subst ea_ | (injection ea_ with ea_; subst ea_)); subst ec_; clear en_)); have GB33 := Aside0.mk gb33; have GG33 := Aside0.mk HG33; clear gb33 gl33 HG33; obtain ⟨hx33_0, hf33_0⟩ := Kd.R_celln 0 HO_9.out (x35_2 : Int) p33 q33; replace p33 := eq_true p33; replace q33 := eq_true q33; obtain ⟨hy35_, hz35_⟩ := Kd.R_celln 0 HO_9.out (x35_2 : Int) dT dT; have HP35 := Kd.R_putg HO_9.out (x35_2 : Int) t555) | ((with_reducible refine gate_store (t := 3) (p := 65) rfl ?_); refine store_event (t := 3) (p := 65) (v := ?vo_w36) (w1 := (w34.setCell ⟨go33, (x35_2 : Int).toNat, none⟩ (.int .i64 t555))) ?hg ?ho ?hn ?hr ?_; (case ho => rfl); (case hg => rfl); (case hn => rfl); (case hr => first | (go_simp; done) | (go_simp; rfl)); intro w36 hw; have hg : w34.grownBy w36 (some go33) := (by rw [hw]; exact HP35.2); have hp_ : Kd.R (Kd.int .i64) 3 w36 w.heap.size (fun k_ => some k_ ≠ (.slice (some ad551) t543.length co14 : Value).ownBlock) (.slice (some ⟨go33, 0, none⟩) x9_2.length co33) y556 := (by rw [hw, Ny556.out]; exact HP35.1); clear HP35; have n0_ := Aside0.mk (hp_); have n1_ := Aside0.mk (Kd.R_after (v := (.slice (some ⟨go33, 0, none⟩) x9_2.length co33)) (v1 := (.slice (some ⟨go33, 0, none⟩) x9_2.length co33)) (ok := (fun _ => True)) (by (with_reducible repeat (first | apply Kd.R_alloc | apply Kd.R_drewN | apply Kd.R_drew)); exact Kd.R_mono HO_33.out (fun _ hk => ⟨trivial, hk⟩)) hg (.inl rfl)); have n2_ := Aside0.mk ((by rw [hw]; exact below_set (HB.out) GB33.out : Below w.heap.size w w36)); clear HO_9; clear HO_33; clear HB; have HO_9 := n0_; have HO_33 := n1_; have HB := n2_; clear n0_ n1_ n2_; clear hg hw hp_))
         go_roundg k2
         case measure => have := HJ3.out; have := HK2.out; omega
         case rel => exact ⟨(y556), (t555), (wrap64 (x35_2 + 1)), sD, sD, H', ⟨by have := HJ3.out; have := HK2.out; omega⟩, ⟨uR HO_9.out⟩, ⟨by (with_reducible repeat (first | apply Kd.R_alloc | apply Kd.R_drewN | apply Kd.R_drew)); exact Kd.R_mono HO_33.out (fun _ hk => hk.2)⟩, ⟨uB⟩⟩
      ·simp only [Option.some.injEq, Prod.mk.injEq] at H
       obtain ⟨rfl, rfl⟩ := H
       go_wp2
       go_ret2
       exact ⟨_, eR, by (with_reducible repeat (first | apply Kd.R_alloc | apply Kd.R_drewN | apply Kd.R_drew)); exact Kd.R_mono HO_9.out (fun _ hk => trivial), uB⟩
end Go.Proofs.Ytbbpplnnegdenaa.PTopThree
end
section
namespace Go.Proofs.Ytbbpplnnegdenaa.PTopThree
open Go.RowKit Go.Proofs.YtbbpplnnegdenaaW.PrintWords Go.Proofs.YtbbpplnnegdenaaW.PrintLast Go.Proofs.YtbbpplnnegdenaaW.PrintMore
attribute [local go_sem] max2_int min2_int max_two min_two max_three min_three max_four min_four
set_option linter.unusedVariables false
set_option linter.unusedSimpArgs false
def phi_LCP.l0 : Nat → List Int → List Int → List Int → Int → Int → Option (List Int × Bool)
  | 0, _, _, _, _, _ => none
  | k + 1, x6, x8, x22, x23, x24 => if x24 < x23 then (if 0 ≤ x24 then (if x24 < (x22.length : Int) then (if 0 ≤ (rd x22 x24) then (if (rd x22 x24) < (x6.length : Int) then (if x24 < (x8.length : Int) then (phi_LCP.l0 k x6 (x8.set (x24 : Int).toNat (rd x6 (rd x22 x24))) x22 x23 (wrap64 (x24 + 1))) else (none)) else (none)) else (none)) else (none)) else (none)) else (some (x8, true))
def phi_LCP.f (k : Nat) (l0 : List Int) (l1 : List Int) : Option (List Int × Bool) := (phi_PLCP.f k l0 l1).bind fun bt557 => (if bt557.2 = true then (if 0 ≤ (l1.length : Int) then (if ((l1.length : Int) : Int).toNat ≤ 35184372088832 then (phi_LCP.l0 k bt557.1 (List.replicate ((l1.length : Int) : Int).toNat 0) l1 (l1.length : Int) 0) else (none)) else (none)) else (some (([] : List Int), false)))
theorem phi_LCP.mono_l : ∀ k, (∀ y0 y1 y2 y3 y4, LeO (phi_LCP.l0 k y0 y1 y2 y3 y4) (phi_LCP.l0 (k + 1) y0 y1 y2 y3 y4))
  | 0 => fun _ _ _ _ _ r h => by simp [phi_LCP.l0] at h
  | k + 1 => by
    have ih0 := phi_LCP.mono_l k
    · intro y0 y1 y2 y3 y4
      unfold phi_LCP.l0
      have m0 := @phi_PLCP.mono
      exact mB
theorem phi_LCP.mono : ∀ a0 a1 k, LeO (phi_LCP.f k a0 a1) (phi_LCP.f (k + 1) a0 a1) := by
  intro a0 a1 k
  have ih0 := phi_LCP.mono_l k
  unfold phi_LCP.f
  have m0 := @phi_PLCP.mono
  exact mB
set_option maxHeartbeats 8000000 in
set_option maxRecDepth 100000 in
theorem phi_LCP.calls (k : Nat) (A0 : Option Addr) (c0 : Nat) (l0 : List Int) (A1 : Option Addr) (c1 : Nat) (l1 : List Int) (r1 : List Int) (r2 : Bool) (w : World) (hr0 : Kd.C (Kd.int .u8) w A0 l0.length l0) (hc0 : l0.length ≤ c0) (hr1 : Kd.C (Kd.int .i64) w A1 l1.length l1) (hc1 : l1.length ≤ c1) (h : phi_LCP.f k l0 l1 = some (r1, r2)) :
    Calls Try.prog 24 #[.slice A0 l0.length c0, .slice A1 l1.length c1] w fun e w' => ∃ v0_ : Value, e = .returned (.tuple #[v0_, .bool r2]) ∧ Kd.R (Kd.int .i64) 3 w' w.heap.size (fun _ => True) v0_ r1 ∧ Below w.heap.size w w' := by
 have HR0 := Aside0.mk hr0
 have HC0 := Aside0.mk hc0
 clear hr0 hc0
 have HR1 := Aside0.mk hr1
 have HC1 := Aside0.mk hc1
 clear hr1 hc1
 have HB := Aside0.mk (Below.refl w.heap.size w)
 have H := h
 clear h
 unfold phi_LCP.f at H
 obtain ⟨⟨t557, t558⟩, A3, H⟩ := bdS H
 try dsimp only at H
 by_cases c4 : t558 = true
 ·subst c4
  rw [if_pos rfl] at H
  obtain ⟨c5b0, c5b1, H⟩ := ifE H
  obtain ⟨c6b0, c6b1, H⟩ := ifE H
  generalize hy561 : (List.replicate ((l1.length : Int) : Int).toNat 0 : List Int) = y561 at H
  try simp only [Option.bind_some] at H
  have Ny561 := Aside0.mk hy561.symm
  clear hy561
  have H' := Aside0.mk H
  clear H
  go_enter Try.func24, Try.ntmps24
  go_wp2_with (first | ((with_reducible refine gate_callee (f := 43) rfl ?_); refine goesL_ (some 14) rfl rfl Try.func43 (by kernel_rfl) rfl #[.slice A0 l0.length c0, .slice A1 l1.length c1] rfl aE ?_; (with_reducible refine (phi_PLCP.calls k _ _ l0 _ _ l1 t557 true _ ?side1 ?side2 ?side3 ?side4 A3.out).mono ?_); (case side1 => exact uC HR0.out); (case side2 => exact HC0.out); (case side3 => exact uC HR1.out); (case side4 => exact HC1.out); rintro e w7 ⟨v559, rfl, ho0, hb⟩; refine ⟨_, rfl, ?_⟩; have n0_ := Aside0.mk (Kd.R_lower ho0 (below_size uB)); have n1_ := Aside0.mk (below_step uB hb); clear HB; have HO560 := n0_; have HB := n1_; clear n0_ n1_; (try clear hb); (try clear hb2); (try clear hk); (try clear hi); (try clear ho0)) | ((with_reducible refine gate_dst (N := 21) rfl ?_); refine Kd.R_make (Kd.int .i64) _ 3 rfl (N := 21) rfl 23 _ _ rfl (l1.length : Int) rfl rfl Try.underlying23 (.int .i64 0) 8 info3 rfl (by decide) (by omega) 0 (ok := fun _ => True) (okp := fun _ => True) rfl (fun _ hk => hk) trivial dT (Nat.le_trans (Nat.mul_le_mul_right _ (dT : (l1.length : Int).toNat ≤ 35184372088832)) (by omega)) (Below.refl _ _) (Nat.le_refl _) ?_; intro v562 w8 ho9 hb hg_ hnew_; clear hg_ hnew_; (first | rw [← Ny561.out] at ho9 | (simp only [Int.reduceToNat] at ho9; rw [← Ny561.out] at ho9)); have n0_ := Aside0.mk (Kd.R_elder' (uR HO560.out) (Kd.R_base ho9) hb); have n1_ := Aside0.mk (Kd.R_lower (Kd.R_new' ho9 (Kd.R_lt (uR HO560.out))) (below_size uB)); have n2_ := Aside0.mk (below_step uB hb); clear HO560; clear HB; have HO560 := n0_; have HO563 := n1_; have HB := n2_; clear n0_ n1_ n2_; clear hb ho9))
  go_loopg [24] k (fun kq v24 w' => ∃ (x8_1 : List Int) (x24_1 : Int), v24 = .int .i64 x24_1 ∧ Aside0 (phi_LCP.l0 kq t557 x8_1 l1 (l1.length : Int) x24_1 = some (r1, r2)) ∧ Aside0 (kq ≤ k) ∧ Aside0 (Kd.R (Kd.int .i64) 3 w' w.heap.size (fun k_ => some k_ ≠ (v562 : Value).ownBlock) v559 t557) ∧ Aside0 (Kd.R (Kd.int .i64) 3 w' w.heap.size (fun k_ => some k_ ≠ (v559 : Value).ownBlock) v562 x8_1) ∧ Aside0 (Below w.heap.size w w'))
  case atStart => exact ⟨(y561), (0), sD, H', ⟨Nat.le_refl _⟩, ⟨by (with_reducible repeat (first | apply Kd.R_alloc | apply Kd.R_drewN | apply Kd.R_drew)); exact Kd.R_mono HO560.out (fun _ hk => hk.2)⟩, ⟨by (with_reducible repeat (first | apply Kd.R_alloc | apply Kd.R_drewN | apply Kd.R_drew)); exact Kd.R_mono HO563.out (fun _ hk => hk.2)⟩, ⟨uB⟩⟩
  case round =>
   clear H'
   try clear c1
   try clear c2
   try clear p2
   try clear c4
   try clear c5
   try clear c5b0
   try clear c5b1
   try clear c6
   try clear c6b0
   try clear c6b1
   obtain ⟨x8_1, x24_1, rfl, HA, HK1, HO_6, HO_8, HB⟩ := hrel
   cases gk with
   | zero => exact absurd HA.out (by simp [phi_LCP.l0])
   | succ k1 =>
    have H := HA.out
    clear HA
    simp only [phi_LCP.l0] at H
    rcases ifC H with ⟨c10b0, H⟩ | ⟨c10b0, H⟩
    ·obtain ⟨c11b0, H⟩ := ifD H
     obtain ⟨c12b0, c13b0, H⟩ := ifD2 H
     obtain ⟨c14b0, c15b0, H⟩ := ifD2 H
     generalize hy566 : (x8_1.set (x24_1 : Int).toNat (rd t557 (rd l1 x24_1)) : List Int) = y566 at H
     try simp only [Option.bind_some] at H
     have Ny566 := Aside0.mk hy566.symm
     clear hy566
     have H' := Aside0.mk H
     clear H
     obtain ⟨ad564, e564, hx564_0, p564, q564⟩ := rIO HB.out HR1.out x24_1
     cases e564
     obtain ⟨Ao17, co17, eo17⟩ := Kd.R_slice HO_6.out
     subst eo17
     obtain ⟨ad565, e565, hx565_0, p565, q565⟩ := rI (Kd.R_reads' HO_6.out).2.2 (rd l1 x24_1)
     cases e565
     have p16 : 0 ≤ (x24_1 : Int) := dT
     have q16 : (x24_1 : Int) < ((x8_1.length : Int) : Int) := dT
     obtain ⟨go16, co16, eo16, gb16, gl16, cl16, HG16⟩ := Kd.R_form HO_8.out (by omega)
     (first | cases eo16 | (injection eo16 with ea_ en_ ec_; (first | subst ea_ | (injection ea_ with ea_; subst ea_)); subst ec_; clear en_))
     have GB16 := Aside0.mk gb16
     have GG16 := Aside0.mk HG16
     clear gb16 gl16 HG16
     obtain ⟨hx16_0, hf16_0⟩ := Kd.R_celln 0 HO_8.out (x24_1 : Int) p16 q16
     replace p16 := eq_true p16
     replace q16 := eq_true q16
     have HP18 := Kd.R_putg HO_8.out (x24_1 : Int) (rd t557 (rd l1 x24_1))
     go_wp2_with (first | ((with_reducible refine gate_store (t := 3) (p := 35) rfl ?_); refine store_event (t := 3) (p := 35) (v := ?vo_w19) (w1 := (wr.setCell ⟨go16, (x24_1 : Int).toNat, none⟩ (.int .i64 (rd t557 (rd l1 x24_1))))) ?hg ?ho ?hn ?hr ?_; (case ho => rfl); (case hg => rfl); (case hn => rfl); (case hr => first | (go_simp; done) | (go_simp; rfl)); intro w19 hw; have hg : wr.grownBy w19 (some go16) := (by rw [hw]; exact HP18.2); have hp_ : Kd.R (Kd.int .i64) 3 w19 w.heap.size (fun k_ => some k_ ≠ (.slice (some ad565) t557.length co17 : Value).ownBlock) (.slice (some ⟨go16, 0, none⟩) x8_1.length co16) y566 := (by rw [hw, Ny566.out]; exact HP18.1); clear HP18; have n0_ := Aside0.mk (Kd.R_after (v := (.slice (some ⟨go16, 0, none⟩) x8_1.length co16)) (v1 := (.slice (some ⟨go16, 0, none⟩) x8_1.length co16)) (ok := (fun _ => True)) (by (with_reducible repeat (first | apply Kd.R_alloc | apply Kd.R_drewN | apply Kd.R_drew)); exact Kd.R_mono HO_6.out (fun _ hk => ⟨trivial, hk⟩)) hg (.inl rfl)); have n1_ := Aside0.mk (hp_); have n2_ := Aside0.mk ((by rw [hw]; exact below_set (HB.out) GB16.out : Below w.heap.size w w19)); clear HO_6; clear HO_8; clear HB; have HO_6 := n0_; have HO_8 := n1_; have HB := n2_; clear n0_ n1_ n2_; clear hg hw hp_))
     go_roundg k1
     case measure => have := HK1.out; omega
     case rel => exact ⟨(y566), (wrap64 (x24_1 + 1)), sD, H', ⟨by have := HK1.out; omega⟩, ⟨by (with_reducible repeat (first | apply Kd.R_alloc | apply Kd.R_drewN | apply Kd.R_drew)); exact Kd.R_mono HO_6.out (fun _ hk => hk.2)⟩, ⟨uR HO_8.out⟩, ⟨uB⟩⟩
    ·simp only [Option.some.injEq, Prod.mk.injEq] at H
     obtain ⟨rfl, rfl⟩ := H
     go_wp2
     go_ret2
     exact ⟨_, eR, by (with_reducible repeat (first | apply Kd.R_alloc | apply Kd.R_drewN | apply Kd.R_drew)); exact Kd.R_mono HO_8.out (fun _ hk => trivial), uB⟩
 ·replace c4 := Bool.eq_false_iff.mpr c4
  subst c4
  rw [if_neg (by decide)] at H
  simp only [Option.some.injEq, Prod.mk.injEq] at H
  obtain ⟨rfl, rfl⟩ := H
  go_enter Try.func24, Try.ntmps24
  go_wp2_with (first | ((with_reducible refine gate_callee (f := 43) rfl ?_); refine goesL_ (some 14) rfl rfl Try.func43 (by kernel_rfl) rfl #[.slice A0 l0.length c0, .slice A1 l1.length c1] rfl aE ?_; (with_reducible refine (phi_PLCP.calls k _ _ l0 _ _ l1 t557 false _ ?side1 ?side2 ?side3 ?side4 A3.out).mono ?_); (case side1 => exact uC HR0.out); (case side2 => exact HC0.out); (case side3 => exact uC HR1.out); (case side4 => exact HC1.out); rintro e w20 ⟨v559, rfl, ho0, hb⟩; refine ⟨_, rfl, ?_⟩; have n0_ := Aside0.mk (Kd.R_lower ho0 (below_size uB)); have n1_ := Aside0.mk (below_step uB hb); clear HB; have HO560 := n0_; have HB := n1_; clear n0_ n1_; (try clear hb); (try clear hb2); (try clear hk); (try clear hi); (try clear ho0)))
  go_ret2
  exact ⟨_, eR, nL, uB⟩
mutual
def check_SA.j0 : Nat → List Int → List Int → List Int → Bool → Option (Bool)
  | 0, _, _, _, _ => none
  | k + 1, x0, x1, x5, x23 => if x23 = true then (some false) else (if x5.length < 17592186044416 then (check_SA.l0 k x0 x1 (x5 ++ [(-1)]) 1) else (none))
def check_SA.l0 : Nat → List Int → List Int → List Int → Int → Option (Bool)
  | 0, _, _, _, _ => none
  | k + 1, x0, x1, x5, x7 => if x7 < (x1.length : Int) then (if 0 ≤ (wrap64 (x7 - 1)) then (if (wrap64 (x7 - 1)) < (x1.length : Int) then (if 0 ≤ x7 then (if 0 ≤ (rd x1 (wrap64 (x7 - 1))) then (if (rd x1 (wrap64 (x7 - 1))) < (x0.length : Int) then (if 0 ≤ (rd x1 x7) then (if (rd x1 x7) < (x0.length : Int) then (if (rd x0 (rd x1 (wrap64 (x7 - 1)))) > (rd x0 (rd x1 x7)) then (some false) else (if (rd x0 (rd x1 (wrap64 (x7 - 1)))) = (rd x0 (rd x1 x7)) then (if 0 ≤ (wrap64 ((rd x1 (wrap64 (x7 - 1))) + 1)) then (if (wrap64 ((rd x1 (wrap64 (x7 - 1))) + 1)) < (x5.length : Int) then (if 0 ≤ (wrap64 ((rd x1 x7) + 1)) then (if (wrap64 ((rd x1 x7) + 1)) < (x5.length : Int) then (if (rd x5 (wrap64 ((rd x1 (wrap64 (x7 - 1))) + 1))) > (rd x5 (wrap64 ((rd x1 x7) + 1))) then (some false) else (check_SA.l0 k x0 x1 x5 (wrap64 (x7 + 1)))) else (none)) else (none)) else (none)) else (none)) else (check_SA.l0 k x0 x1 x5 (wrap64 (x7 + 1))))) else (none)) else (none)) else (none)) else (none)) else (none)) else (none)) else (none)) else (some true)
end
def check_SA.f (k : Nat) (l0 : List Int) (l1 : List Int) : Option (Bool) := (rank_Inverse.f k l1).bind fun bt567 => (if bt567.2 = true then (check_SA.j0 k l0 l1 bt567.1 ((l1.length : Int) != (l0.length : Int))) else (check_SA.j0 k l0 l1 bt567.1 true))
theorem check_SA.mono_l : ∀ k, (∀ y0 y1 y2 y3, LeO (check_SA.j0 k y0 y1 y2 y3) (check_SA.j0 (k + 1) y0 y1 y2 y3)) ∧ (∀ y0 y1 y2 y3, LeO (check_SA.l0 k y0 y1 y2 y3) (check_SA.l0 (k + 1) y0 y1 y2 y3))
  | 0 => ⟨fun _ _ _ _ r h => by simp [check_SA.j0] at h, fun _ _ _ _ r h => by simp [check_SA.l0] at h⟩
  | k + 1 => by
    obtain ⟨ih0, ih1⟩ := check_SA.mono_l k
    refine ⟨?_, ?_⟩
    · intro y0 y1 y2 y3
      unfold check_SA.j0
      have m0 := @rank_Inverse.mono
      exact mB
    · intro y0 y1 y2 y3
      unfold check_SA.l0
      have m0 := @rank_Inverse.mono
      exact mB
theorem check_SA.mono : ∀ a0 a1 k, LeO (check_SA.f k a0 a1) (check_SA.f (k + 1) a0 a1) := by
  intro a0 a1 k
  obtain ⟨ih0, ih1⟩ := check_SA.mono_l k
  unfold check_SA.f
  have m0 := @rank_Inverse.mono
  exact mB
set_option maxHeartbeats 8000000 in
set_option maxRecDepth 100000 in
theorem check_SA.calls (k : Nat) (A0 : Option Addr) (c0 : Nat) (l0 : List Int) (A1 : Option Addr) (c1 : Nat) (l1 : List Int) (r : Bool) (w : World) (hr0 : Kd.C (Kd.int .u8) w A0 l0.length l0) (hc0 : l0.length ≤ c0) (hr1 : Kd.C (Kd.int .i64) w A1 l1.length l1) (hc1 : l1.length ≤ c1) (h : check_SA.f k l0 l1 = some r) :
    Calls Try.prog 44 #[.slice A0 l0.length c0, .slice A1 l1.length c1] w fun e w' => e = .returned (.bool r) ∧ Below w.heap.size w w' := by
 have HR0 := Aside0.mk hr0
 have HC0 := Aside0.mk hc0
 clear hr0 hc0
 have HR1 := Aside0.mk hr1
 have HC1 := Aside0.mk hc1
 clear hr1 hc1
 have HB := Aside0.mk (Below.refl w.heap.size w)
 have H := h
 clear h
 unfold check_SA.f at H
 obtain ⟨⟨t567, t568⟩, A3, H⟩ := bdS H
 try dsimp only at H
 have HC4 := Aside0.mk H
 clear H
 go_enter Try.func44, Try.ntmps44
 go_upto_region 2 with (first | (go_at_call 39; (with_reducible refine (rank_Inverse.calls k _ _ l1 t567 t568 _ ?side1 ?side2 A3.out).mono ?_); (case side1 => exact uC HR1.out); (case side2 => exact HC1.out); rintro e w5 ⟨v569, rfl, ho0, hb⟩; have n0_ := Aside0.mk (Kd.R_lower ho0 (below_size uB)); have n1_ := Aside0.mk (below_step uB hb); clear HB; have HO570 := n0_; have HB := n1_; clear n0_ n1_; (try clear hb); (try clear hb2); (try clear hk); (try clear hi); (try clear ho0)))
 repeat (go_quiet (first | (go_at_call 39; (with_reducible refine (rank_Inverse.calls k _ _ l1 t567 t568 _ ?side1 ?side2 A3.out).mono ?_); (case side1 => exact uC HR1.out); (case side2 => exact HC1.out); rintro e w5 ⟨v569, rfl, ho0, hb⟩; have n0_ := Aside0.mk (Kd.R_lower ho0 (below_size uB)); have n1_ := Aside0.mk (below_step uB hb); clear HB; have HO570 := n0_; have HB := n1_; clear n0_ n1_; (try clear hb); (try clear hb2); (try clear hk); (try clear hi); (try clear ho0))); go_upto_region 2 with (first | (go_at_call 39; (with_reducible refine (rank_Inverse.calls k _ _ l1 t567 t568 _ ?side1 ?side2 A3.out).mono ?_); (case side1 => exact uC HR1.out); (case side2 => exact HC1.out); rintro e w5 ⟨v569, rfl, ho0, hb⟩; have n0_ := Aside0.mk (Kd.R_lower ho0 (below_size uB)); have n1_ := Aside0.mk (below_step uB hb); clear HB; have HO570 := n0_; have HB := n1_; clear n0_ n1_; (try clear hb); (try clear hb2); (try clear hk); (try clear hi); (try clear ho0))))
 (try simp only [Act.put, List.setIfInBounds_toArray, List.set_cons_zero, List.set_cons_succ])
 go_cut [23] (fun v23 wc => ∃ (kq : Nat) (x23_3 : Bool), v23 = .bool x23_3 ∧ Aside0 (check_SA.j0 kq l0 l1 t567 x23_3 = some r) ∧ Aside0 (kq ≤ k) ∧ Aside0 (Kd.R (Kd.int .i64) 3 wc w.heap.size (fun _ => True) v569 t567) ∧ Aside0 (Below w.heap.size w wc))
 case first =>
  have H := HC4.out
  clear HC4
  by_cases c6 : t568 = true
  ·subst c6
   rw [if_pos rfl] at H
   have H' := Aside0.mk H
   clear H
   go_wp2
   repeat (go_quiet (fail); try go_wp2)
   go_meet
   case rel => exact ⟨_, (((l1.length : Int) != (l0.length : Int))), sD, H', ⟨by first | omega | exact Nat.le_refl _⟩, ⟨uR HO570.out⟩, ⟨uB⟩⟩
  ·replace c6 := Bool.eq_false_iff.mpr c6
   subst c6
   rw [if_neg (by decide)] at H
   have H' := Aside0.mk H
   clear H
   go_wp2
   repeat (go_quiet (fail); try go_wp2)
   go_meet
   case rel => exact ⟨_, (true), sD, H', ⟨by first | omega | exact Nat.le_refl _⟩, ⟨uR HO570.out⟩, ⟨uB⟩⟩
 case rest =>
  clear HC4
  try clear c1
  try clear p2
  try clear c4
  try clear c6
  obtain ⟨kq, x23_3, rfl, HA, HJ3, HO_5, HB⟩ := hcut
  cases kq with
  | zero => exact absurd HA.out (by simp [check_SA.j0])
  | succ kj3 =>
   have H := HA.out
   clear HA
   simp only [check_SA.j0] at H
   by_cases c7 : x23_3 = true
   ·subst c7
    rw [if_pos rfl] at H
    obtain rfl := Option.some.inj H
    go_wp2
    repeat (go_quiet (fail); try go_wp2)
    go_ret
    exact ⟨eR, uB⟩
   ·replace c7 := Bool.eq_false_iff.mpr c7
    subst c7
    rw [if_neg (by decide)] at H
    obtain ⟨c8, H⟩ := ifP H
    have LMc8 := Aside0.mk c8
    clear c8
    generalize hy571 : (t567 ++ [(-1)] : List Int) = y571 at H
    try simp only [Option.bind_some] at H
    have Ny571 := Aside0.mk hy571.symm
    clear hy571
    have H' := Aside0.mk H
    clear H
    go_wp2_with (first | ((with_reducible refine gate_builtin (b := .append) (xs := #[.tmp 24, .tmp 25]) rfl ?_); (try (refine gate_guard (by rfl) ?_; dsimp only)); at_builtin; refine Kd.R_append (Kd.int .i64) (w0 := w) w.heap.size rfl (.tmp 24) (.tmp 25) 23 3 (.int .i64 0) 8 rfl Try.underlying23 info3 rfl (by decide) (by omega) v569 t567 (-1) [.int .i64 (-1)] (fun _ => True) (fun _ => False) rfl rfl ?aP (fun _ hk => hk.elim) ?aF ?aO ?aB ?aS ?aL ?_; (case aP => exact rfl); (case aB => exact uB); (case aF => exact (fun _ _ => trivial)); (case aO => exact (uR HO_5.out)); (case aS => exact (below_size uB)); (case aL => have := LMc8.out; omega); intro v572 w9 ho hb hg hat; rw [← Ny571.out] at ho; have n0_ := Aside0.mk (hb); have n1_ := Aside0.mk (ho); clear HB; clear HO_5; have HB := n0_; have HO573 := n1_; clear n0_ n1_; clear ho hb hg hat))
    repeat (go_quiet (first | ((with_reducible refine gate_builtin (b := .append) (xs := #[.tmp 24, .tmp 25]) rfl ?_); (try (refine gate_guard (by rfl) ?_; dsimp only)); at_builtin; refine Kd.R_append (Kd.int .i64) (w0 := w) w.heap.size rfl (.tmp 24) (.tmp 25) 23 3 (.int .i64 0) 8 rfl Try.underlying23 info3 rfl (by decide) (by omega) v569 t567 (-1) [.int .i64 (-1)] (fun _ => True) (fun _ => False) rfl rfl ?aP (fun _ hk => hk.elim) ?aF ?aO ?aB ?aS ?aL ?_; (case aP => exact rfl); (case aB => exact uB); (case aF => exact (fun _ _ => trivial)); (case aO => exact (uR HO_5.out)); (case aS => exact (below_size uB)); (case aL => have := LMc8.out; omega); intro v572 w9 ho hb hg hat; rw [← Ny571.out] at ho; have n0_ := Aside0.mk (hb); have n1_ := Aside0.mk (ho); clear HB; clear HO_5; have HB := n0_; have HO573 := n1_; clear n0_ n1_; clear ho hb hg hat)); try go_wp2_with (first | ((with_reducible refine gate_builtin (b := .append) (xs := #[.tmp 24, .tmp 25]) rfl ?_); (try (refine gate_guard (by rfl) ?_; dsimp only)); at_builtin; refine Kd.R_append (Kd.int .i64) (w0 := w) w.heap.size rfl (.tmp 24) (.tmp 25) 23 3 (.int .i64 0) 8 rfl Try.underlying23 info3 rfl (by decide) (by omega) v569 t567 (-1) [.int .i64 (-1)] (fun _ => True) (fun _ => False) rfl rfl ?aP (fun _ hk => hk.elim) ?aF ?aO ?aB ?aS ?aL ?_; (case aP => exact rfl); (case aB => exact uB); (case aF => exact (fun _ _ => trivial)); (case aO => exact (uR HO_5.out)); (case aS => exact (below_size uB)); (case aL => have := LMc8.out; omega); intro v572 w9 ho hb hg hat; rw [← Ny571.out] at ho; have n0_ := Aside0.mk (hb); have n1_ := Aside0.mk (ho); clear HB; clear HO_5; have HB := n0_; have HO573 := n1_; clear n0_ n1_; clear ho hb hg hat)))
    go_loopg [7] kj3 (fun kq v7 w' => ∃ (x7_2 : Int), v7 = .int .i64 x7_2 ∧ Aside0 (check_SA.l0 kq l0 l1 y571 x7_2 = some r) ∧ Aside0 (kq ≤ kj3) ∧ Aside0 (Kd.R (Kd.int .i64) 3 w' w.heap.size (fun _ => True) v572 y571) ∧ Aside0 (Below w.heap.size w w'))
    case atStart => exact ⟨(1), sD, H', ⟨Nat.le_refl _⟩, ⟨uR HO573.out⟩, ⟨uB⟩⟩
    case round =>
     clear H'
     try clear c1
     try clear p2
     try clear c4
     try clear c6
     try clear c7
     try clear c8
     try clear p2
     obtain ⟨x7_2, rfl, HA, HK2, HO_5, HB⟩ := hrel
     cases gk with
     | zero => exact absurd HA.out (by simp [check_SA.l0])
     | succ k2 =>
      have H := HA.out
      clear HA
      simp only [check_SA.l0] at H
      rcases ifC H with ⟨c10b0, H⟩ | ⟨c10b0, H⟩
      ·obtain ⟨ji11, hji11⟩ : ∃ j_ : Int, (wrap64 (x7_2 - 1)) = j_ := ⟨_, rfl⟩
       first | rw [hji11] at H | simp only [hji11] at H
       have hji11w : (IntKind.i64.wrap (x7_2 - 1)) = ji11 := (i64_w _).trans hji11
       obtain ⟨c12b0, H⟩ := ifD H
       obtain ⟨c13b0, c14b0, H⟩ := ifD2 H
       obtain ⟨c15b0, c16b0, H⟩ := ifD2 H
       obtain ⟨c17b0, c18b0, H⟩ := ifD2 H
       rcases ifK H with ⟨c19b0, H⟩ | ⟨c19b0, H⟩
       ·obtain rfl := Option.some.inj H
        obtain ⟨ad574, e574, hx574_0, p574, q574⟩ := rIO HB.out HR1.out (ji11)
        cases e574
        obtain ⟨ad575, e575, hx575_0, p575, q575⟩ := rIO HB.out HR1.out x7_2
        obtain rfl : ad574 = ad575 := (by injection e575)
        obtain ⟨ad576, e576, hx576_0, p576, q576⟩ := rIO HB.out HR0.out (rd l1 (ji11))
        cases e576
        obtain ⟨ad577, e577, hx577_0, p577, q577⟩ := rIO HB.out HR0.out (rd l1 x7_2)
        obtain rfl : ad576 = ad577 := (by injection e577)
        go_wp2
        repeat (go_quiet (fail); try go_wp2)
        go_ret
        exact ⟨by first | rfl | (simp [errW_none, errW_some] <;> rfl) | (simp only [← hji11]; first | rfl | (simp [errW_none, errW_some] <;> rfl)) | (simp [*, errW_none, errW_some] <;> rfl), uB⟩
       ·by_cases c20 : (rd l0 (rd l1 (ji11))) = (rd l0 (rd l1 x7_2))
        ·rw [if_pos c20] at H
         have c20b0 : ((rd l0 (rd l1 (ji11))) == (rd l0 (rd l1 x7_2))) = true := beq_iff_eq.mpr c20
         have c20b1 : ((rd l0 (rd l1 (ji11))) != (rd l0 (rd l1 x7_2))) = false := bne_eq_false_iff_eq.mpr c20
         clear c20
         obtain ⟨ji21, hji21⟩ : ∃ j_ : Int, (wrap64 ((rd l1 (ji11)) + 1)) = j_ := ⟨_, rfl⟩
         first | rw [hji21] at H | simp only [hji21] at H
         have hji21w : (IntKind.i64.wrap ((rd l1 (ji11)) + 1)) = ji21 := (i64_w _).trans hji21
         obtain ⟨c22b0, c23b0, H⟩ := ifD2 H
         obtain ⟨ji24, hji24⟩ : ∃ j_ : Int, (wrap64 ((rd l1 x7_2) + 1)) = j_ := ⟨_, rfl⟩
         first | rw [hji24] at H | simp only [hji24] at H
         have hji24w : (IntKind.i64.wrap ((rd l1 x7_2) + 1)) = ji24 := (i64_w _).trans hji24
         obtain ⟨c25b0, c26b0, H⟩ := ifD2 H
         rcases ifK H with ⟨c27b0, H⟩ | ⟨c27b0, H⟩
         ·obtain rfl := Option.some.inj H
          obtain ⟨ad574, e574, hx574_0, p574, q574⟩ := rIO HB.out HR1.out (ji11)
          cases e574
          obtain ⟨ad575, e575, hx575_0, p575, q575⟩ := rIO HB.out HR1.out x7_2
          obtain rfl : ad574 = ad575 := (by injection e575)
          obtain ⟨ad576, e576, hx576_0, p576, q576⟩ := rIO HB.out HR0.out (rd l1 (ji11))
          cases e576
          obtain ⟨ad577, e577, hx577_0, p577, q577⟩ := rIO HB.out HR0.out (rd l1 x7_2)
          obtain rfl : ad576 = ad577 := (by injection e577)
          obtain ⟨ad578, e578, hx578_0, p578, q578⟩ := rIO HB.out HR0.out (rd l1 (ji11))
          obtain rfl : ad576 = ad578 := (by injection e578)
          obtain ⟨ad579, e579, hx579_0, p579, q579⟩ := rIO HB.out HR0.out (rd l1 x7_2)
          obtain rfl : ad576 = ad579 := (by injection e579)
          obtain ⟨Ao28, co28, eo28⟩ := Kd.R_slice HO_5.out
          subst eo28
          obtain ⟨ad580, e580, hx580_0, p580, q580⟩ := rI (Kd.R_reads' HO_5.out).2.2 (ji21)
          cases e580
          obtain ⟨ad581, e581, hx581_0, p581, q581⟩ := rI (Kd.R_reads' HO_5.out).2.2 (ji24)
          obtain rfl : ad580 = ad581 := (by injection e581)
          go_wp2
          repeat (go_quiet (fail); try go_wp2)
          go_ret
          exact ⟨by first | rfl | (simp [errW_none, errW_some] <;> rfl) | (simp only [← hji11, ← hji21, ← hji24]; first | rfl | (simp [errW_none, errW_some] <;> rfl)) | (simp [*, errW_none, errW_some] <;> rfl), uB⟩
         ·have H' := Aside0.mk H
          clear H
          obtain ⟨ad574, e574, hx574_0, p574, q574⟩ := rIO HB.out HR1.out (ji11)
          cases e574
          obtain ⟨ad575, e575, hx575_0, p575, q575⟩ := rIO HB.out HR1.out x7_2
          obtain rfl : ad574 = ad575 := (by injection e575)
          obtain ⟨ad576, e576, hx576_0, p576, q576⟩ := rIO HB.out HR0.out (rd l1 (ji11))
          cases e576
          obtain ⟨ad577, e577, hx577_0, p577, q577⟩ := rIO HB.out HR0.out (rd l1 x7_2)
          obtain rfl : ad576 = ad577 := (by injection e577)
          obtain ⟨ad578, e578, hx578_0, p578, q578⟩ := rIO HB.out HR0.out (rd l1 (ji11))
          obtain rfl : ad576 = ad578 := (by injection e578)
          obtain ⟨ad579, e579, hx579_0, p579, q579⟩ := rIO HB.out HR0.out (rd l1 x7_2)
          obtain rfl : ad576 = ad579 := (by injection e579)
          obtain ⟨Ao29, co29, eo29⟩ := Kd.R_slice HO_5.out
          subst eo29
          obtain ⟨ad580, e580, hx580_0, p580, q580⟩ := rI (Kd.R_reads' HO_5.out).2.2 (ji21)
          cases e580
          obtain ⟨ad581, e581, hx581_0, p581, q581⟩ := rI (Kd.R_reads' HO_5.out).2.2 (ji24)
          obtain rfl : ad580 = ad581 := (by injection e581)
          go_wp2
          repeat (go_quiet (fail); try go_wp2)
          go_roundg k2
          case measure => have := HJ3.out; have := HK2.out; omega
          case rel => exact ⟨(wrap64 (x7_2 + 1)), sD, H', ⟨by have := HJ3.out; have := HK2.out; omega⟩, ⟨uR HO_5.out⟩, ⟨uB⟩⟩
        ·rw [if_neg c20] at H
         have c20b0 : ((rd l0 (rd l1 (ji11))) == (rd l0 (rd l1 x7_2))) = false := beq_eq_false_iff_ne.mpr c20
         have c20b1 : ((rd l0 (rd l1 (ji11))) != (rd l0 (rd l1 x7_2))) = true := bne_iff_ne.mpr c20
         have H' := Aside0.mk H
         clear H
         obtain ⟨ad574, e574, hx574_0, p574, q574⟩ := rIO HB.out HR1.out (ji11)
         cases e574
         obtain ⟨ad575, e575, hx575_0, p575, q575⟩ := rIO HB.out HR1.out x7_2
         obtain rfl : ad574 = ad575 := (by injection e575)
         obtain ⟨ad576, e576, hx576_0, p576, q576⟩ := rIO HB.out HR0.out (rd l1 (ji11))
         cases e576
         obtain ⟨ad577, e577, hx577_0, p577, q577⟩ := rIO HB.out HR0.out (rd l1 x7_2)
         obtain rfl : ad576 = ad577 := (by injection e577)
         obtain ⟨ad578, e578, hx578_0, p578, q578⟩ := rIO HB.out HR0.out (rd l1 (ji11))
         obtain rfl : ad576 = ad578 := (by injection e578)
         obtain ⟨ad579, e579, hx579_0, p579, q579⟩ := rIO HB.out HR0.out (rd l1 x7_2)
         obtain rfl : ad576 = ad579 := (by injection e579)
         go_wp2
         repeat (go_quiet (fail); try go_wp2)
         go_roundg k2
         case measure => have := HJ3.out; have := HK2.out; omega
         case rel => exact ⟨(wrap64 (x7_2 + 1)), sD, H', ⟨by have := HJ3.out; have := HK2.out; omega⟩, ⟨uR HO_5.out⟩, ⟨uB⟩⟩
      ·obtain rfl := Option.some.inj H
       go_wp2
       repeat (go_quiet (fail); try go_wp2)
       go_ret
       exact ⟨eR, uB⟩
def check_LCP.f (k : Nat) (l0 : List Int) (l1 : List Int) (l2 : List Int) : Option (Bool) := (kasai_LCP.f k l0 l1).bind fun bt582 => ((check_SA.f k l0 l1).bind fun t586 => (if t586 = true then ((slices_Equal_int_int.f k bt582.1 l2).bind fun t587 => (some t587)) else (some false)))
theorem check_LCP.mono : ∀ a0 a1 a2 k, LeO (check_LCP.f k a0 a1 a2) (check_LCP.f (k + 1) a0 a1 a2) := by
  intro a0 a1 a2 k
  unfold check_LCP.f
  have m0 := @check_SA.mono
  have m1 := @kasai_LCP.mono
  have m2 := @slices_Equal_int_int.mono
  exact mB
set_option maxHeartbeats 8000000 in
set_option maxRecDepth 100000 in
theorem check_LCP.calls (k : Nat) (A0 : Option Addr) (c0 : Nat) (l0 : List Int) (A1 : Option Addr) (c1 : Nat) (l1 : List Int) (A2 : Option Addr) (c2 : Nat) (l2 : List Int) (r : Bool) (w : World) (hr0 : Kd.C (Kd.int .u8) w A0 l0.length l0) (hc0 : l0.length ≤ c0) (hr1 : Kd.C (Kd.int .i64) w A1 l1.length l1) (hc1 : l1.length ≤ c1) (hr2 : Kd.C (Kd.int .i64) w A2 l2.length l2) (hc2 : l2.length ≤ c2) (h : check_LCP.f k l0 l1 l2 = some r) :
    Calls Try.prog 26 #[.slice A0 l0.length c0, .slice A1 l1.length c1, .slice A2 l2.length c2] w fun e w' => e = .returned (.bool r) ∧ Below w.heap.size w w' := by
 have HR0 := Aside0.mk hr0
 have HC0 := Aside0.mk hc0
 clear hr0 hc0
 have HR1 := Aside0.mk hr1
 have HC1 := Aside0.mk hc1
 clear hr1 hc1
 have HR2 := Aside0.mk hr2
 have HC2 := Aside0.mk hc2
 clear hr2 hc2
 have HB := Aside0.mk (Below.refl w.heap.size w)
 have H := h
 clear h
 unfold check_LCP.f at H
 obtain ⟨⟨t582, t583⟩, A4, H⟩ := bdS H
 try dsimp only at H
 obtain ⟨t586, A5, H⟩ := bdS H
 try dsimp only at H
 by_cases c6 : t586 = true
 ·subst c6
  rw [if_pos rfl] at H
  obtain ⟨t587, A7, H⟩ := bdS H
  try dsimp only at H
  obtain rfl := Option.some.inj H
  go_enter Try.func26, Try.ntmps26
  go_wp2_with (first | ((with_reducible refine gate_callee (f := 23) rfl ?_); refine goesL_ (some 12) rfl rfl Try.func23 (by kernel_rfl) rfl #[.slice A0 l0.length c0, .slice A1 l1.length c1] rfl aE ?_; (with_reducible refine (kasai_LCP.calls k _ _ l0 _ _ l1 t582 t583 _ ?side1 ?side2 ?side3 ?side4 A4.out).mono ?_); (case side1 => exact uC HR0.out); (case side2 => exact HC0.out); (case side3 => exact uC HR1.out); (case side4 => exact HC1.out); rintro e w8 ⟨v584, rfl, ho0, hb⟩; refine ⟨_, rfl, ?_⟩; have n0_ := Aside0.mk (Kd.R_lower ho0 (below_size uB)); have n1_ := Aside0.mk (below_step uB hb); clear HB; have HO585 := n0_; have HB := n1_; clear n0_ n1_; (try clear hb); (try clear hb2); (try clear hk); (try clear hi); (try clear ho0)) | ((with_reducible refine gate_callee (f := 44) rfl ?_); refine goesL_ (some 17) rfl rfl Try.func44 (by kernel_rfl) rfl #[.slice A0 l0.length c0, .slice A1 l1.length c1] rfl aE ?_; (with_reducible refine (check_SA.calls k _ _ l0 _ _ l1 true _ ?side1 ?side2 ?side3 ?side4 A5.out).mono ?_); (case side1 => exact uC (Kd.C_below HR0.out HB.out)); (case side2 => exact HC0.out); (case side3 => exact uC (Kd.C_below HR1.out HB.out)); (case side4 => exact HC1.out); rintro e w9 ⟨rfl, hb⟩; refine ⟨_, rfl, ?_⟩; have n0_ := Aside0.mk (Kd.R_below (uR HO585.out) hb); have n1_ := Aside0.mk (below_step uB hb); clear HO585; clear HB; have HO585 := n0_; have HB := n1_; clear n0_ n1_; (try clear hb); (try clear hb2); (try clear hk); (try clear hi); obtain ⟨Ao10, co10, eo10⟩ := Kd.R_slice HO585.out; subst eo10) | (go_at_call 25; (with_reducible refine (slices_Equal_int_int.calls k _ _ t582 _ _ l2 t587 _ ?side1 ?side2 ?side3 ?side4 A7.out).mono ?_); (case side1 => exact uC (Kd.R_reads' HO585.out).2.2); (case side2 => exact (Kd.R_reads' HO585.out).2.1); (case side3 => exact uC (Kd.C_below HR2.out HB.out)); (case side4 => exact HC2.out); rintro e w' ⟨rfl, ⟨nd, rfl⟩⟩))
  go_ret
  exact ⟨eR, uB⟩
 ·replace c6 := Bool.eq_false_iff.mpr c6
  subst c6
  rw [if_neg (by decide)] at H
  obtain rfl := Option.some.inj H
  go_enter Try.func26, Try.ntmps26
  go_wp2_with (first | ((with_reducible refine gate_callee (f := 23) rfl ?_); refine goesL_ (some 12) rfl rfl Try.func23 (by kernel_rfl) rfl #[.slice A0 l0.length c0, .slice A1 l1.length c1] rfl aE ?_; (with_reducible refine (kasai_LCP.calls k _ _ l0 _ _ l1 t582 t583 _ ?side1 ?side2 ?side3 ?side4 A4.out).mono ?_); (case side1 => exact uC HR0.out); (case side2 => exact HC0.out); (case side3 => exact uC HR1.out); (case side4 => exact HC1.out); rintro e w11 ⟨v584, rfl, ho0, hb⟩; refine ⟨_, rfl, ?_⟩; have n0_ := Aside0.mk (Kd.R_lower ho0 (below_size uB)); have n1_ := Aside0.mk (below_step uB hb); clear HB; have HO585 := n0_; have HB := n1_; clear n0_ n1_; (try clear hb); (try clear hb2); (try clear hk); (try clear hi); (try clear ho0)) | ((with_reducible refine gate_callee (f := 44) rfl ?_); refine goesL_ (some 17) rfl rfl Try.func44 (by kernel_rfl) rfl #[.slice A0 l0.length c0, .slice A1 l1.length c1] rfl aE ?_; (with_reducible refine (check_SA.calls k _ _ l0 _ _ l1 false _ ?side1 ?side2 ?side3 ?side4 A5.out).mono ?_); (case side1 => exact uC (Kd.C_below HR0.out HB.out)); (case side2 => exact HC0.out); (case side3 => exact uC (Kd.C_below HR1.out HB.out)); (case side4 => exact HC1.out); rintro e w12 ⟨rfl, hb⟩; refine ⟨_, rfl, ?_⟩; have n0_ := Aside0.mk (Kd.R_below (uR HO585.out) hb); have n1_ := Aside0.mk (below_step uB hb); clear HO585; clear HB; have HO585 := n0_; have HB := n1_; clear n0_ n1_; (try clear hb); (try clear hb2); (try clear hk); (try clear hi)))
  go_ret
  exact ⟨eR, uB⟩
def whorltop_known.f (k : Nat)  : Option (Bool) := some true
theorem whorltop_known.mono : ∀ k, LeO (whorltop_known.f k ) (whorltop_known.f (k + 1) ) := fun k => LeO.refl _
theorem whorltop_known.A1 : sais_Bytes.f 600 [98, 97, 110, 97, 110, 97] = some ([5, 3, 1, 0, 4, 2], 0) := by decide +kernel
theorem whorltop_known.A2 : skew_Bytes.f 200 [98, 97, 110, 97, 110, 97] = some ([5, 3, 1, 0, 4, 2], 0) := by decide +kernel
theorem whorltop_known.A3 : double_Bytes.f 100 [98, 97, 110, 97, 110, 97] = some ([5, 3, 1, 0, 4, 2], 0) := by decide +kernel
theorem whorltop_known.A4 : kasai_LCP.f 100 [98, 97, 110, 97, 110, 97] [5, 3, 1, 0, 4, 2] = some ([0, 1, 3, 0, 0, 2], true) := by decide +kernel
theorem whorltop_known.A5 : phi_LCP.f 100 [98, 97, 110, 97, 110, 97] [5, 3, 1, 0, 4, 2] = some ([0, 1, 3, 0, 0, 2], true) := by decide +kernel
theorem whorltop_known.A6 : check_LCP.f 100 [98, 97, 110, 97, 110, 97] [5, 3, 1, 0, 4, 2] [0, 1, 3, 0, 0, 2] = some true := by decide +kernel
theorem whorltop_known.A7 : slices_Equal_int_int.f 100 [5, 3, 1, 0, 4, 2] [5, 3, 1, 0, 4, 2] = some true := by decide +kernel
theorem whorltop_known.A8 : slices_Equal_int_int.f 100 [0, 1, 3, 0, 0, 2] [0, 1, 3, 0, 0, 2] = some true := by decide +kernel
theorem whorltop_known.A9 : whorlref4_Ints.f 100 [5, 3, 1, 0, 4, 2] [5, 3, 1, 0, 4, 2] = some true := by decide +kernel
theorem whorltop_known.run (w : World) (g : Nat) (x0 x1 x2 : Int) (A : Option Addr) (c : Nat) (hg : w.heap[g]? = some (.cells #[.int .i64 x0, .int .i64 x1, .int .i64 x2] 51 (0, 0)))
    (hs : Kd.C (Kd.int .u8) w A 6 [98, 97, 110, 97, 110, 97]) (hsc : 6 ≤ c) (hAg : ∀ ad, A = some ad → ad.block ≠ g) :
    Calls Try.prog 16 #[.pointer (some ⟨g, 0, none⟩), .slice A 6 c] w fun e w' => ∃ v Au nu cu, e = .returned (.tuple #[.agg #[v, .slice Au nu cu, .bool true], .int .i64 0]) ∧ Kd.R (Kd.int .i64) 3 w' w.heap.size (fun _ => True) v [5, 3, 1, 0, 4, 2] ∧ w.grownBy w' (some g) :=
  Go.Proofs.Ytbbpplnnegdenaa.Rn.run_calls w g x0 x1 x2 A c [98, 97, 110, 97, 110, 97] [5, 3, 1, 0, 4, 2] [0, 1, 3, 0, 0, 2] hg hs hsc hAg
    (fun W A c hc hC => sais_Bytes.calls 600 A c [98, 97, 110, 97, 110, 97] _ _ W hC hc whorltop_known.A1) (fun W A c hc hC => skew_Bytes.calls 200 A c [98, 97, 110, 97, 110, 97] _ _ W hC hc whorltop_known.A2) (fun W A c hc hC => double_Bytes.calls 100 A c [98, 97, 110, 97, 110, 97] _ _ W hC hc whorltop_known.A3)
    (fun W A c B d hc hd hA hB => (kasai_LCP.calls 100 A c [98, 97, 110, 97, 110, 97] B d [5, 3, 1, 0, 4, 2] _ _ W hA hc hB hd whorltop_known.A4).mono (fun _ _ ⟨v, h1, h2, h3⟩ => ⟨v, _, h1, h2, h3⟩))
    (fun W A c B d hc hd hA hB => (phi_LCP.calls 100 A c [98, 97, 110, 97, 110, 97] B d [5, 3, 1, 0, 4, 2] _ _ W hA hc hB hd whorltop_known.A5).mono (fun _ _ ⟨v, h1, h2, h3⟩ => ⟨v, _, h1, h2, h3⟩))
    (fun W A c B d hc hd hA hB => slices_Equal_int_int.calls 100 A c [5, 3, 1, 0, 4, 2] B d [5, 3, 1, 0, 4, 2] _ W hA hc hB hd whorltop_known.A7)
    (fun W A c B d hc hd hA hB => slices_Equal_int_int.calls 100 A c [0, 1, 3, 0, 0, 2] B d [0, 1, 3, 0, 0, 2] _ W hA hc hB hd whorltop_known.A8)
    (fun W A c B d C e hc hd he hA hB hC => check_LCP.calls 100 A c [98, 97, 110, 97, 110, 97] B d [5, 3, 1, 0, 4, 2] C e [0, 1, 3, 0, 0, 2] _ W hA hc hB hd hC he whorltop_known.A6)
theorem whorltop_known.below {w w1 w' : World} {g : Nat} (b1 : Below w.heap.size w w1) (hg : w.heap.size ≤ g) (h : w1.grownBy w' (some g)) : Below w.heap.size w w' :=
  ⟨h.os.trans b1.os, h.tape.trans b1.tape, h.output.trans b1.output, Nat.le_trans b1.size h.size, fun k hk => (h.block k (Nat.lt_of_lt_of_le hk b1.size) (fun e => by cases e; omega)).trans (b1.block k hk)⟩
set_option maxHeartbeats 4000000 in
theorem whorltop_known.calls (k : Nat)  (r : Bool) (w : World) (h : whorltop_known.f k  = some r) :
    Calls Try.prog 10 #[] w fun e w' => e = .returned (.bool r) ∧ Below w.heap.size w w' := by
 obtain rfl : true = r := Option.some.inj h
 clear h
 have kc := fun (w : World) (C : Array Value) (n c : Nat) => Lib.run_convert_bytes_const (P := Try.prog) w 22 5 C n c Try.underlying22 Try.underlying5
 have cN := Go.Proofs.Ytbbpplnnegdenaa.Cr.new_calls w
 go_enter Try.func10, Try.ntmps10
 go_wp2_with (fail)
 (with_reducible refine cN.mono ?_)
 clear cN
 rintro e w1 ⟨g, rfl, hg0, hg, hb1⟩
 have B1 := Aside0.mk hb1
 have HG := Go.Lib.hid hg
 have HG0 := Aside0.mk hg0
 clear hb1 hg hg0
 go_wp2_with (fail)
 refine (whorltop_known.run _ g 0 0 0 (some ⟨w1.heap.size, 0, none⟩) 6 ?hg (lit_reads .u8 w1 5 [98, 97, 110, 97, 110, 97] (6, 7) (by decide) rfl) (by decide) ?hne).mono ?_
 case hg => exact (Below.heap_alloc _ _ _ (Array.getElem?_eq_some_iff.1 HG.out).1).trans HG.out
 case hne => intro ad e; cases e; have := (Array.getElem?_eq_some_iff.1 HG.out).1; show w1.heap.size ≠ g; omega
 rintro e w2 ⟨v, Au, nu, cu, rfl, hR, hgr⟩
 obtain ⟨p1, q1, rfl⟩ := Kd.R_slice hR
 have B2 := Aside0.mk (whorltop_known.below (below_alloc B1.out _) HG0.out hgr)
 have R2 := Aside0.mk hR
 clear hR hgr
 go_wp2_with (fail)
 refine Calls.mono (show Calls Try.prog 8 #[.slice p1 6 q1, .slice (some ⟨w2.heap.size + 1, 0, none⟩) 6 6] _ _ from whorlref4_Ints.calls 100 p1 q1 [5, 3, 1, 0, 4, 2] _ 6 [5, 3, 1, 0, 4, 2] true _ (Kd.C_alloc (Kd.C_alloc (Kd.R_reads' R2.out).2.2 _) _) (Kd.R_reads' R2.out).2.1
  (by have := lit_reads .i64 (w2.alloc (.cells #[.slice p1 6 q1, .slice Au nu cu, .bool true] 38)) 3 [5, 3, 1, 0, 4, 2] (0, 0) (by decide) rfl; simpa using this) (by decide) whorltop_known.A9) ?_
 rintro e w3 ⟨rfl, hd⟩
 have B3 := Aside0.mk (below_step (below_alloc (below_alloc B2.out _) _) hd.below)
 clear hd R2 B2
 go_wp2_with (fail)
 go_ret
 exact ⟨rfl, B3.out⟩
end Go.Proofs.Ytbbpplnnegdenaa.PTopThree
end
section
namespace Go.Proofs.Ytbbpplnnegdenaa.PTopThree
open Go.RowKit Go.Proofs.YtbbpplnnegdenaaW.PrintWords Go.Proofs.YtbbpplnnegdenaaW.PrintLast Go.Proofs.YtbbpplnnegdenaaW.PrintMore
attribute [local go_sem] max2_int min2_int max_two min_two max_three min_three max_four min_four
set_option linter.unusedVariables false
set_option linter.unusedSimpArgs false
theorem whorlref4_Words.calls_n (k : Nat) (A0 : Option Addr) (c0 : Nat) (l0 : List Int) (n0 : Nat) (e0 : l0.length = n0) (A1 : Option Addr) (c1 : Nat) (l1 : List Int) (n1 : Nat) (e1 : l1.length = n1) (r : Int) (w : World) (hr0 : Kd.C (Kd.int .u8) w A0 l0.length l0) (hc0 : l0.length ≤ c0) (hr1 : Kd.C (Kd.int .u8) w A1 l1.length l1) (hc1 : l1.length ≤ c1) (h : whorlref4_Words.f k l0 l1 = some r) :
    Calls Try.prog 9 #[.slice A0 n0 c0, .slice A1 n1 c1] w fun e w' => e = .returned (.int .i64 r) ∧ Drawn0 w w' := by
  subst e0
  subst e1
  exact whorlref4_Words.calls k A0 c0 l0 A1 c1 l1 r w hr0 hc0 hr1 hc1 h
mutual
def whorltop_TopThree.j0 : Nat → List Int → List Int → Bool → Option (Bool)
  | 0, _, _, _ => none
  | k + 1, x0, x3, x61 => if x61 = true then (some false) else (whorltop_TopThree.l0 k x0 x3 1)
def whorltop_TopThree.l0 : Nat → List Int → List Int → Int → Option (Bool)
  | 0, _, _, _ => none
  | k + 1, x0, x3, x9 => if x9 < (x3.length : Int) then (if 0 ≤ (wrap64 (x9 - 1)) then (if (wrap64 (x9 - 1)) < (x3.length : Int) then (if 0 ≤ (rd x3 (wrap64 (x9 - 1))) then (if (rd x3 (wrap64 (x9 - 1))) ≤ (x0.length : Int) then (if 0 ≤ x9 then (if 0 ≤ (rd x3 x9) then (if (rd x3 x9) ≤ (x0.length : Int) then ((whorlref4_Words.f k (x0.drop ((rd x3 (wrap64 (x9 - 1))) : Int).toNat) (x0.drop ((rd x3 x9) : Int).toNat)).bind fun t607 => (if t607 ≥ 0 then (some false) else (whorltop_TopThree.l0 k x0 x3 (wrap64 (x9 + 1))))) else (none)) else (none)) else (none)) else (none)) else (none)) else (none)) else (none)) else ((whorltop_known.f k).bind fun t608 => (some t608))
end
def whorltop_TopThree.f (k : Nat) (l0 : List Int) : Option (Bool) := if (l0.length : Int) > 400 then (some true) else ((sais_Bytes.f k l0).bind fun bt588 => ((skew_Bytes.f k l0).bind fun bt592 => ((double_Bytes.f k l0).bind fun bt596 => (if bt588.2 = 0 then (if bt592.2 = 0 then (if bt596.2 = 0 then (if (bt588.1.length : Int) = (l0.length : Int) then ((whorlref16_Is.f k bt588.1).bind fun t600 => (if t600 = true then ((whorlref4_Ints.f k bt588.1 bt592.1).bind fun t601 => (if t601 = true then ((whorlref4_Ints.f k bt588.1 bt596.1).bind fun t602 => (whorltop_TopThree.j0 k l0 bt588.1 (!t602))) else (whorltop_TopThree.j0 k l0 bt588.1 true))) else (whorltop_TopThree.j0 k l0 bt588.1 true))) else (whorltop_TopThree.j0 k l0 bt588.1 true)) else (whorltop_TopThree.j0 k l0 bt588.1 true)) else (whorltop_TopThree.j0 k l0 bt588.1 true)) else (whorltop_TopThree.j0 k l0 bt588.1 true)))))
theorem whorltop_TopThree.mono_l : ∀ k, (∀ y0 y1 y2, LeO (whorltop_TopThree.j0 k y0 y1 y2) (whorltop_TopThree.j0 (k + 1) y0 y1 y2)) ∧ (∀ y0 y1 y2, LeO (whorltop_TopThree.l0 k y0 y1 y2) (whorltop_TopThree.l0 (k + 1) y0 y1 y2))
  | 0 => ⟨fun _ _ _ r h => by simp [whorltop_TopThree.j0] at h, fun _ _ _ r h => by simp [whorltop_TopThree.l0] at h⟩
  | k + 1 => by
    obtain ⟨ih0, ih1⟩ := whorltop_TopThree.mono_l k
    refine ⟨?_, ?_⟩
    · intro y0 y1 y2
      unfold whorltop_TopThree.j0
      have m0 := @double_Bytes.mono
      have m1 := @sais_Bytes.mono
      have m2 := @skew_Bytes.mono
      have m3 := @whorlref16_Is.mono
      have m4 := @whorlref4_Ints.mono
      have m5 := @whorlref4_Words.mono
      have m6 := @whorltop_known.mono
      exact mB
    · intro y0 y1 y2
      unfold whorltop_TopThree.l0
      have m0 := @double_Bytes.mono
      have m1 := @sais_Bytes.mono
      have m2 := @skew_Bytes.mono
      have m3 := @whorlref16_Is.mono
      have m4 := @whorlref4_Ints.mono
      have m5 := @whorlref4_Words.mono
      have m6 := @whorltop_known.mono
      exact mB
theorem whorltop_TopThree.mono : ∀ a0 k, LeO (whorltop_TopThree.f k a0) (whorltop_TopThree.f (k + 1) a0) := by
  intro a0 k
  obtain ⟨ih0, ih1⟩ := whorltop_TopThree.mono_l k
  unfold whorltop_TopThree.f
  have m0 := @double_Bytes.mono
  have m1 := @sais_Bytes.mono
  have m2 := @skew_Bytes.mono
  have m3 := @whorlref16_Is.mono
  have m4 := @whorlref4_Ints.mono
  have m5 := @whorlref4_Words.mono
  have m6 := @whorltop_known.mono
  exact mB
set_option maxHeartbeats 8000000 in
set_option maxRecDepth 100000 in
theorem whorltop_TopThree.calls (k : Nat) (A0 : Option Addr) (c0 : Nat) (l0 : List Int) (r : Bool) (w : World) (hr0 : Kd.C (Kd.int .u8) w A0 l0.length l0) (hc0 : l0.length ≤ c0) (h : whorltop_TopThree.f k l0 = some r) :
    Calls Try.prog 3 #[.slice A0 l0.length c0] w fun e w' => e = .returned (.bool r) ∧ Below w.heap.size w w' := by
 have HR0 := Aside0.mk hr0
 have HC0 := Aside0.mk hc0
 clear hr0 hc0
 have HB := Aside0.mk (Below.refl w.heap.size w)
 have H := h
 clear h
 unfold whorltop_TopThree.f at H
 by_cases c2 : (l0.length : Int) > 400
 ·rw [if_pos c2] at H
  have c2b0 : decide (400 < (l0.length : Int)) = true := decide_eq_true c2
  have c2b1 : decide (400 < l0.length) = true := decide_eq_true (by omega)
  clear c2
  obtain rfl := Option.some.inj H
  go_enter Try.func3, Try.ntmps3
  go_wp2
  repeat (go_quiet (fail); try go_wp2)
  go_ret
  exact ⟨eR, uB⟩
 ·rw [if_neg c2] at H
  have c2b0 : decide (400 < (l0.length : Int)) = false := decide_eq_false c2
  have c2b1 : decide (400 < l0.length) = false := decide_eq_false (by omega)
  clear c2
  obtain ⟨⟨t588, t589⟩, A3, H⟩ := bdS H
  try dsimp only at H
  obtain ⟨⟨t592, t593⟩, A4, H⟩ := bdS H
  try dsimp only at H
  obtain ⟨⟨t596, t597⟩, A5, H⟩ := bdS H
  try dsimp only at H
  have HC6 := Aside0.mk H
  clear H
  go_enter Try.func3, Try.ntmps3
  go_upto_region 6 with (first | (go_at_call 4; (with_reducible refine (sais_Bytes.calls k _ _ l0 t588 t589 _ ?side1 ?side2 A3.out).mono ?_); (case side1 => exact uC HR0.out); (case side2 => exact HC0.out); rintro e w7 ⟨v590, rfl, ho0, hb⟩; have n0_ := Aside0.mk (Kd.R_lower ho0 (below_size uB)); have n1_ := Aside0.mk (below_step uB hb); clear HB; have HO591 := n0_; have HB := n1_; clear n0_ n1_; (try clear hb); (try clear hb2); (try clear hk); (try clear hi); (try clear ho0)) | (go_at_call 5; (with_reducible refine (skew_Bytes.calls k _ _ l0 t592 t593 _ ?side1 ?side2 A4.out).mono ?_); (case side1 => exact uC (Kd.C_below HR0.out HB.out)); (case side2 => exact HC0.out); rintro e w8 ⟨v594, rfl, ho0, hb⟩; have n0_ := Aside0.mk (Kd.R_elder' (uR HO591.out) (Kd.R_base ho0) hb); have n1_ := Aside0.mk (Kd.R_lower (Kd.R_new' ho0 (Kd.R_lt (uR HO591.out))) (below_size uB)); have n2_ := Aside0.mk (below_step uB hb); clear HO591; clear HB; have HO591 := n0_; have HO595 := n1_; have HB := n2_; clear n0_ n1_ n2_; (try clear hb); (try clear hb2); (try clear hk); (try clear hi); (try clear ho0)) | (go_at_call 6; (with_reducible refine (double_Bytes.calls k _ _ l0 t596 t597 _ ?side1 ?side2 A5.out).mono ?_); (case side1 => exact uC (Kd.C_below HR0.out HB.out)); (case side2 => exact HC0.out); rintro e w9 ⟨v598, rfl, ho0, hb⟩; have n0_ := Aside0.mk (Kd.R_elder' (uR HO591.out) (Kd.R_base ho0) hb); have n1_ := Aside0.mk (Kd.R_elder' (uR HO595.out) (Kd.R_base ho0) hb); have n2_ := Aside0.mk (Kd.R_lower (Kd.R_new' (Kd.R_new' ho0 (Kd.R_lt (uR HO591.out))) (Kd.R_lt (uR HO595.out))) (below_size uB)); have n3_ := Aside0.mk (below_step uB hb); clear HO591; clear HO595; clear HB; have HO591 := n0_; have HO595 := n1_; have HO599 := n2_; have HB := n3_; clear n0_ n1_ n2_ n3_; (try clear hb); (try clear hb2); (try clear hk); (try clear hi); (try clear ho0)))
  repeat (go_quiet (first | (go_at_call 4; (with_reducible refine (sais_Bytes.calls k _ _ l0 t588 t589 _ ?side1 ?side2 A3.out).mono ?_); (case side1 => exact uC HR0.out); (case side2 => exact HC0.out); rintro e w7 ⟨v590, rfl, ho0, hb⟩; have n0_ := Aside0.mk (Kd.R_lower ho0 (below_size uB)); have n1_ := Aside0.mk (below_step uB hb); clear HB; have HO591 := n0_; have HB := n1_; clear n0_ n1_; (try clear hb); (try clear hb2); (try clear hk); (try clear hi); (try clear ho0)) | (go_at_call 5; (with_reducible refine (skew_Bytes.calls k _ _ l0 t592 t593 _ ?side1 ?side2 A4.out).mono ?_); (case side1 => exact uC (Kd.C_below HR0.out HB.out)); (case side2 => exact HC0.out); rintro e w8 ⟨v594, rfl, ho0, hb⟩; have n0_ := Aside0.mk (Kd.R_elder' (uR HO591.out) (Kd.R_base ho0) hb); have n1_ := Aside0.mk (Kd.R_lower (Kd.R_new' ho0 (Kd.R_lt (uR HO591.out))) (below_size uB)); have n2_ := Aside0.mk (below_step uB hb); clear HO591; clear HB; have HO591 := n0_; have HO595 := n1_; have HB := n2_; clear n0_ n1_ n2_; (try clear hb); (try clear hb2); (try clear hk); (try clear hi); (try clear ho0)) | (go_at_call 6; (with_reducible refine (double_Bytes.calls k _ _ l0 t596 t597 _ ?side1 ?side2 A5.out).mono ?_); (case side1 => exact uC (Kd.C_below HR0.out HB.out)); (case side2 => exact HC0.out); rintro e w9 ⟨v598, rfl, ho0, hb⟩; have n0_ := Aside0.mk (Kd.R_elder' (uR HO591.out) (Kd.R_base ho0) hb); have n1_ := Aside0.mk (Kd.R_elder' (uR HO595.out) (Kd.R_base ho0) hb); have n2_ := Aside0.mk (Kd.R_lower (Kd.R_new' (Kd.R_new' ho0 (Kd.R_lt (uR HO591.out))) (Kd.R_lt (uR HO595.out))) (below_size uB)); have n3_ := Aside0.mk (below_step uB hb); clear HO591; clear HO595; clear HB; have HO591 := n0_; have HO595 := n1_; have HO599 := n2_; have HB := n3_; clear n0_ n1_ n2_ n3_; (try clear hb); (try clear hb2); (try clear hk); (try clear hi); (try clear ho0))); go_upto_region 6 with (first | (go_at_call 4; (with_reducible refine (sais_Bytes.calls k _ _ l0 t588 t589 _ ?side1 ?side2 A3.out).mono ?_); (case side1 => exact uC HR0.out); (case side2 => exact HC0.out); rintro e w7 ⟨v590, rfl, ho0, hb⟩; have n0_ := Aside0.mk (Kd.R_lower ho0 (below_size uB)); have n1_ := Aside0.mk (below_step uB hb); clear HB; have HO591 := n0_; have HB := n1_; clear n0_ n1_; (try clear hb); (try clear hb2); (try clear hk); (try clear hi); (try clear ho0)) | (go_at_call 5; (with_reducible refine (skew_Bytes.calls k _ _ l0 t592 t593 _ ?side1 ?side2 A4.out).mono ?_); (case side1 => exact uC (Kd.C_below HR0.out HB.out)); (case side2 => exact HC0.out); rintro e w8 ⟨v594, rfl, ho0, hb⟩; have n0_ := Aside0.mk (Kd.R_elder' (uR HO591.out) (Kd.R_base ho0) hb); have n1_ := Aside0.mk (Kd.R_lower (Kd.R_new' ho0 (Kd.R_lt (uR HO591.out))) (below_size uB)); have n2_ := Aside0.mk (below_step uB hb); clear HO591; clear HB; have HO591 := n0_; have HO595 := n1_; have HB := n2_; clear n0_ n1_ n2_; (try clear hb); (try clear hb2); (try clear hk); (try clear hi); (try clear ho0)) | (go_at_call 6; (with_reducible refine (double_Bytes.calls k _ _ l0 t596 t597 _ ?side1 ?side2 A5.out).mono ?_); (case side1 => exact uC (Kd.C_below HR0.out HB.out)); (case side2 => exact HC0.out); rintro e w9 ⟨v598, rfl, ho0, hb⟩; have n0_ := Aside0.mk (Kd.R_elder' (uR HO591.out) (Kd.R_base ho0) hb); have n1_ := Aside0.mk (Kd.R_elder' (uR HO595.out) (Kd.R_base ho0) hb); have n2_ := Aside0.mk (Kd.R_lower (Kd.R_new' (Kd.R_new' ho0 (Kd.R_lt (uR HO591.out))) (Kd.R_lt (uR HO595.out))) (below_size uB)); have n3_ := Aside0.mk (below_step uB hb); clear HO591; clear HO595; clear HB; have HO591 := n0_; have HO595 := n1_; have HO599 := n2_; have HB := n3_; clear n0_ n1_ n2_ n3_; (try clear hb); (try clear hb2); (try clear hk); (try clear hi); (try clear ho0))))
  (try simp only [Act.put, List.setIfInBounds_toArray, List.set_cons_zero, List.set_cons_succ])
  go_cut [61] (fun v61 wc => ∃ (kq : Nat) (x61_5 : Bool), v61 = .bool x61_5 ∧ Aside0 (whorltop_TopThree.j0 kq l0 t588 x61_5 = some r) ∧ Aside0 (kq ≤ k) ∧ Aside0 (Kd.R (Kd.int .i64) 3 wc w.heap.size (fun _ => True) v590 t588) ∧ Aside0 (Below w.heap.size w wc))
  case first =>
   have H := HC6.out
   clear HC6
   by_cases c10 : t589 = 0
   ·rw [if_pos c10] at H
    have c10b0 : (t589 == 0) = true := beq_iff_eq.mpr c10
    have c10b1 : (t589 != 0) = false := bne_eq_false_iff_eq.mpr c10
    clear c10
    (first | rw [c10b0] | (simp only [i64_w, i32_w]; rw [c10b0]) | skip)
    by_cases c11 : t593 = 0
    ·rw [if_pos c11] at H
     have c11b0 : (t593 == 0) = true := beq_iff_eq.mpr c11
     have c11b1 : (t593 != 0) = false := bne_eq_false_iff_eq.mpr c11
     clear c11
     by_cases c12 : t597 = 0
     ·rw [if_pos c12] at H
      have c12b0 : (t597 == 0) = true := beq_iff_eq.mpr c12
      have c12b1 : (t597 != 0) = false := bne_eq_false_iff_eq.mpr c12
      clear c12
      by_cases c13 : (t588.length : Int) = (l0.length : Int)
      ·rw [if_pos c13] at H
       have c13b0 : ((t588.length : Int) == (l0.length : Int)) = true := beq_iff_eq.mpr c13
       have c13b1 : ((t588.length : Int) != (l0.length : Int)) = false := bne_eq_false_iff_eq.mpr c13
       have c13b2 : (t588.length == l0.length) = true := by first | simpa using c13 | (simp at c13 ⊢; omega)
       clear c13
       obtain ⟨t600, A14, H⟩ := bdS H
       try dsimp only at H
       by_cases c15 : t600 = true
       ·subst c15
        rw [if_pos rfl] at H
        obtain ⟨t601, A16, H⟩ := bdS H
        try dsimp only at H
        by_cases c17 : t601 = true
        ·subst c17
         rw [if_pos rfl] at H
         obtain ⟨t602, A18, H⟩ := bdS H
         try dsimp only at H
         have H' := Aside0.mk H
         clear H
         obtain ⟨Ao19, co19, eo19⟩ := Kd.R_slice HO591.out
         subst eo19
         go_wp2_with (first | (go_at_call 7; (with_reducible refine (whorlref16_Is.calls k _ _ t588 true _ ?side1 ?side2 A14.out).mono ?_); (case side1 => exact uC (Kd.R_reads' HO591.out).2.2); (case side2 => exact (Kd.R_reads' HO591.out).2.1); rintro e w20 ⟨rfl, hb⟩; have n0_ := Aside0.mk (Kd.R_below (uR HO591.out) hb); have n1_ := Aside0.mk (Kd.R_below (uR HO595.out) hb); have n2_ := Aside0.mk (Kd.R_below (uR HO599.out) hb); have n3_ := Aside0.mk (below_step uB hb); clear HO591; clear HO595; clear HO599; clear HB; have HO591 := n0_; have HO595 := n1_; have HO599 := n2_; have HB := n3_; clear n0_ n1_ n2_ n3_; (try clear hb); (try clear hb2); (try clear hk); (try clear hi); obtain ⟨Ao21, co21, eo21⟩ := Kd.R_slice HO595.out; subst eo21) | (go_at_call 8; (with_reducible refine (whorlref4_Ints.calls k _ _ t588 _ _ t592 true _ ?side1 ?side2 ?side3 ?side4 A16.out).mono ?_); (case side1 => exact uC (Kd.R_reads' HO591.out).2.2); (case side2 => exact (Kd.R_reads' HO591.out).2.1); (case side3 => exact uC (Kd.R_reads' HO595.out).2.2); (case side4 => exact (Kd.R_reads' HO595.out).2.1); rintro e w' ⟨rfl, ⟨nd, rfl⟩⟩; (try first | exact ⟨rfl, _, World.drewN_drewN _ _ _⟩ | exact ⟨rfl, _, Eq.trans (World.drewN_drewN _ _ _) (congrArg (World.drewN _) (Nat.add_assoc _ _ _))⟩); obtain ⟨Ao22, co22, eo22⟩ := Kd.R_slice HO599.out; subst eo22) | (go_at_call 8; (with_reducible refine (whorlref4_Ints.calls k _ _ t588 _ _ t596 t602 _ ?side1 ?side2 ?side3 ?side4 A18.out).mono ?_); (case side1 => exact uC (Kd.R_reads' HO591.out).2.2); (case side2 => exact (Kd.R_reads' HO591.out).2.1); (case side3 => exact uC (Kd.R_reads' HO599.out).2.2); (case side4 => exact (Kd.R_reads' HO599.out).2.1); rintro e w' ⟨rfl, ⟨nd, rfl⟩⟩; (try first | exact ⟨rfl, _, World.drewN_drewN _ _ _⟩ | exact ⟨rfl, _, Eq.trans (World.drewN_drewN _ _ _) (congrArg (World.drewN _) (Nat.add_assoc _ _ _))⟩)))
         repeat (go_quiet (first | (go_at_call 7; (with_reducible refine (whorlref16_Is.calls k _ _ t588 true _ ?side1 ?side2 A14.out).mono ?_); (case side1 => exact uC (Kd.R_reads' HO591.out).2.2); (case side2 => exact (Kd.R_reads' HO591.out).2.1); rintro e w20 ⟨rfl, hb⟩; have n0_ := Aside0.mk (Kd.R_below (uR HO591.out) hb); have n1_ := Aside0.mk (Kd.R_below (uR HO595.out) hb); have n2_ := Aside0.mk (Kd.R_below (uR HO599.out) hb); have n3_ := Aside0.mk (below_step uB hb); clear HO591; clear HO595; clear HO599; clear HB; have HO591 := n0_; have HO595 := n1_; have HO599 := n2_; have HB := n3_; clear n0_ n1_ n2_ n3_; (try clear hb); (try clear hb2); (try clear hk); (try clear hi); obtain ⟨Ao21, co21, eo21⟩ := Kd.R_slice HO595.out; subst eo21) | (go_at_call 8; (with_reducible refine (whorlref4_Ints.calls k _ _ t588 _ _ t592 true _ ?side1 ?side2 ?side3 ?side4 A16.out).mono ?_); (case side1 => exact uC (Kd.R_reads' HO591.out).2.2); (case side2 => exact (Kd.R_reads' HO591.out).2.1); (case side3 => exact uC (Kd.R_reads' HO595.out).2.2); (case side4 => exact (Kd.R_reads' HO595.out).2.1); rintro e w' ⟨rfl, ⟨nd, rfl⟩⟩; (try first | exact ⟨rfl, _, World.drewN_drewN _ _ _⟩ | exact ⟨rfl, _, Eq.trans (World.drewN_drewN _ _ _) (congrArg (World.drewN _) (Nat.add_assoc _ _ _))⟩); obtain ⟨Ao22, co22, eo22⟩ := Kd.R_slice HO599.out; subst eo22) | (go_at_call 8; (with_reducible refine (whorlref4_Ints.calls k _ _ t588 _ _ t596 t602 _ ?side1 ?side2 ?side3 ?side4 A18.out).mono ?_); (case side1 => exact uC (Kd.R_reads' HO591.out).2.2); (case side2 => exact (Kd.R_reads' HO591.out).2.1); (case side3 => exact uC (Kd.R_reads' HO599.out).2.2); (case side4 => exact (Kd.R_reads' HO599.out).2.1); rintro e w' ⟨rfl, ⟨nd, rfl⟩⟩; (try first | exact ⟨rfl, _, World.drewN_drewN _ _ _⟩ | exact ⟨rfl, _, Eq.trans (World.drewN_drewN _ _ _) (congrArg (World.drewN _) (Nat.add_assoc _ _ _))⟩))); try go_wp2_with (first | (go_at_call 7; (with_reducible refine (whorlref16_Is.calls k _ _ t588 true _ ?side1 ?side2 A14.out).mono ?_); (case side1 => exact uC (Kd.R_reads' HO591.out).2.2); (case side2 => exact (Kd.R_reads' HO591.out).2.1); rintro e w20 ⟨rfl, hb⟩; have n0_ := Aside0.mk (Kd.R_below (uR HO591.out) hb); have n1_ := Aside0.mk (Kd.R_below (uR HO595.out) hb); have n2_ := Aside0.mk (Kd.R_below (uR HO599.out) hb); have n3_ := Aside0.mk (below_step uB hb); clear HO591; clear HO595; clear HO599; clear HB; have HO591 := n0_; have HO595 := n1_; have HO599 := n2_; have HB := n3_; clear n0_ n1_ n2_ n3_; (try clear hb); (try clear hb2); (try clear hk); (try clear hi); obtain ⟨Ao21, co21, eo21⟩ := Kd.R_slice HO595.out; subst eo21) | (go_at_call 8; (with_reducible refine (whorlref4_Ints.calls k _ _ t588 _ _ t592 true _ ?side1 ?side2 ?side3 ?side4 A16.out).mono ?_); (case side1 => exact uC (Kd.R_reads' HO591.out).2.2); (case side2 => exact (Kd.R_reads' HO591.out).2.1); (case side3 => exact uC (Kd.R_reads' HO595.out).2.2); (case side4 => exact (Kd.R_reads' HO595.out).2.1); rintro e w' ⟨rfl, ⟨nd, rfl⟩⟩; (try first | exact ⟨rfl, _, World.drewN_drewN _ _ _⟩ | exact ⟨rfl, _, Eq.trans (World.drewN_drewN _ _ _) (congrArg (World.drewN _) (Nat.add_assoc _ _ _))⟩); obtain ⟨Ao22, co22, eo22⟩ := Kd.R_slice HO599.out; subst eo22) | (go_at_call 8; (with_reducible refine (whorlref4_Ints.calls k _ _ t588 _ _ t596 t602 _ ?side1 ?side2 ?side3 ?side4 A18.out).mono ?_); (case side1 => exact uC (Kd.R_reads' HO591.out).2.2); (case side2 => exact (Kd.R_reads' HO591.out).2.1); (case side3 => exact uC (Kd.R_reads' HO599.out).2.2); (case side4 => exact (Kd.R_reads' HO599.out).2.1); rintro e w' ⟨rfl, ⟨nd, rfl⟩⟩; (try first | exact ⟨rfl, _, World.drewN_drewN _ _ _⟩ | exact ⟨rfl, _, Eq.trans (World.drewN_drewN _ _ _) (congrArg (World.drewN _) (Nat.add_assoc _ _ _))⟩))))
         go_meet
         case rel => exact ⟨_, (!t602), sD, H', ⟨by first | omega | exact Nat.le_refl _⟩, ⟨by (with_reducible repeat (first | apply Kd.R_alloc | apply Kd.R_drewN | apply Kd.R_drew)); exact Kd.R_mono HO591.out (fun _ hk => trivial)⟩, ⟨uB⟩⟩
        ·replace c17 := Bool.eq_false_iff.mpr c17
         subst c17
         rw [if_neg (by decide)] at H
         have H' := Aside0.mk H
         clear H
         obtain ⟨Ao23, co23, eo23⟩ := Kd.R_slice HO591.out
         subst eo23
         go_wp2_with (first | (go_at_call 7; (with_reducible refine (whorlref16_Is.calls k _ _ t588 true _ ?side1 ?side2 A14.out).mono ?_); (case side1 => exact uC (Kd.R_reads' HO591.out).2.2); (case side2 => exact (Kd.R_reads' HO591.out).2.1); rintro e w24 ⟨rfl, hb⟩; have n0_ := Aside0.mk (Kd.R_below (uR HO591.out) hb); have n1_ := Aside0.mk (Kd.R_below (uR HO595.out) hb); have n2_ := Aside0.mk (Kd.R_below (uR HO599.out) hb); have n3_ := Aside0.mk (below_step uB hb); clear HO591; clear HO595; clear HO599; clear HB; have HO591 := n0_; have HO595 := n1_; have HO599 := n2_; have HB := n3_; clear n0_ n1_ n2_ n3_; (try clear hb); (try clear hb2); (try clear hk); (try clear hi); obtain ⟨Ao25, co25, eo25⟩ := Kd.R_slice HO595.out; subst eo25) | (go_at_call 8; (with_reducible refine (whorlref4_Ints.calls k _ _ t588 _ _ t592 false _ ?side1 ?side2 ?side3 ?side4 A16.out).mono ?_); (case side1 => exact uC (Kd.R_reads' HO591.out).2.2); (case side2 => exact (Kd.R_reads' HO591.out).2.1); (case side3 => exact uC (Kd.R_reads' HO595.out).2.2); (case side4 => exact (Kd.R_reads' HO595.out).2.1); rintro e w' ⟨rfl, ⟨nd, rfl⟩⟩; (try first | exact ⟨rfl, _, World.drewN_drewN _ _ _⟩ | exact ⟨rfl, _, Eq.trans (World.drewN_drewN _ _ _) (congrArg (World.drewN _) (Nat.add_assoc _ _ _))⟩)))
         repeat (go_quiet (first | (go_at_call 7; (with_reducible refine (whorlref16_Is.calls k _ _ t588 true _ ?side1 ?side2 A14.out).mono ?_); (case side1 => exact uC (Kd.R_reads' HO591.out).2.2); (case side2 => exact (Kd.R_reads' HO591.out).2.1); rintro e w24 ⟨rfl, hb⟩; have n0_ := Aside0.mk (Kd.R_below (uR HO591.out) hb); have n1_ := Aside0.mk (Kd.R_below (uR HO595.out) hb); have n2_ := Aside0.mk (Kd.R_below (uR HO599.out) hb); have n3_ := Aside0.mk (below_step uB hb); clear HO591; clear HO595; clear HO599; clear HB; have HO591 := n0_; have HO595 := n1_; have HO599 := n2_; have HB := n3_; clear n0_ n1_ n2_ n3_; (try clear hb); (try clear hb2); (try clear hk); (try clear hi); obtain ⟨Ao25, co25, eo25⟩ := Kd.R_slice HO595.out; subst eo25) | (go_at_call 8; (with_reducible refine (whorlref4_Ints.calls k _ _ t588 _ _ t592 false _ ?side1 ?side2 ?side3 ?side4 A16.out).mono ?_); (case side1 => exact uC (Kd.R_reads' HO591.out).2.2); (case side2 => exact (Kd.R_reads' HO591.out).2.1); (case side3 => exact uC (Kd.R_reads' HO595.out).2.2); (case side4 => exact (Kd.R_reads' HO595.out).2.1); rintro e w' ⟨rfl, ⟨nd, rfl⟩⟩; (try first | exact ⟨rfl, _, World.drewN_drewN _ _ _⟩ | exact ⟨rfl, _, Eq.trans (World.drewN_drewN _ _ _) (congrArg (World.drewN _) (Nat.add_assoc _ _ _))⟩))); try go_wp2_with (first | (go_at_call 7; (with_reducible refine (whorlref16_Is.calls k _ _ t588 true _ ?side1 ?side2 A14.out).mono ?_); (case side1 => exact uC (Kd.R_reads' HO591.out).2.2); (case side2 => exact (Kd.R_reads' HO591.out).2.1); rintro e w24 ⟨rfl, hb⟩; have n0_ := Aside0.mk (Kd.R_below (uR HO591.out) hb); have n1_ := Aside0.mk (Kd.R_below (uR HO595.out) hb); have n2_ := Aside0.mk (Kd.R_below (uR HO599.out) hb); have n3_ := Aside0.mk (below_step uB hb); clear HO591; clear HO595; clear HO599; clear HB; have HO591 := n0_; have HO595 := n1_; have HO599 := n2_; have HB := n3_; clear n0_ n1_ n2_ n3_; (try clear hb); (try clear hb2); (try clear hk); (try clear hi); obtain ⟨Ao25, co25, eo25⟩ := Kd.R_slice HO595.out; subst eo25) | (go_at_call 8; (with_reducible refine (whorlref4_Ints.calls k _ _ t588 _ _ t592 false _ ?side1 ?side2 ?side3 ?side4 A16.out).mono ?_); (case side1 => exact uC (Kd.R_reads' HO591.out).2.2); (case side2 => exact (Kd.R_reads' HO591.out).2.1); (case side3 => exact uC (Kd.R_reads' HO595.out).2.2); (case side4 => exact (Kd.R_reads' HO595.out).2.1); rintro e w' ⟨rfl, ⟨nd, rfl⟩⟩; (try first | exact ⟨rfl, _, World.drewN_drewN _ _ _⟩ | exact ⟨rfl, _, Eq.trans (World.drewN_drewN _ _ _) (congrArg (World.drewN _) (Nat.add_assoc _ _ _))⟩))))
         go_meet
         case rel => exact ⟨_, (true), sD, H', ⟨by first | omega | exact Nat.le_refl _⟩, ⟨by (with_reducible repeat (first | apply Kd.R_alloc | apply Kd.R_drewN | apply Kd.R_drew)); exact Kd.R_mono HO591.out (fun _ hk => trivial)⟩, ⟨uB⟩⟩
       ·replace c15 := Bool.eq_false_iff.mpr c15
        subst c15
        rw [if_neg (by decide)] at H
        have H' := Aside0.mk H
        clear H
        obtain ⟨Ao26, co26, eo26⟩ := Kd.R_slice HO591.out
        subst eo26
        go_wp2_with (first | (go_at_call 7; (with_reducible refine (whorlref16_Is.calls k _ _ t588 false _ ?side1 ?side2 A14.out).mono ?_); (case side1 => exact uC (Kd.R_reads' HO591.out).2.2); (case side2 => exact (Kd.R_reads' HO591.out).2.1); rintro e w27 ⟨rfl, hb⟩; have n0_ := Aside0.mk (Kd.R_below (uR HO591.out) hb); have n1_ := Aside0.mk (Kd.R_below (uR HO595.out) hb); have n2_ := Aside0.mk (Kd.R_below (uR HO599.out) hb); have n3_ := Aside0.mk (below_step uB hb); clear HO591; clear HO595; clear HO599; clear HB; have HO591 := n0_; have HO595 := n1_; have HO599 := n2_; have HB := n3_; clear n0_ n1_ n2_ n3_; (try clear hb); (try clear hb2); (try clear hk); (try clear hi)))
        repeat (go_quiet (first | (go_at_call 7; (with_reducible refine (whorlref16_Is.calls k _ _ t588 false _ ?side1 ?side2 A14.out).mono ?_); (case side1 => exact uC (Kd.R_reads' HO591.out).2.2); (case side2 => exact (Kd.R_reads' HO591.out).2.1); rintro e w27 ⟨rfl, hb⟩; have n0_ := Aside0.mk (Kd.R_below (uR HO591.out) hb); have n1_ := Aside0.mk (Kd.R_below (uR HO595.out) hb); have n2_ := Aside0.mk (Kd.R_below (uR HO599.out) hb); have n3_ := Aside0.mk (below_step uB hb); clear HO591; clear HO595; clear HO599; clear HB; have HO591 := n0_; have HO595 := n1_; have HO599 := n2_; have HB := n3_; clear n0_ n1_ n2_ n3_; (try clear hb); (try clear hb2); (try clear hk); (try clear hi))); try go_wp2_with (first | (go_at_call 7; (with_reducible refine (whorlref16_Is.calls k _ _ t588 false _ ?side1 ?side2 A14.out).mono ?_); (case side1 => exact uC (Kd.R_reads' HO591.out).2.2); (case side2 => exact (Kd.R_reads' HO591.out).2.1); rintro e w27 ⟨rfl, hb⟩; have n0_ := Aside0.mk (Kd.R_below (uR HO591.out) hb); have n1_ := Aside0.mk (Kd.R_below (uR HO595.out) hb); have n2_ := Aside0.mk (Kd.R_below (uR HO599.out) hb); have n3_ := Aside0.mk (below_step uB hb); clear HO591; clear HO595; clear HO599; clear HB; have HO591 := n0_; have HO595 := n1_; have HO599 := n2_; have HB := n3_; clear n0_ n1_ n2_ n3_; (try clear hb); (try clear hb2); (try clear hk); (try clear hi))))
        go_meet
        case rel => exact ⟨_, (true), sD, H', ⟨by first | omega | exact Nat.le_refl _⟩, ⟨by (with_reducible repeat (first | apply Kd.R_alloc | apply Kd.R_drewN | apply Kd.R_drew)); exact Kd.R_mono HO591.out (fun _ hk => trivial)⟩, ⟨uB⟩⟩
      ·rw [if_neg c13] at H
       have c13b0 : ((t588.length : Int) == (l0.length : Int)) = false := beq_eq_false_iff_ne.mpr c13
       have c13b1 : ((t588.length : Int) != (l0.length : Int)) = true := bne_iff_ne.mpr c13
       have c13b2 : (t588.length == l0.length) = false := by first | simpa using c13 | (simp at c13 ⊢; omega)
       have H' := Aside0.mk H
       clear H
       obtain ⟨Ao28, co28, eo28⟩ := Kd.R_slice HO591.out
       subst eo28
       go_wp2
       repeat (go_quiet (fail); try go_wp2)
       go_meet
       case rel => exact ⟨_, (true), sD, H', ⟨by first | omega | exact Nat.le_refl _⟩, ⟨by (with_reducible repeat (first | apply Kd.R_alloc | apply Kd.R_drewN | apply Kd.R_drew)); exact Kd.R_mono HO591.out (fun _ hk => trivial)⟩, ⟨uB⟩⟩
     ·rw [if_neg c12] at H
      have c12b0 : (t597 == 0) = false := beq_eq_false_iff_ne.mpr c12
      have c12b1 : (t597 != 0) = true := bne_iff_ne.mpr c12
      have H' := Aside0.mk H
      clear H
      go_wp2
      repeat (go_quiet (fail); try go_wp2)
      go_meet
      case rel => exact ⟨_, (true), sD, H', ⟨by first | omega | exact Nat.le_refl _⟩, ⟨by (with_reducible repeat (first | apply Kd.R_alloc | apply Kd.R_drewN | apply Kd.R_drew)); exact Kd.R_mono HO591.out (fun _ hk => trivial)⟩, ⟨uB⟩⟩
    ·rw [if_neg c11] at H
     have c11b0 : (t593 == 0) = false := beq_eq_false_iff_ne.mpr c11
     have c11b1 : (t593 != 0) = true := bne_iff_ne.mpr c11
     have H' := Aside0.mk H
     clear H
     go_wp2
     repeat (go_quiet (fail); try go_wp2)
     go_meet
     case rel => exact ⟨_, (true), sD, H', ⟨by first | omega | exact Nat.le_refl _⟩, ⟨by (with_reducible repeat (first | apply Kd.R_alloc | apply Kd.R_drewN | apply Kd.R_drew)); exact Kd.R_mono HO591.out (fun _ hk => trivial)⟩, ⟨uB⟩⟩
   ·rw [if_neg c10] at H
    have c10b0 : (t589 == 0) = false := beq_eq_false_iff_ne.mpr c10
    have c10b1 : (t589 != 0) = true := bne_iff_ne.mpr c10
    (first | rw [c10b0] | (simp only [i64_w, i32_w]; rw [c10b0]) | skip)
    have H' := Aside0.mk H
    clear H
    go_wp2
    repeat (go_quiet (fail); try go_wp2)
    go_meet
    case rel => exact ⟨_, (true), sD, H', ⟨by first | omega | exact Nat.le_refl _⟩, ⟨by (with_reducible repeat (first | apply Kd.R_alloc | apply Kd.R_drewN | apply Kd.R_drew)); exact Kd.R_mono HO591.out (fun _ hk => trivial)⟩, ⟨uB⟩⟩
  case rest =>
   clear HC6
   try clear c1
   try clear c2
   try clear c2b0
   try clear c2b1
   try clear p2
   try clear c3
   try clear c10
   try clear c10b0
   try clear c10b1
   try clear c11
   try clear c11b0
   try clear c11b1
   try clear c12
   try clear c12b0
   try clear c12b1
   try clear c13
   try clear c13b0
   try clear c13b1
   try clear c13b2
   try clear c15
   try clear c17
   obtain ⟨kq, x61_5, rfl, HA, HJ5, HO_3, HB⟩ := hcut
   cases kq with
   | zero => exact absurd HA.out (by simp [whorltop_TopThree.j0])
   | succ kj5 =>
    have H := HA.out
    clear HA
    simp only [whorltop_TopThree.j0] at H
    by_cases c29 : x61_5 = true
    ·subst c29
     rw [if_pos rfl] at H
     obtain rfl := Option.some.inj H
     go_wp2
     repeat (go_quiet (fail); try go_wp2)
     go_ret
     exact ⟨eR, uB⟩
    ·replace c29 := Bool.eq_false_iff.mpr c29
     subst c29
     rw [if_neg (by decide)] at H
     have H' := Aside0.mk H
     clear H
     go_wp2
     repeat (go_quiet (fail); try go_wp2)
     go_loopg [9] kj5 (fun kq v9 w' => ∃ (x9_2 : Int), v9 = .int .i64 x9_2 ∧ Aside0 (whorltop_TopThree.l0 kq l0 t588 x9_2 = some r) ∧ Aside0 (kq ≤ kj5) ∧ Aside0 (Kd.R (Kd.int .i64) 3 w' w.heap.size (fun _ => True) v590 t588) ∧ Aside0 (Below w.heap.size w w'))
     case atStart => exact ⟨(1), sD, H', ⟨Nat.le_refl _⟩, ⟨uR HO_3.out⟩, ⟨uB⟩⟩
     case round =>
      clear H'
      try clear c1
      try clear c2
      try clear c2b0
      try clear c2b1
      try clear p2
      try clear c3
      try clear c10
      try clear c10b0
      try clear c10b1
      try clear c11
      try clear c11b0
      try clear c11b1
      try clear c12
      try clear c12b0
      try clear c12b1
      try clear c13
      try clear c13b0
      try clear c13b1
      try clear c13b2
      try clear c15
      try clear c17
      try clear c29
      try clear p2
      obtain ⟨x9_2, rfl, HA, HK2, HO_3, HB⟩ := hrel
      cases gk with
      | zero => exact absurd HA.out (by simp [whorltop_TopThree.l0])
      | succ k2 =>
       have H := HA.out
       clear HA
       simp only [whorltop_TopThree.l0] at H
       rcases ifC H with ⟨c30b0, H⟩ | ⟨c30b0, H⟩
       ·obtain ⟨ji31, hji31⟩ : ∃ j_ : Int, (wrap64 (x9_2 - 1)) = j_ := ⟨_, rfl⟩
        first | rw [hji31] at H | simp only [hji31] at H
        have hji31w : (IntKind.i64.wrap (x9_2 - 1)) = ji31 := (i64_w _).trans hji31
        obtain ⟨c32b0, c33b0, H⟩ := ifD2 H
        obtain ⟨c34b0, c34b1, H⟩ := ifE H
        obtain ⟨c35b0, c35b1, H⟩ := ifE H
        obtain ⟨c36b0, H⟩ := ifD H
        obtain ⟨c37b0, c37b1, H⟩ := ifE H
        obtain ⟨c38b0, c38b1, H⟩ := ifE H
        obtain ⟨t607, A39, H⟩ := bdS H
        try dsimp only at H
        rcases ifG H with ⟨c40b0, H⟩ | ⟨c40b0, H⟩
        ·obtain rfl := Option.some.inj H
         obtain ⟨Ao41, co41, eo41⟩ := Kd.R_slice HO_3.out
         subst eo41
         obtain ⟨ad603, e603, hx603_0, p603, q603⟩ := rI (Kd.R_reads' HO_3.out).2.2 (ji31)
         cases e603
         obtain ⟨i042, hi042, _, hsz42, _⟩ := info_parts info5
         obtain ⟨A42, hcut42, hA42, hC42⟩ := print_drop_of (P := Try.prog) (Value.int .u8) 0 22 5 .i64 Try.underlying22 hi042 hsz42 A0 c0 l0 (rd t588 (ji31)) dT dT HC0.out
         have HR604 := Aside0.mk (Kd.C_of_reads (h1 := fun _ => rfl) (hA42 _ (Kd.reads_of_C HR0.out)))
         have HC604 := Aside0.mk hC42
         clear hA42 hC42 hi042 hsz42
         obtain ⟨ad605, e605, hx605_0, p605, q605⟩ := rI (Kd.R_reads' HO_3.out).2.2 x9_2
         obtain rfl : ad603 = ad605 := (by injection e605)
         obtain ⟨i043, hi043, _, hsz43, _⟩ := info_parts info5
         obtain ⟨A43, hcut43, hA43, hC43⟩ := print_drop_of (P := Try.prog) (Value.int .u8) 0 22 5 .i64 Try.underlying22 hi043 hsz43 A0 c0 l0 (rd t588 x9_2) dT dT HC0.out
         have HR606 := Aside0.mk (Kd.C_of_reads (h1 := fun _ => rfl) (hA43 _ (Kd.reads_of_C HR0.out)))
         have HC606 := Aside0.mk hC43
         clear hA43 hC43 hi043 hsz43
         go_wp2_with (first | (go_at_call 9; (with_reducible refine (whorlref4_Words.calls_n k2 _ _ (l0.drop ((rd t588 (ji31)) : Int).toNat) _ ?len0 _ _ (l0.drop ((rd t588 x9_2) : Int).toNat) _ ?len1 t607 _ ?side1 ?side2 ?side3 ?side4 A39.out).mono ?_); (case len0 => first | rfl | (simp; done) | (go_simp; done) | (simp [*]; done)); (case len1 => first | rfl | (simp; done) | (go_simp; done) | (simp [*]; done)); (case side1 => exact uC (Kd.C_below HR604.out HB.out)); (case side2 => exact HC604.out); (case side3 => exact uC (Kd.C_below HR606.out HB.out)); (case side4 => exact HC606.out); rintro e w' ⟨rfl, ⟨nd, rfl⟩⟩; (try first | exact ⟨rfl, _, World.drewN_drewN _ _ _⟩ | exact ⟨rfl, _, Eq.trans (World.drewN_drewN _ _ _) (congrArg (World.drewN _) (Nat.add_assoc _ _ _))⟩)))
         repeat (go_quiet (first | (go_at_call 9; (with_reducible refine (whorlref4_Words.calls_n k2 _ _ (l0.drop ((rd t588 (ji31)) : Int).toNat) _ ?len0 _ _ (l0.drop ((rd t588 x9_2) : Int).toNat) _ ?len1 t607 _ ?side1 ?side2 ?side3 ?side4 A39.out).mono ?_); (case len0 => first | rfl | (simp; done) | (go_simp; done) | (simp [*]; done)); (case len1 => first | rfl | (simp; done) | (go_simp; done) | (simp [*]; done)); (case side1 => exact uC (Kd.C_below HR604.out HB.out)); (case side2 => exact HC604.out); (case side3 => exact uC (Kd.C_below HR606.out HB.out)); (case side4 => exact HC606.out); rintro e w' ⟨rfl, ⟨nd, rfl⟩⟩; (try first | exact ⟨rfl, _, World.drewN_drewN _ _ _⟩ | exact ⟨rfl, _, Eq.trans (World.drewN_drewN _ _ _) (congrArg (World.drewN _) (Nat.add_assoc _ _ _))⟩))); try go_wp2_with (first | (go_at_call 9; (with_reducible refine (whorlref4_Words.calls_n k2 _ _ (l0.drop ((rd t588 (ji31)) : Int).toNat) _ ?len0 _ _ (l0.drop ((rd t588 x9_2) : Int).toNat) _ ?len1 t607 _ ?side1 ?side2 ?side3 ?side4 A39.out).mono ?_); (case len0 => first | rfl | (simp; done) | (go_simp; done) | (simp [*]; done)); (case len1 => first | rfl | (simp; done) | (go_simp; done) | (simp [*]; done)); (case side1 => exact uC (Kd.C_below HR604.out HB.out)); (case side2 => exact HC604.out); (case side3 => exact uC (Kd.C_below HR606.out HB.out)); (case side4 => exact HC606.out); rintro e w' ⟨rfl, ⟨nd, rfl⟩⟩; (try first | exact ⟨rfl, _, World.drewN_drewN _ _ _⟩ | exact ⟨rfl, _, Eq.trans (World.drewN_drewN _ _ _) (congrArg (World.drewN _) (Nat.add_assoc _ _ _))⟩))))
         go_ret
         exact ⟨by first | rfl | (simp [errW_none, errW_some] <;> rfl) | (simp only [← hji31]; first | rfl | (simp [errW_none, errW_some] <;> rfl)) | (simp [*, errW_none, errW_some] <;> rfl), uB⟩
        ·have H' := Aside0.mk H
         clear H
         obtain ⟨Ao44, co44, eo44⟩ := Kd.R_slice HO_3.out
         subst eo44
         obtain ⟨ad603, e603, hx603_0, p603, q603⟩ := rI (Kd.R_reads' HO_3.out).2.2 (ji31)
         cases e603
         obtain ⟨i045, hi045, _, hsz45, _⟩ := info_parts info5
         obtain ⟨A45, hcut45, hA45, hC45⟩ := print_drop_of (P := Try.prog) (Value.int .u8) 0 22 5 .i64 Try.underlying22 hi045 hsz45 A0 c0 l0 (rd t588 (ji31)) dT dT HC0.out
         have HR604 := Aside0.mk (Kd.C_of_reads (h1 := fun _ => rfl) (hA45 _ (Kd.reads_of_C HR0.out)))
         have HC604 := Aside0.mk hC45
         clear hA45 hC45 hi045 hsz45
         obtain ⟨ad605, e605, hx605_0, p605, q605⟩ := rI (Kd.R_reads' HO_3.out).2.2 x9_2
         obtain rfl : ad603 = ad605 := (by injection e605)
         obtain ⟨i046, hi046, _, hsz46, _⟩ := info_parts info5
         obtain ⟨A46, hcut46, hA46, hC46⟩ := print_drop_of (P := Try.prog) (Value.int .u8) 0 22 5 .i64 Try.underlying22 hi046 hsz46 A0 c0 l0 (rd t588 x9_2) dT dT HC0.out
         have HR606 := Aside0.mk (Kd.C_of_reads (h1 := fun _ => rfl) (hA46 _ (Kd.reads_of_C HR0.out)))
         have HC606 := Aside0.mk hC46
         clear hA46 hC46 hi046 hsz46
         go_wp2_with (first | (go_at_call 9; (with_reducible refine (whorlref4_Words.calls_n k2 _ _ (l0.drop ((rd t588 (ji31)) : Int).toNat) _ ?len0 _ _ (l0.drop ((rd t588 x9_2) : Int).toNat) _ ?len1 t607 _ ?side1 ?side2 ?side3 ?side4 A39.out).mono ?_); (case len0 => first | rfl | (simp; done) | (go_simp; done) | (simp [*]; done)); (case len1 => first | rfl | (simp; done) | (go_simp; done) | (simp [*]; done)); (case side1 => exact uC (Kd.C_below HR604.out HB.out)); (case side2 => exact HC604.out); (case side3 => exact uC (Kd.C_below HR606.out HB.out)); (case side4 => exact HC606.out); rintro e w' ⟨rfl, ⟨nd, rfl⟩⟩; (try first | exact ⟨rfl, _, World.drewN_drewN _ _ _⟩ | exact ⟨rfl, _, Eq.trans (World.drewN_drewN _ _ _) (congrArg (World.drewN _) (Nat.add_assoc _ _ _))⟩)))
         repeat (go_quiet (first | (go_at_call 9; (with_reducible refine (whorlref4_Words.calls_n k2 _ _ (l0.drop ((rd t588 (ji31)) : Int).toNat) _ ?len0 _ _ (l0.drop ((rd t588 x9_2) : Int).toNat) _ ?len1 t607 _ ?side1 ?side2 ?side3 ?side4 A39.out).mono ?_); (case len0 => first | rfl | (simp; done) | (go_simp; done) | (simp [*]; done)); (case len1 => first | rfl | (simp; done) | (go_simp; done) | (simp [*]; done)); (case side1 => exact uC (Kd.C_below HR604.out HB.out)); (case side2 => exact HC604.out); (case side3 => exact uC (Kd.C_below HR606.out HB.out)); (case side4 => exact HC606.out); rintro e w' ⟨rfl, ⟨nd, rfl⟩⟩; (try first | exact ⟨rfl, _, World.drewN_drewN _ _ _⟩ | exact ⟨rfl, _, Eq.trans (World.drewN_drewN _ _ _) (congrArg (World.drewN _) (Nat.add_assoc _ _ _))⟩))); try go_wp2_with (first | (go_at_call 9; (with_reducible refine (whorlref4_Words.calls_n k2 _ _ (l0.drop ((rd t588 (ji31)) : Int).toNat) _ ?len0 _ _ (l0.drop ((rd t588 x9_2) : Int).toNat) _ ?len1 t607 _ ?side1 ?side2 ?side3 ?side4 A39.out).mono ?_); (case len0 => first | rfl | (simp; done) | (go_simp; done) | (simp [*]; done)); (case len1 => first | rfl | (simp; done) | (go_simp; done) | (simp [*]; done)); (case side1 => exact uC (Kd.C_below HR604.out HB.out)); (case side2 => exact HC604.out); (case side3 => exact uC (Kd.C_below HR606.out HB.out)); (case side4 => exact HC606.out); rintro e w' ⟨rfl, ⟨nd, rfl⟩⟩; (try first | exact ⟨rfl, _, World.drewN_drewN _ _ _⟩ | exact ⟨rfl, _, Eq.trans (World.drewN_drewN _ _ _) (congrArg (World.drewN _) (Nat.add_assoc _ _ _))⟩))))
         go_roundg k2
         case measure => have := HJ5.out; have := HK2.out; omega
         case rel => exact ⟨(wrap64 (x9_2 + 1)), sD, H', ⟨by have := HJ5.out; have := HK2.out; omega⟩, ⟨uR HO_3.out⟩, ⟨uB⟩⟩
       ·obtain ⟨t608, A47, H⟩ := bdS H
        try dsimp only at H
        obtain rfl := Option.some.inj H
        obtain ⟨Ao48, co48, eo48⟩ := Kd.R_slice HO_3.out
        subst eo48
        go_wp2_with (first | (go_at_call 10; (with_reducible refine (whorltop_known.calls k2  t608 _ A47.out).mono ?_); rintro e w49 ⟨rfl, hb⟩; have n0_ := Aside0.mk (Kd.R_below (uR HO_3.out) hb); have n1_ := Aside0.mk (below_step uB hb); clear HO_3; clear HB; have HO_3 := n0_; have HB := n1_; clear n0_ n1_; (try clear hb); (try clear hb2); (try clear hk); (try clear hi)))
        repeat (go_quiet (first | (go_at_call 10; (with_reducible refine (whorltop_known.calls k2  t608 _ A47.out).mono ?_); rintro e w49 ⟨rfl, hb⟩; have n0_ := Aside0.mk (Kd.R_below (uR HO_3.out) hb); have n1_ := Aside0.mk (below_step uB hb); clear HO_3; clear HB; have HO_3 := n0_; have HB := n1_; clear n0_ n1_; (try clear hb); (try clear hb2); (try clear hk); (try clear hi))); try go_wp2_with (first | (go_at_call 10; (with_reducible refine (whorltop_known.calls k2  t608 _ A47.out).mono ?_); rintro e w49 ⟨rfl, hb⟩; have n0_ := Aside0.mk (Kd.R_below (uR HO_3.out) hb); have n1_ := Aside0.mk (below_step uB hb); clear HO_3; clear HB; have HO_3 := n0_; have HB := n1_; clear n0_ n1_; (try clear hb); (try clear hb2); (try clear hk); (try clear hi))))
        go_ret
        exact ⟨eR, uB⟩
def whorltop_TopThree.Pure : Prop := ∀ (l0 : List Int), l0.length ≤ maxLen → l0.length * 1 ≤ 140737488351232 → (∀ x ∈ l0, (Lit.int .u8 x).wf = true) → ∃ k, whorltop_TopThree.f k l0 = some true
theorem whorltop_TopThree.walk (P : whorltop_TopThree.Pure) (a0 : Option Addr) (len0 cap0 : Nat) (z0 : List Int) (w : World) (w0 : (a0 = none ∧ len0 = 0 ∧ cap0 = 0 ∧ z0 = []) ∨ ∃ x, a0 = some x ∧ len0 ≤ cap0 ∧ cap0 ≤ maxLen ∧ z0.length = cap0 ∧ (∀ i, i < z0.length → w.cell? (x.add i) = some (.int .u8 (z0.getD i 0))) ∧ ∀ n ∈ z0, (Lit.int .u8 n).wf = true) (y0 : len0 * 1 ≤ 140737488351232) :
    Calls Try.prog 3 #[.slice a0 len0 cap0] w fun e w' => e = .returned (.bool true) ∧ Below w.heap.size w w' := by
  obtain ⟨l0, rfl, hr0, hm0, hw0, hc0⟩ := ReadsInt.ofRowC w0
  obtain ⟨k, h⟩ := P l0 hm0 y0 hw0
  refine (whorltop_TopThree.calls k _ _ l0 true w (Kd.C_of_reads (d := (0 : Int)) (h1 := fun _ => rfl) hr0) hc0 h).mono ?_
  rintro e w' ⟨rfl, hd⟩
  exact ⟨rfl, hd⟩
end Go.Proofs.Ytbbpplnnegdenaa.PTopThree
end
