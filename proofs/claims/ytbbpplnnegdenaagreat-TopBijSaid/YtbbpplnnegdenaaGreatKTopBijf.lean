/- Words, functions, walks and plain mathematics for TopBij, part 6: laid together by a program of this session (pack.py). -/
import Derived.Test.YtbbpplnnegdenaaGreatKTopBije
set_option linter.unusedVariables false
set_option linter.unusedSimpArgs false
set_option maxHeartbeats 8000000
set_option maxRecDepth 100000
section
namespace Go.Proofs.YtbbpplnnegdenaaGreat.PTopBij
open Go.RowKit Go.Proofs.YtbbpplnnegdenaaGreatW.PrintWords Go.Proofs.YtbbpplnnegdenaaGreatW.PrintLast Go.Proofs.YtbbpplnnegdenaaGreatW.PrintMore
attribute [local go_sem] max2_int min2_int max_two min_two max_three min_three max_four min_four
mutual
def check_SA.j0 : Nat → List Int → List Int → List Int → Bool → Option (Bool)
  | 0, _, _, _, _ => none
  | k + 1, x0, x1, x5, x23 => if x23 = true then (some false) else (if x5.length < 17592186044416 then (check_SA.l0 k x0 x1 (x5 ++ [(-1)]) 1) else (none))
def check_SA.l0 : Nat → List Int → List Int → List Int → Int → Option (Bool)
  | 0, _, _, _, _ => none
  | k + 1, x0, x1, x5, x7 => if x7 < (x1.length : Int) then (if 0 ≤ (wrap64 (x7 - 1)) then (if (wrap64 (x7 - 1)) < (x1.length : Int) then (if 0 ≤ x7 then (if 0 ≤ (rd x1 (wrap64 (x7 - 1))) then (if (rd x1 (wrap64 (x7 - 1))) < (x0.length : Int) then (if 0 ≤ (rd x1 x7) then (if (rd x1 x7) < (x0.length : Int) then (if (rd x0 (rd x1 (wrap64 (x7 - 1)))) > (rd x0 (rd x1 x7)) then (some false) else (if (rd x0 (rd x1 (wrap64 (x7 - 1)))) = (rd x0 (rd x1 x7)) then (if 0 ≤ (wrap64 ((rd x1 (wrap64 (x7 - 1))) + 1)) then (if (wrap64 ((rd x1 (wrap64 (x7 - 1))) + 1)) < (x5.length : Int) then (if 0 ≤ (wrap64 ((rd x1 x7) + 1)) then (if (wrap64 ((rd x1 x7) + 1)) < (x5.length : Int) then (if (rd x5 (wrap64 ((rd x1 (wrap64 (x7 - 1))) + 1))) > (rd x5 (wrap64 ((rd x1 x7) + 1))) then (some false) else (check_SA.l0 k x0 x1 x5 (wrap64 (x7 + 1)))) else (none)) else (none)) else (none)) else (none)) else (check_SA.l0 k x0 x1 x5 (wrap64 (x7 + 1))))) else (none)) else (none)) else (none)) else (none)) else (none)) else (none)) else (none)) else (some true)
end
def check_SA.f (k : Nat) (l0 : List Int) (l1 : List Int) : Option (Bool) := (rank_Inverse.f k l1).bind fun bt547 => (if bt547.2 = true then (check_SA.j0 k l0 l1 bt547.1 ((l1.length : Int) != (l0.length : Int))) else (check_SA.j0 k l0 l1 bt547.1 true))
theorem check_SA.mono_l : ∀ k, (∀ y0 y1 y2 y3, LeO (check_SA.j0 k y0 y1 y2 y3) (check_SA.j0 (k + 1) y0 y1 y2 y3)) ∧ (∀ y0 y1 y2 y3, LeO (check_SA.l0 k y0 y1 y2 y3) (check_SA.l0 (k + 1) y0 y1 y2 y3))
  | 0 => ⟨fun _ _ _ _ r h => by simp [check_SA.j0] at h, fun _ _ _ _ r h => by simp [check_SA.l0] at h⟩
  | k + 1 => by
    obtain ⟨ih0, ih1⟩ := check_SA.mono_l k
    refine ⟨?_, ?_⟩
    · intro y0 y1 y2 y3
      unfold check_SA.j0
      have m0 := @rank_Inverse.mono
      exact mB
    · intro y0 y1 y2 y3
      unfold check_SA.l0
      have m0 := @rank_Inverse.mono
      exact mB
theorem check_SA.mono : ∀ a0 a1 k, LeO (check_SA.f k a0 a1) (check_SA.f (k + 1) a0 a1) := by
  intro a0 a1 k
  obtain ⟨ih0, ih1⟩ := check_SA.mono_l k
  unfold check_SA.f
  have m0 := @rank_Inverse.mono
  exact mB
theorem check_SA.calls (k : Nat) (A0 : Option Addr) (c0 : Nat) (l0 : List Int) (A1 : Option Addr) (c1 : Nat) (l1 : List Int) (r : Bool) (w : World) (hr0 : Kd.C (Kd.int .u8) w A0 l0.length l0) (hc0 : l0.length ≤ c0) (hr1 : Kd.C (Kd.int .i64) w A1 l1.length l1) (hc1 : l1.length ≤ c1) (h : check_SA.f k l0 l1 = some r) :
    Calls Tryz.prog 84 #[.slice A0 l0.length c0, .slice A1 l1.length c1] w fun e w' => e = .returned (.bool r) ∧ Below w.heap.size w w' := by
 have HR0 := Aside0.mk hr0
 have HC0 := Aside0.mk hc0
 clear hr0 hc0
 have HR1 := Aside0.mk hr1
 have HC1 := Aside0.mk hc1
 clear hr1 hc1
 have HB := Aside0.mk (Below.refl w.heap.size w)
 have H := h
 clear h
 unfold check_SA.f at H
 obtain ⟨⟨t547, t548⟩, A3, H⟩ := bdS H
 try dsimp only at H
 have HC4 := Aside0.mk H
 clear H
 go_enter Tryz.func84, Tryz.ntmps84
 go_upto_region 2 with (first | (go_at_call 72; (with_reducible refine (rank_Inverse.calls k _ _ l1 t547 t548 _ ?side1 ?side2 A3.out).mono ?_); (case side1 => exact uC HR1.out); (case side2 => exact HC1.out); rintro e w5 ⟨v549, rfl, ho0, hb⟩; have n0_ := Aside0.mk (Kd.R_lower ho0 (below_size uB)); have n1_ := Aside0.mk (below_step uB hb); clear HB; have HO550 := n0_; have HB := n1_; clear n0_ n1_))
 repeat (go_quiet (first | (go_at_call 72; (with_reducible refine (rank_Inverse.calls k _ _ l1 t547 t548 _ ?side1 ?side2 A3.out).mono ?_); (case side1 => exact uC HR1.out); (case side2 => exact HC1.out); rintro e w5 ⟨v549, rfl, ho0, hb⟩; have n0_ := Aside0.mk (Kd.R_lower ho0 (below_size uB)); have n1_ := Aside0.mk (below_step uB hb); clear HB; have HO550 := n0_; have HB := n1_; clear n0_ n1_)); go_upto_region 2 with (first | (go_at_call 72; (with_reducible refine (rank_Inverse.calls k _ _ l1 t547 t548 _ ?side1 ?side2 A3.out).mono ?_); (case side1 => exact uC HR1.out); (case side2 => exact HC1.out); rintro e w5 ⟨v549, rfl, ho0, hb⟩; have n0_ := Aside0.mk (Kd.R_lower ho0 (below_size uB)); have n1_ := Aside0.mk (below_step uB hb); clear HB; have HO550 := n0_; have HB := n1_; clear n0_ n1_)))
 (try simp only [Act.put, List.setIfInBounds_toArray, List.set_cons_zero, List.set_cons_succ])
 go_cut [23] (fun v23 wc => ∃ (kq : Nat) (x23_3 : Bool), v23 = .bool x23_3 ∧ Aside0 (check_SA.j0 kq l0 l1 t547 x23_3 = some r) ∧ Aside0 (kq ≤ k) ∧ Aside0 (Kd.R (Kd.int .i64) 3 wc w.heap.size (fun _ => True) v549 t547) ∧ Aside0 (Below w.heap.size w wc))
 case first =>
  have H := HC4.out
  clear HC4
  by_cases c6 : t548 = true
  ·subst c6
   rw [if_pos rfl] at H
   have H' := Aside0.mk H
   clear H
   go_wp2
   repeat (go_quiet (fail); try go_wp2)
   go_meet
   case rel => exact ⟨_, (((l1.length : Int) != (l0.length : Int))), sD, H', ⟨by first | omega | exact Nat.le_refl _⟩, ⟨uR HO550.out⟩, ⟨uB⟩⟩
  ·replace c6 := Bool.eq_false_iff.mpr c6
   subst c6
   rw [if_neg (by decide)] at H
   have H' := Aside0.mk H
   clear H
   go_wp2
   repeat (go_quiet (fail); try go_wp2)
   go_meet
   case rel => exact ⟨_, (true), sD, H', ⟨by first | omega | exact Nat.le_refl _⟩, ⟨uR HO550.out⟩, ⟨uB⟩⟩
 case rest =>
  clear HC4
  obtain ⟨kq, x23_3, rfl, HA, HJ3, HO_5, HB⟩ := hcut
  cases kq with
  | zero => exact absurd HA.out (by simp [check_SA.j0])
  | succ kj3 =>
   have H := HA.out
   clear HA
   simp only [check_SA.j0] at H
   by_cases c7 : x23_3 = true
   ·subst c7
    rw [if_pos rfl] at H
    obtain rfl := Option.some.inj H
    go_wp2
    repeat (go_quiet (fail); try go_wp2)
    go_ret
    exact ⟨eR, uB⟩
   ·replace c7 := Bool.eq_false_iff.mpr c7
    subst c7
    rw [if_neg (by decide)] at H
    obtain ⟨c8, H⟩ := ifP H
    have LMc8 := Aside0.mk c8
    clear c8
    generalize hy551 : (t547 ++ [(-1)] : List Int) = y551 at H
    try simp only [Option.bind_some] at H
    have Ny551 := Aside0.mk hy551.symm
    clear hy551
    have H' := Aside0.mk H
    clear H
    go_wp2_with (first | ((with_reducible refine gate_builtin (b := .append) (xs := #[.tmp 24, .tmp 25]) rfl ?_); (try (refine gate_guard (by rfl) ?_; dsimp only)); at_builtin; refine Kd.R_append (Kd.int .i64) (w0 := w) w.heap.size rfl (.tmp 24) (.tmp 25) 29 3 (.int .i64 0) 8 rfl Tryz.underlying29 info3 rfl (by decide) (by omega) v549 t547 (-1) [.int .i64 (-1)] (fun _ => True) (fun _ => False) rfl rfl ?aP (fun _ hk => hk.elim) ?aF ?aO ?aB ?aS ?aL ?_; (case aP => exact rfl); (case aB => exact uB); (case aF => exact (fun _ _ => trivial)); (case aO => exact (uR HO_5.out)); (case aS => exact (below_size uB)); (case aL => have := LMc8.out; omega); intro v552 w9 ho hb hg hat; rw [← Ny551.out] at ho; have n0_ := Aside0.mk (hb); have n1_ := Aside0.mk (ho); clear HB HO_5; have HB := n0_; have HO553 := n1_; clear n0_ n1_; clear ho hb hg hat))
    repeat (go_quiet (first | ((with_reducible refine gate_builtin (b := .append) (xs := #[.tmp 24, .tmp 25]) rfl ?_); (try (refine gate_guard (by rfl) ?_; dsimp only)); at_builtin; refine Kd.R_append (Kd.int .i64) (w0 := w) w.heap.size rfl (.tmp 24) (.tmp 25) 29 3 (.int .i64 0) 8 rfl Tryz.underlying29 info3 rfl (by decide) (by omega) v549 t547 (-1) [.int .i64 (-1)] (fun _ => True) (fun _ => False) rfl rfl ?aP (fun _ hk => hk.elim) ?aF ?aO ?aB ?aS ?aL ?_; (case aP => exact rfl); (case aB => exact uB); (case aF => exact (fun _ _ => trivial)); (case aO => exact (uR HO_5.out)); (case aS => exact (below_size uB)); (case aL => have := LMc8.out; omega); intro v552 w9 ho hb hg hat; rw [← Ny551.out] at ho; have n0_ := Aside0.mk (hb); have n1_ := Aside0.mk (ho); clear HB HO_5; have HB := n0_; have HO553 := n1_; clear n0_ n1_; clear ho hb hg hat)); try go_wp2_with (first | ((with_reducible refine gate_builtin (b := .append) (xs := #[.tmp 24, .tmp 25]) rfl ?_); (try (refine gate_guard (by rfl) ?_; dsimp only)); at_builtin; refine Kd.R_append (Kd.int .i64) (w0 := w) w.heap.size rfl (.tmp 24) (.tmp 25) 29 3 (.int .i64 0) 8 rfl Tryz.underlying29 info3 rfl (by decide) (by omega) v549 t547 (-1) [.int .i64 (-1)] (fun _ => True) (fun _ => False) rfl rfl ?aP (fun _ hk => hk.elim) ?aF ?aO ?aB ?aS ?aL ?_; (case aP => exact rfl); (case aB => exact uB); (case aF => exact (fun _ _ => trivial)); (case aO => exact (uR HO_5.out)); (case aS => exact (below_size uB)); (case aL => have := LMc8.out; omega); intro v552 w9 ho hb hg hat; rw [← Ny551.out] at ho; have n0_ := Aside0.mk (hb); have n1_ := Aside0.mk (ho); clear HB HO_5; have HB := n0_; have HO553 := n1_; clear n0_ n1_; clear ho hb hg hat)))
    go_loopg [7] kj3 (fun kq v7 w' => ∃ (x7_2 : Int), v7 = .int .i64 x7_2 ∧ Aside0 (check_SA.l0 kq l0 l1 y551 x7_2 = some r) ∧ Aside0 (kq ≤ kj3) ∧ Aside0 (Kd.R (Kd.int .i64) 3 w' w.heap.size (fun _ => True) v552 y551) ∧ Aside0 (Below w.heap.size w w'))
    case atStart => exact ⟨(1), sD, H', ⟨Nat.le_refl _⟩, ⟨uR HO553.out⟩, ⟨uB⟩⟩
    case round =>
     clear H'
     obtain ⟨x7_2, rfl, HA, HK2, HO_5, HB⟩ := hrel
     cases gk with
     | zero => exact absurd HA.out (by simp [check_SA.l0])
     | succ k2 =>
      have H := HA.out
      clear HA
      simp only [check_SA.l0] at H
      rcases ifC H with ⟨c10b0, H⟩ | ⟨c10b0, H⟩
      ·obtain ⟨ji11, hji11⟩ : ∃ j_ : Int, (wrap64 (x7_2 - 1)) = j_ := ⟨_, rfl⟩
       first | rw [hji11] at H | simp only [hji11] at H
       have hji11w : (IntKind.i64.wrap (x7_2 - 1)) = ji11 := (i64_w _).trans hji11
       obtain ⟨c12b0, H⟩ := ifD H
       obtain ⟨c13b0, c14b0, H⟩ := ifD2 H
       obtain ⟨c15b0, c16b0, H⟩ := ifD2 H
       obtain ⟨c17b0, c18b0, H⟩ := ifD2 H
       rcases ifK H with ⟨c19b0, H⟩ | ⟨c19b0, H⟩
       ·obtain rfl := Option.some.inj H
        obtain ⟨ad554, e554, hx554_0, p554, q554⟩ := rIO HB.out HR1.out (ji11)
        cases e554
        obtain ⟨ad555, e555, hx555_0, p555, q555⟩ := rIO HB.out HR1.out x7_2
        obtain rfl : ad554 = ad555 := (by injection e555)
        obtain ⟨ad556, e556, hx556_0, p556, q556⟩ := rIO HB.out HR0.out (rd l1 (ji11))
        cases e556
        obtain ⟨ad557, e557, hx557_0, p557, q557⟩ := rIO HB.out HR0.out (rd l1 x7_2)
        obtain rfl : ad556 = ad557 := (by injection e557)
        go_wp2
        repeat (go_quiet (fail); try go_wp2)
        go_ret
        exact ⟨by first | rfl | (simp [errW_none, errW_some] <;> rfl) | (simp only [← hji11]; first | rfl | (simp [errW_none, errW_some] <;> rfl)) | (simp [*, errW_none, errW_some] <;> rfl), uB⟩
       ·by_cases c20 : (rd l0 (rd l1 (ji11))) = (rd l0 (rd l1 x7_2))
        ·rw [if_pos c20] at H
         have c20b0 : ((rd l0 (rd l1 (ji11))) == (rd l0 (rd l1 x7_2))) = true := beq_iff_eq.mpr c20
         have c20b1 : ((rd l0 (rd l1 (ji11))) != (rd l0 (rd l1 x7_2))) = false := bne_eq_false_iff_eq.mpr c20
         clear c20
         obtain ⟨ji21, hji21⟩ : ∃ j_ : Int, (wrap64 ((rd l1 (ji11)) + 1)) = j_ := ⟨_, rfl⟩
         first | rw [hji21] at H | simp only [hji21] at H
         have hji21w : (IntKind.i64.wrap ((rd l1 (ji11)) + 1)) = ji21 := (i64_w _).trans hji21
         obtain ⟨c22b0, c23b0, H⟩ := ifD2 H
         obtain ⟨ji24, hji24⟩ : ∃ j_ : Int, (wrap64 ((rd l1 x7_2) + 1)) = j_ := ⟨_, rfl⟩
         first | rw [hji24] at H | simp only [hji24] at H
         have hji24w : (IntKind.i64.wrap ((rd l1 x7_2) + 1)) = ji24 := (i64_w _).trans hji24
         obtain ⟨c25b0, c26b0, H⟩ := ifD2 H
         rcases ifK H with ⟨c27b0, H⟩ | ⟨c27b0, H⟩
         ·obtain rfl := Option.some.inj H
          obtain ⟨ad554, e554, hx554_0, p554, q554⟩ := rIO HB.out HR1.out (ji11)
          cases e554
          obtain ⟨ad555, e555, hx555_0, p555, q555⟩ := rIO HB.out HR1.out x7_2
          obtain rfl : ad554 = ad555 := (by injection e555)
          obtain ⟨ad556, e556, hx556_0, p556, q556⟩ := rIO HB.out HR0.out (rd l1 (ji11))
          cases e556
          obtain ⟨ad557, e557, hx557_0, p557, q557⟩ := rIO HB.out HR0.out (rd l1 x7_2)
          obtain rfl : ad556 = ad557 := (by injection e557)
          obtain ⟨ad558, e558, hx558_0, p558, q558⟩ := rIO HB.out HR0.out (rd l1 (ji11))
          obtain rfl : ad556 = ad558 := (by injection e558)
          obtain ⟨ad559, e559, hx559_0, p559, q559⟩ := rIO HB.out HR0.out (rd l1 x7_2)
          obtain rfl : ad556 = ad559 := (by injection e559)
          obtain ⟨Ao28, co28, eo28⟩ := Kd.R_slice HO_5.out
          subst eo28
          obtain ⟨ad560, e560, hx560_0, p560, q560⟩ := rI (Kd.R_reads' HO_5.out).2.2 (ji21)
          cases e560
          obtain ⟨ad561, e561, hx561_0, p561, q561⟩ := rI (Kd.R_reads' HO_5.out).2.2 (ji24)
          obtain rfl : ad560 = ad561 := (by injection e561)
          go_wp2
          repeat (go_quiet (fail); try go_wp2)
          go_ret
          exact ⟨by first | rfl | (simp [errW_none, errW_some] <;> rfl) | (simp only [← hji11, ← hji21, ← hji24]; first | rfl | (simp [errW_none, errW_some] <;> rfl)) | (simp [*, errW_none, errW_some] <;> rfl), uB⟩
         ·have H' := Aside0.mk H
          clear H
          obtain ⟨ad554, e554, hx554_0, p554, q554⟩ := rIO HB.out HR1.out (ji11)
          cases e554
          obtain ⟨ad555, e555, hx555_0, p555, q555⟩ := rIO HB.out HR1.out x7_2
          obtain rfl : ad554 = ad555 := (by injection e555)
          obtain ⟨ad556, e556, hx556_0, p556, q556⟩ := rIO HB.out HR0.out (rd l1 (ji11))
          cases e556
          obtain ⟨ad557, e557, hx557_0, p557, q557⟩ := rIO HB.out HR0.out (rd l1 x7_2)
          obtain rfl : ad556 = ad557 := (by injection e557)
          obtain ⟨ad558, e558, hx558_0, p558, q558⟩ := rIO HB.out HR0.out (rd l1 (ji11))
          obtain rfl : ad556 = ad558 := (by injection e558)
          obtain ⟨ad559, e559, hx559_0, p559, q559⟩ := rIO HB.out HR0.out (rd l1 x7_2)
          obtain rfl : ad556 = ad559 := (by injection e559)
          obtain ⟨Ao29, co29, eo29⟩ := Kd.R_slice HO_5.out
          subst eo29
          obtain ⟨ad560, e560, hx560_0, p560, q560⟩ := rI (Kd.R_reads' HO_5.out).2.2 (ji21)
          cases e560
          obtain ⟨ad561, e561, hx561_0, p561, q561⟩ := rI (Kd.R_reads' HO_5.out).2.2 (ji24)
          obtain rfl : ad560 = ad561 := (by injection e561)
          go_wp2
          repeat (go_quiet (fail); try go_wp2)
          go_roundg k2
          case measure => have := HJ3.out; have := HK2.out; omega
          case rel => exact ⟨(wrap64 (x7_2 + 1)), sD, H', ⟨by have := HJ3.out; have := HK2.out; omega⟩, ⟨uR HO_5.out⟩, ⟨uB⟩⟩
        ·rw [if_neg c20] at H
         have c20b0 : ((rd l0 (rd l1 (ji11))) == (rd l0 (rd l1 x7_2))) = false := beq_eq_false_iff_ne.mpr c20
         have c20b1 : ((rd l0 (rd l1 (ji11))) != (rd l0 (rd l1 x7_2))) = true := bne_iff_ne.mpr c20
         have H' := Aside0.mk H
         clear H
         obtain ⟨ad554, e554, hx554_0, p554, q554⟩ := rIO HB.out HR1.out (ji11)
         cases e554
         obtain ⟨ad555, e555, hx555_0, p555, q555⟩ := rIO HB.out HR1.out x7_2
         obtain rfl : ad554 = ad555 := (by injection e555)
         obtain ⟨ad556, e556, hx556_0, p556, q556⟩ := rIO HB.out HR0.out (rd l1 (ji11))
         cases e556
         obtain ⟨ad557, e557, hx557_0, p557, q557⟩ := rIO HB.out HR0.out (rd l1 x7_2)
         obtain rfl : ad556 = ad557 := (by injection e557)
         obtain ⟨ad558, e558, hx558_0, p558, q558⟩ := rIO HB.out HR0.out (rd l1 (ji11))
         obtain rfl : ad556 = ad558 := (by injection e558)
         obtain ⟨ad559, e559, hx559_0, p559, q559⟩ := rIO HB.out HR0.out (rd l1 x7_2)
         obtain rfl : ad556 = ad559 := (by injection e559)
         go_wp2
         repeat (go_quiet (fail); try go_wp2)
         go_roundg k2
         case measure => have := HJ3.out; have := HK2.out; omega
         case rel => exact ⟨(wrap64 (x7_2 + 1)), sD, H', ⟨by have := HJ3.out; have := HK2.out; omega⟩, ⟨uR HO_5.out⟩, ⟨uB⟩⟩
      ·obtain rfl := Option.some.inj H
       go_wp2
       repeat (go_quiet (fail); try go_wp2)
       go_ret
       exact ⟨eR, uB⟩
def check_LCP.f (k : Nat) (l0 : List Int) (l1 : List Int) (l2 : List Int) : Option (Bool) := (kasai_LCP.f k l0 l1).bind fun bt562 => ((check_SA.f k l0 l1).bind fun t566 => (if t566 = true then ((slices_Equal_int_int.f k bt562.1 l2).bind fun t567 => (some t567)) else (some false)))
theorem check_LCP.mono : ∀ a0 a1 a2 k, LeO (check_LCP.f k a0 a1 a2) (check_LCP.f (k + 1) a0 a1 a2) := by
  intro a0 a1 a2 k
  unfold check_LCP.f
  have m0 := @check_SA.mono
  have m1 := @kasai_LCP.mono
  have m2 := @slices_Equal_int_int.mono
  exact mB
theorem check_LCP.calls (k : Nat) (A0 : Option Addr) (c0 : Nat) (l0 : List Int) (A1 : Option Addr) (c1 : Nat) (l1 : List Int) (A2 : Option Addr) (c2 : Nat) (l2 : List Int) (r : Bool) (w : World) (hr0 : Kd.C (Kd.int .u8) w A0 l0.length l0) (hc0 : l0.length ≤ c0) (hr1 : Kd.C (Kd.int .i64) w A1 l1.length l1) (hc1 : l1.length ≤ c1) (hr2 : Kd.C (Kd.int .i64) w A2 l2.length l2) (hc2 : l2.length ≤ c2) (h : check_LCP.f k l0 l1 l2 = some r) :
    Calls Tryz.prog 64 #[.slice A0 l0.length c0, .slice A1 l1.length c1, .slice A2 l2.length c2] w fun e w' => e = .returned (.bool r) ∧ Below w.heap.size w w' := by
 have HR0 := Aside0.mk hr0
 have HC0 := Aside0.mk hc0
 clear hr0 hc0
 have HR1 := Aside0.mk hr1
 have HC1 := Aside0.mk hc1
 clear hr1 hc1
 have HR2 := Aside0.mk hr2
 have HC2 := Aside0.mk hc2
 clear hr2 hc2
 have HB := Aside0.mk (Below.refl w.heap.size w)
 have H := h
 clear h
 unfold check_LCP.f at H
 obtain ⟨⟨t562, t563⟩, A4, H⟩ := bdS H
 try dsimp only at H
 obtain ⟨t566, A5, H⟩ := bdS H
 try dsimp only at H
 by_cases c6 : t566 = true
 ·subst c6
  rw [if_pos rfl] at H
  obtain ⟨t567, A7, H⟩ := bdS H
  try dsimp only at H
  obtain rfl := Option.some.inj H
  go_enter Tryz.func64, Tryz.ntmps64
  go_wp2_with (first | ((with_reducible refine gate_callee (f := 61) rfl ?_); refine goesL_ (some 12) rfl rfl Tryz.func61 (by kernel_rfl) rfl #[.slice A0 l0.length c0, .slice A1 l1.length c1] rfl aE ?_; (with_reducible refine (kasai_LCP.calls k _ _ l0 _ _ l1 t562 t563 _ ?side1 ?side2 ?side3 ?side4 A4.out).mono ?_); (case side1 => exact uC HR0.out); (case side2 => exact HC0.out); (case side3 => exact uC HR1.out); (case side4 => exact HC1.out); rintro e w8 ⟨v564, rfl, ho0, hb⟩; refine ⟨_, rfl, ?_⟩; have n0_ := Aside0.mk (Kd.R_lower ho0 (below_size uB)); have n1_ := Aside0.mk (below_step uB hb); clear HB; have HO565 := n0_; have HB := n1_; clear n0_ n1_) | ((with_reducible refine gate_callee (f := 84) rfl ?_); refine goesL_ (some 17) rfl rfl Tryz.func84 (by kernel_rfl) rfl #[.slice A0 l0.length c0, .slice A1 l1.length c1] rfl aE ?_; (with_reducible refine (check_SA.calls k _ _ l0 _ _ l1 true _ ?side1 ?side2 ?side3 ?side4 A5.out).mono ?_); (case side1 => exact uC (Kd.C_below HR0.out HB.out)); (case side2 => exact HC0.out); (case side3 => exact uC (Kd.C_below HR1.out HB.out)); (case side4 => exact HC1.out); rintro e w9 ⟨rfl, hb⟩; refine ⟨_, rfl, ?_⟩; have n0_ := Aside0.mk (Kd.R_below (uR HO565.out) hb); have n1_ := Aside0.mk (below_step uB hb); clear HO565 HB; have HO565 := n0_; have HB := n1_; clear n0_ n1_; obtain ⟨Ao10, co10, eo10⟩ := Kd.R_slice HO565.out; subst eo10) | (go_at_call 63; (with_reducible refine (slices_Equal_int_int.calls k _ _ t562 _ _ l2 t567 _ ?side1 ?side2 ?side3 ?side4 A7.out).mono ?_); (case side1 => exact uC (Kd.R_reads' HO565.out).2.2); (case side2 => exact (Kd.R_reads' HO565.out).2.1); (case side3 => exact uC (Kd.C_below HR2.out HB.out)); (case side4 => exact HC2.out); rintro e w' ⟨rfl, ⟨nd, rfl⟩⟩))
  go_ret
  exact ⟨eR, uB⟩
 ·replace c6 := Bool.eq_false_iff.mpr c6
  subst c6
  rw [if_neg (by decide)] at H
  obtain rfl := Option.some.inj H
  go_enter Tryz.func64, Tryz.ntmps64
  go_wp2_with (first | ((with_reducible refine gate_callee (f := 61) rfl ?_); refine goesL_ (some 12) rfl rfl Tryz.func61 (by kernel_rfl) rfl #[.slice A0 l0.length c0, .slice A1 l1.length c1] rfl aE ?_; (with_reducible refine (kasai_LCP.calls k _ _ l0 _ _ l1 t562 t563 _ ?side1 ?side2 ?side3 ?side4 A4.out).mono ?_); (case side1 => exact uC HR0.out); (case side2 => exact HC0.out); (case side3 => exact uC HR1.out); (case side4 => exact HC1.out); rintro e w11 ⟨v564, rfl, ho0, hb⟩; refine ⟨_, rfl, ?_⟩; have n0_ := Aside0.mk (Kd.R_lower ho0 (below_size uB)); have n1_ := Aside0.mk (below_step uB hb); clear HB; have HO565 := n0_; have HB := n1_; clear n0_ n1_) | ((with_reducible refine gate_callee (f := 84) rfl ?_); refine goesL_ (some 17) rfl rfl Tryz.func84 (by kernel_rfl) rfl #[.slice A0 l0.length c0, .slice A1 l1.length c1] rfl aE ?_; (with_reducible refine (check_SA.calls k _ _ l0 _ _ l1 false _ ?side1 ?side2 ?side3 ?side4 A5.out).mono ?_); (case side1 => exact uC (Kd.C_below HR0.out HB.out)); (case side2 => exact HC0.out); (case side3 => exact uC (Kd.C_below HR1.out HB.out)); (case side4 => exact HC1.out); rintro e w12 ⟨rfl, hb⟩; refine ⟨_, rfl, ?_⟩; have n0_ := Aside0.mk (Kd.R_below (uR HO565.out) hb); have n1_ := Aside0.mk (below_step uB hb); clear HO565 HB; have HO565 := n0_; have HB := n1_; clear n0_ n1_))
  go_ret
  exact ⟨eR, uB⟩
def whorlref4_Ints.l0 : Nat → List Int → List Int → Int → Option (Bool)
  | 0, _, _, _ => none
  | k + 1, x0, x1, x5 => if x5 < (x0.length : Int) then (if 0 ≤ x5 then (if x5 < (x1.length : Int) then (if (rd x0 x5) = (rd x1 x5) then (whorlref4_Ints.l0 k x0 x1 (wrap64 (x5 + 1))) else (some false)) else (none)) else (none)) else (some true)
def whorlref4_Ints.f (k : Nat) (l0 : List Int) (l1 : List Int) : Option (Bool) := if (l0.length : Int) = (l1.length : Int) then (whorlref4_Ints.l0 k l0 l1 0) else (some false)
theorem whorlref4_Ints.mono_l : ∀ k, (∀ y0 y1 y2, LeO (whorlref4_Ints.l0 k y0 y1 y2) (whorlref4_Ints.l0 (k + 1) y0 y1 y2))
  | 0 => fun _ _ _ r h => by simp [whorlref4_Ints.l0] at h
  | k + 1 => by
    have ih0 := whorlref4_Ints.mono_l k
    · intro y0 y1 y2
      unfold whorlref4_Ints.l0
      exact mB
theorem whorlref4_Ints.mono : ∀ a0 a1 k, LeO (whorlref4_Ints.f k a0 a1) (whorlref4_Ints.f (k + 1) a0 a1) := by
  intro a0 a1 k
  have ih0 := whorlref4_Ints.mono_l k
  unfold whorlref4_Ints.f
  exact mB
theorem whorlref4_Ints.calls (k : Nat) (A0 : Option Addr) (c0 : Nat) (l0 : List Int) (A1 : Option Addr) (c1 : Nat) (l1 : List Int) (r : Bool) (w : World) (hr0 : Kd.C (Kd.int .i64) w A0 l0.length l0) (hc0 : l0.length ≤ c0) (hr1 : Kd.C (Kd.int .i64) w A1 l1.length l1) (hc1 : l1.length ≤ c1) (h : whorlref4_Ints.f k l0 l1 = some r) :
    Calls Tryz.prog 32 #[.slice A0 l0.length c0, .slice A1 l1.length c1] w fun e w' => e = .returned (.bool r) ∧ Drawn0 w w' := by
 have HR0 := Aside0.mk hr0
 have HC0 := Aside0.mk hc0
 clear hr0 hc0
 have HR1 := Aside0.mk hr1
 have HC1 := Aside0.mk hc1
 clear hr1 hc1
 have H := h
 clear h
 unfold whorlref4_Ints.f at H
 by_cases c3 : (l0.length : Int) = (l1.length : Int)
 ·rw [if_pos c3] at H
  have c3b0 : ((l0.length : Int) == (l1.length : Int)) = true := beq_iff_eq.mpr c3
  have c3b1 : ((l0.length : Int) != (l1.length : Int)) = false := bne_eq_false_iff_eq.mpr c3
  have c3b2 : (l0.length == l1.length) = true := by first | simpa using c3 | (simp at c3 ⊢; omega)
  clear c3
  have H' := Aside0.mk H
  clear H
  go_enter Tryz.func32, Tryz.ntmps32
  go_wp2
  repeat (go_quiet (fail); try go_wp2)
  go_loopg [5] k (fun kq v5 w' => ∃ (x5_1 : Int), v5 = .int .i64 x5_1 ∧ Aside0 (whorlref4_Ints.l0 kq l0 l1 x5_1 = some r) ∧ Aside0 (kq ≤ k) ∧ Drawn0 w w')
  case atStart => exact ⟨(0), sD, H', ⟨Nat.le_refl _⟩, dD⟩
  case round =>
   clear H'
   obtain ⟨x5_1, rfl, HA, HK1, ⟨m1, rfl⟩⟩ := hrel
   cases gk with
   | zero => exact absurd HA.out (by simp [whorlref4_Ints.l0])
   | succ k1 =>
    have H := HA.out
    clear HA
    simp only [whorlref4_Ints.l0] at H
    rcases ifC H with ⟨c4b0, H⟩ | ⟨c4b0, H⟩
    ·obtain ⟨c5b0, c6b0, H⟩ := ifD2 H
     by_cases c7 : (rd l0 x5_1) = (rd l1 x5_1)
     ·rw [if_pos c7] at H
      have c7b0 : ((rd l0 x5_1) == (rd l1 x5_1)) = true := beq_iff_eq.mpr c7
      have c7b1 : ((rd l0 x5_1) != (rd l1 x5_1)) = false := bne_eq_false_iff_eq.mpr c7
      clear c7
      have H' := Aside0.mk H
      clear H
      obtain ⟨ad568, e568, hx568_0, p568, q568⟩ := rI HR0.out x5_1
      cases e568
      obtain ⟨ad569, e569, hx569_0, p569, q569⟩ := rI HR1.out x5_1
      cases e569
      go_wp2
      repeat (go_quiet (fail); try go_wp2)
      go_roundg k1
      case measure => have := HK1.out; omega
      case rel => exact ⟨(wrap64 (x5_1 + 1)), sD, H', ⟨by have := HK1.out; omega⟩, dD⟩
     ·rw [if_neg c7] at H
      have c7b0 : ((rd l0 x5_1) == (rd l1 x5_1)) = false := beq_eq_false_iff_ne.mpr c7
      have c7b1 : ((rd l0 x5_1) != (rd l1 x5_1)) = true := bne_iff_ne.mpr c7
      obtain rfl := Option.some.inj H
      obtain ⟨ad568, e568, hx568_0, p568, q568⟩ := rI HR0.out x5_1
      cases e568
      obtain ⟨ad569, e569, hx569_0, p569, q569⟩ := rI HR1.out x5_1
      cases e569
      go_wp2
      repeat (go_quiet (fail); try go_wp2)
      go_ret
      exact ⟨sD, dD⟩
    ·obtain rfl := Option.some.inj H
     go_wp2
     repeat (go_quiet (fail); try go_wp2)
     go_ret
     exact ⟨sD, dD⟩
 ·rw [if_neg c3] at H
  have c3b0 : ((l0.length : Int) == (l1.length : Int)) = false := beq_eq_false_iff_ne.mpr c3
  have c3b1 : ((l0.length : Int) != (l1.length : Int)) = true := bne_iff_ne.mpr c3
  have c3b2 : (l0.length == l1.length) = false := by first | simpa using c3 | (simp at c3 ⊢; omega)
  obtain rfl := Option.some.inj H
  go_enter Tryz.func32, Tryz.ntmps32
  go_wp2
  repeat (go_quiet (fail); try go_wp2)
  go_ret
  exact ⟨sD, dD⟩
def whorltop_known.f (k : Nat)  : Option (Bool) := some true
theorem whorltop_known.mono : ∀ k, LeO (whorltop_known.f k ) (whorltop_known.f (k + 1) ) := fun k => LeO.refl _
theorem whorltop_known.A1 : sais_Bytes.f 600 [98, 97, 110, 97, 110, 97] = some ([5, 3, 1, 0, 4, 2], 0) := by decide +kernel
theorem whorltop_known.A2 : skew_Bytes.f 200 [98, 97, 110, 97, 110, 97] = some ([5, 3, 1, 0, 4, 2], 0) := by decide +kernel
theorem whorltop_known.A3 : double_Bytes.f 100 [98, 97, 110, 97, 110, 97] = some ([5, 3, 1, 0, 4, 2], 0) := by decide +kernel
theorem whorltop_known.A4 : kasai_LCP.f 100 [98, 97, 110, 97, 110, 97] [5, 3, 1, 0, 4, 2] = some ([0, 1, 3, 0, 0, 2], true) := by decide +kernel
theorem whorltop_known.A5 : phi_LCP.f 100 [98, 97, 110, 97, 110, 97] [5, 3, 1, 0, 4, 2] = some ([0, 1, 3, 0, 0, 2], true) := by decide +kernel
theorem whorltop_known.A6 : check_LCP.f 100 [98, 97, 110, 97, 110, 97] [5, 3, 1, 0, 4, 2] [0, 1, 3, 0, 0, 2] = some true := by decide +kernel
theorem whorltop_known.A7 : slices_Equal_int_int.f 100 [5, 3, 1, 0, 4, 2] [5, 3, 1, 0, 4, 2] = some true := by decide +kernel
theorem whorltop_known.A8 : slices_Equal_int_int.f 100 [0, 1, 3, 0, 0, 2] [0, 1, 3, 0, 0, 2] = some true := by decide +kernel
theorem whorltop_known.A9 : whorlref4_Ints.f 100 [5, 3, 1, 0, 4, 2] [5, 3, 1, 0, 4, 2] = some true := by decide +kernel
theorem whorltop_known.run (w : World) (g : Nat) (x0 x1 x2 : Int) (A : Option Addr) (c : Nat) (hg : w.heap[g]? = some (.cells #[.int .i64 x0, .int .i64 x1, .int .i64 x2] 107 (0, 0)))
    (hs : Kd.C (Kd.int .u8) w A 6 [98, 97, 110, 97, 110, 97]) (hsc : 6 ≤ c) (hAg : ∀ ad, A = some ad → ad.block ≠ g) :
    Calls Tryz.prog 31 #[.pointer (some ⟨g, 0, none⟩), .slice A 6 c] w fun e w' => ∃ v Au nu cu, e = .returned (.tuple #[.agg #[v, .slice Au nu cu, .bool true], .int .i64 0]) ∧ Kd.R (Kd.int .i64) 3 w' w.heap.size (fun _ => True) v [5, 3, 1, 0, 4, 2] ∧ w.grownBy w' (some g) :=
  Go.Proofs.YtbbpplnnegdenaaGreat.Rn.run_calls w g x0 x1 x2 A c [98, 97, 110, 97, 110, 97] [5, 3, 1, 0, 4, 2] [0, 1, 3, 0, 0, 2] hg hs hsc hAg
    (fun W A c hc hC => sais_Bytes.calls 600 A c [98, 97, 110, 97, 110, 97] _ _ W hC hc whorltop_known.A1) (fun W A c hc hC => skew_Bytes.calls 200 A c [98, 97, 110, 97, 110, 97] _ _ W hC hc whorltop_known.A2) (fun W A c hc hC => double_Bytes.calls 100 A c [98, 97, 110, 97, 110, 97] _ _ W hC hc whorltop_known.A3)
    (fun W A c B d hc hd hA hB => (kasai_LCP.calls 100 A c [98, 97, 110, 97, 110, 97] B d [5, 3, 1, 0, 4, 2] _ _ W hA hc hB hd whorltop_known.A4).mono (fun _ _ ⟨v, h1, h2, h3⟩ => ⟨v, _, h1, h2, h3⟩))
    (fun W A c B d hc hd hA hB => (phi_LCP.calls 100 A c [98, 97, 110, 97, 110, 97] B d [5, 3, 1, 0, 4, 2] _ _ W hA hc hB hd whorltop_known.A5).mono (fun _ _ ⟨v, h1, h2, h3⟩ => ⟨v, _, h1, h2, h3⟩))
    (fun W A c B d hc hd hA hB => slices_Equal_int_int.calls 100 A c [5, 3, 1, 0, 4, 2] B d [5, 3, 1, 0, 4, 2] _ W hA hc hB hd whorltop_known.A7)
    (fun W A c B d hc hd hA hB => slices_Equal_int_int.calls 100 A c [0, 1, 3, 0, 0, 2] B d [0, 1, 3, 0, 0, 2] _ W hA hc hB hd whorltop_known.A8)
    (fun W A c B d C e hc hd he hA hB hC => check_LCP.calls 100 A c [98, 97, 110, 97, 110, 97] B d [5, 3, 1, 0, 4, 2] C e [0, 1, 3, 0, 0, 2] _ W hA hc hB hd hC he whorltop_known.A6)
theorem whorltop_known.below {w w1 w' : World} {g : Nat} (b1 : Below w.heap.size w w1) (hg : w.heap.size ≤ g) (h : w1.grownBy w' (some g)) : Below w.heap.size w w' :=
  ⟨h.os.trans b1.os, h.tape.trans b1.tape, h.output.trans b1.output, Nat.le_trans b1.size h.size, fun k hk => (h.block k (Nat.lt_of_lt_of_le hk b1.size) (fun e => by cases e; omega)).trans (b1.block k hk)⟩
theorem whorltop_known.calls (k : Nat)  (r : Bool) (w : World) (h : whorltop_known.f k  = some r) :
    Calls Tryz.prog 8 #[] w fun e w' => e = .returned (.bool r) ∧ Below w.heap.size w w' := by
 obtain rfl : true = r := Option.some.inj h
 clear h
 have kc := fun (w : World) (C : Array Value) (n c : Nat) => Lib.run_convert_bytes_const (P := Tryz.prog) w 22 5 C n c Tryz.underlying22 Tryz.underlying5
 have cN := Go.Proofs.YtbbpplnnegdenaaGreat.Cr.new_calls w
 go_enter Tryz.func8, Tryz.ntmps8
 go_wp2_with (fail)
 (with_reducible refine cN.mono ?_)
 clear cN
 rintro e w1 ⟨g, rfl, hg0, hg, hb1⟩
 have B1 := Aside0.mk hb1
 have HG := Go.Lib.hid hg
 have HG0 := Aside0.mk hg0
 clear hb1 hg hg0
 go_wp2_with (fail)
 refine (whorltop_known.run _ g 0 0 0 (some ⟨w1.heap.size, 0, none⟩) 6 ?hg (lit_reads .u8 w1 5 [98, 97, 110, 97, 110, 97] (6, 7) (by decide) rfl) (by decide) ?hne).mono ?_
 case hg => exact (Below.heap_alloc _ _ _ (Array.getElem?_eq_some_iff.1 HG.out).1).trans HG.out
 case hne => intro ad e; cases e; have := (Array.getElem?_eq_some_iff.1 HG.out).1; show w1.heap.size ≠ g; omega
 rintro e w2 ⟨v, Au, nu, cu, rfl, hR, hgr⟩
 obtain ⟨p1, q1, rfl⟩ := Kd.R_slice hR
 have B2 := Aside0.mk (whorltop_known.below (below_alloc B1.out _) HG0.out hgr)
 have R2 := Aside0.mk hR
 clear hR hgr
 go_wp2_with (fail)
 refine Calls.mono (show Calls Tryz.prog 32 #[.slice p1 6 q1, .slice (some ⟨w2.heap.size + 1, 0, none⟩) 6 6] _ _ from whorlref4_Ints.calls 100 p1 q1 [5, 3, 1, 0, 4, 2] _ 6 [5, 3, 1, 0, 4, 2] true _ (Kd.C_alloc (Kd.C_alloc (Kd.R_reads' R2.out).2.2 _) _) (Kd.R_reads' R2.out).2.1
  (by have := lit_reads .i64 (w2.alloc (.cells #[.slice p1 6 q1, .slice Au nu cu, .bool true] 62)) 3 [5, 3, 1, 0, 4, 2] (0, 0) (by decide) rfl; simpa using this) (by decide) whorltop_known.A9) ?_
 rintro e w3 ⟨rfl, hd⟩
 have B3 := Aside0.mk (below_step (below_alloc (below_alloc B2.out _) _) hd.below)
 clear hd R2 B2
 go_wp2_with (fail)
 go_ret
 exact ⟨rfl, B3.out⟩
mutual
def whorlref4_Words.l0 : Nat → List Int → List Int → Int → Option (Int)
  | 0, _, _, _ => none
  | k + 1, x0, x1, x5 => if x5 < (x0.length : Int) then (whorlref4_Words.j1 k x0 x1 x5 (decide (x5 < (x1.length : Int)))) else (whorlref4_Words.j1 k x0 x1 x5 false)
def whorlref4_Words.j1 : Nat → List Int → List Int → Int → Bool → Option (Int)
  | 0, _, _, _, _ => none
  | k + 1, x0, x1, x5, x15 => if x15 = true then (if 0 ≤ x5 then (if x5 < (x0.length : Int) then (if x5 < (x1.length : Int) then (if (rd x0 x5) = (rd x1 x5) then (whorlref4_Words.l0 k x0 x1 (wrap64 (x5 + 1))) else (if (rd x0 x5) < (rd x1 x5) then (some (-1)) else (some 1))) else (none)) else (none)) else (none)) else (if (x0.length : Int) < (x1.length : Int) then (some (-1)) else (if (x0.length : Int) > (x1.length : Int) then (some 1) else (some 0)))
end
def whorlref4_Words.f (k : Nat) (l0 : List Int) (l1 : List Int) : Option (Int) := whorlref4_Words.l0 k l0 l1 0
theorem whorlref4_Words.mono_l : ∀ k, (∀ y0 y1 y2, LeO (whorlref4_Words.l0 k y0 y1 y2) (whorlref4_Words.l0 (k + 1) y0 y1 y2)) ∧ (∀ y0 y1 y2 y3, LeO (whorlref4_Words.j1 k y0 y1 y2 y3) (whorlref4_Words.j1 (k + 1) y0 y1 y2 y3))
  | 0 => ⟨fun _ _ _ r h => by simp [whorlref4_Words.l0] at h, fun _ _ _ _ r h => by simp [whorlref4_Words.j1] at h⟩
  | k + 1 => by
    obtain ⟨ih0, ih1⟩ := whorlref4_Words.mono_l k
    refine ⟨?_, ?_⟩
    · intro y0 y1 y2
      unfold whorlref4_Words.l0
      exact mB
    · intro y0 y1 y2 y3
      unfold whorlref4_Words.j1
      exact mB
theorem whorlref4_Words.mono : ∀ a0 a1 k, LeO (whorlref4_Words.f k a0 a1) (whorlref4_Words.f (k + 1) a0 a1) := by
  intro a0 a1 k
  obtain ⟨ih0, ih1⟩ := whorlref4_Words.mono_l k
  unfold whorlref4_Words.f
  exact mB
theorem whorlref4_Words.calls (k : Nat) (A0 : Option Addr) (c0 : Nat) (l0 : List Int) (A1 : Option Addr) (c1 : Nat) (l1 : List Int) (r : Int) (w : World) (hr0 : Kd.C (Kd.int .u8) w A0 l0.length l0) (hc0 : l0.length ≤ c0) (hr1 : Kd.C (Kd.int .u8) w A1 l1.length l1) (hc1 : l1.length ≤ c1) (h : whorlref4_Words.f k l0 l1 = some r) :
    Calls Tryz.prog 66 #[.slice A0 l0.length c0, .slice A1 l1.length c1] w fun e w' => e = .returned (.int .i64 r) ∧ Drawn0 w w' := by
 have HR0 := Aside0.mk hr0
 have HC0 := Aside0.mk hc0
 clear hr0 hc0
 have HR1 := Aside0.mk hr1
 have HC1 := Aside0.mk hc1
 clear hr1 hc1
 have H := h
 clear h
 unfold whorlref4_Words.f at H
 have H' := Aside0.mk H
 clear H
 go_enter Tryz.func66, Tryz.ntmps66
 go_wp2
 repeat (go_quiet (fail); try go_wp2)
 go_loopg [5] k (fun kq v5 w' => ∃ (x5_1 : Int), v5 = .int .i64 x5_1 ∧ Aside0 (whorlref4_Words.l0 kq l0 l1 x5_1 = some r) ∧ Aside0 (kq ≤ k) ∧ Drawn0 w w')
 case atStart => exact ⟨(0), sD, H', ⟨Nat.le_refl _⟩, dD⟩
 case round =>
  clear H'
  obtain ⟨x5_1, rfl, HA, HK1, ⟨m1, rfl⟩⟩ := hrel
  cases gk with
  | zero => exact absurd HA.out (by simp [whorlref4_Words.l0])
  | succ k1 =>
   have H := HA.out
   clear HA
   simp only [whorlref4_Words.l0] at H
   have HC3 := Aside0.mk H
   clear H
   go_upto_region 2 with (fail)
   repeat (go_quiet (fail); go_upto_region 2 with (fail))
   go_cut [15] (fun v15 wc => ∃ (kq : Nat) (x15_2 : Bool), v15 = .bool x15_2 ∧ Aside0 (whorlref4_Words.j1 kq l0 l1 x5_1 x15_2 = some r) ∧ Aside0 (kq ≤ k1) ∧ Drawn0 w wc)
   case first =>
    have H := HC3.out
    clear HC3
    rcases ifC H with ⟨c4b0, H⟩ | ⟨c4b0, H⟩
    ·(first | rw [c4b0] | (simp only [i64_w, i32_w]; rw [c4b0]) | skip)
     have H' := Aside0.mk H
     clear H
     go_wp2
     repeat (go_quiet (fail); try go_wp2)
     go_meet
     case rel => exact ⟨_, (decide (x5_1 < (l1.length : Int))), sD, H', ⟨by have := HK1.out; first | omega | exact Nat.le_refl _⟩, dD⟩
    ·(first | rw [c4b0] | (simp only [i64_w, i32_w]; rw [c4b0]) | skip)
     have H' := Aside0.mk H
     clear H
     go_wp2
     repeat (go_quiet (fail); try go_wp2)
     go_meet
     case rel => exact ⟨_, (false), sD, H', ⟨by have := HK1.out; first | omega | exact Nat.le_refl _⟩, dD⟩
   case rest =>
    clear HC3
    obtain ⟨kq, x15_2, rfl, HA, HJ2, ⟨mc2, rfl⟩⟩ := hcut
    cases kq with
    | zero => exact absurd HA.out (by simp [whorlref4_Words.j1])
    | succ kj2 =>
     have H := HA.out
     clear HA
     simp only [whorlref4_Words.j1] at H
     by_cases c5 : x15_2 = true
     ·subst c5
      rw [if_pos rfl] at H
      obtain ⟨c6b0, H⟩ := ifD H
      obtain ⟨c7b0, c8b0, H⟩ := ifD2 H
      by_cases c9 : (rd l0 x5_1) = (rd l1 x5_1)
      ·rw [if_pos c9] at H
       have c9b0 : ((rd l0 x5_1) == (rd l1 x5_1)) = true := beq_iff_eq.mpr c9
       have c9b1 : ((rd l0 x5_1) != (rd l1 x5_1)) = false := bne_eq_false_iff_eq.mpr c9
       clear c9
       have H' := Aside0.mk H
       clear H
       obtain ⟨ad570, e570, hx570_0, p570, q570⟩ := rI HR0.out x5_1
       cases e570
       obtain ⟨ad571, e571, hx571_0, p571, q571⟩ := rI HR1.out x5_1
       cases e571
       go_wp2
       repeat (go_quiet (fail); try go_wp2)
       go_roundg kj2
       case measure => have := HK1.out; have := HJ2.out; omega
       case rel => exact ⟨(wrap64 (x5_1 + 1)), sD, H', ⟨by have := HK1.out; have := HJ2.out; omega⟩, dD⟩
      ·rw [if_neg c9] at H
       have c9b0 : ((rd l0 x5_1) == (rd l1 x5_1)) = false := beq_eq_false_iff_ne.mpr c9
       have c9b1 : ((rd l0 x5_1) != (rd l1 x5_1)) = true := bne_iff_ne.mpr c9
       rcases ifC H with ⟨c10b0, H⟩ | ⟨c10b0, H⟩
       ·obtain rfl := Option.some.inj H
        obtain ⟨ad570, e570, hx570_0, p570, q570⟩ := rI HR0.out x5_1
        cases e570
        obtain ⟨ad571, e571, hx571_0, p571, q571⟩ := rI HR1.out x5_1
        cases e571
        obtain ⟨ad572, e572, hx572_0, p572, q572⟩ := rI HR0.out x5_1
        obtain rfl : ad570 = ad572 := (by injection e572)
        obtain ⟨ad573, e573, hx573_0, p573, q573⟩ := rI HR1.out x5_1
        obtain rfl : ad571 = ad573 := (by injection e573)
        go_wp2
        repeat (go_quiet (fail); try go_wp2)
        go_ret
        exact ⟨sD, dD⟩
       ·obtain rfl := Option.some.inj H
        obtain ⟨ad570, e570, hx570_0, p570, q570⟩ := rI HR0.out x5_1
        cases e570
        obtain ⟨ad571, e571, hx571_0, p571, q571⟩ := rI HR1.out x5_1
        cases e571
        obtain ⟨ad572, e572, hx572_0, p572, q572⟩ := rI HR0.out x5_1
        obtain rfl : ad570 = ad572 := (by injection e572)
        obtain ⟨ad573, e573, hx573_0, p573, q573⟩ := rI HR1.out x5_1
        obtain rfl : ad571 = ad573 := (by injection e573)
        go_wp2
        repeat (go_quiet (fail); try go_wp2)
        go_ret
        exact ⟨sD, dD⟩
     ·replace c5 := Bool.eq_false_iff.mpr c5
      subst c5
      rw [if_neg (by decide)] at H
      by_cases c11 : (l0.length : Int) < (l1.length : Int)
      ·rw [if_pos c11] at H
       have c11b0 : decide ((l0.length : Int) < (l1.length : Int)) = true := decide_eq_true c11
       have c11b1 : decide (l0.length < l1.length) = true := decide_eq_true (Int.ofNat_lt.mp c11)
       clear c11
       obtain rfl := Option.some.inj H
       go_wp2
       repeat (go_quiet (fail); try go_wp2)
       go_ret
       exact ⟨sD, dD⟩
      ·rw [if_neg c11] at H
       have c11b0 : decide ((l0.length : Int) < (l1.length : Int)) = false := decide_eq_false c11
       have c11b1 : decide (l0.length < l1.length) = false := decide_eq_false (fun h => c11 (Int.ofNat_lt.mpr h))
       clear c11
       by_cases c12 : (l0.length : Int) > (l1.length : Int)
       ·rw [if_pos c12] at H
        have c12b0 : decide ((l1.length : Int) < (l0.length : Int)) = true := decide_eq_true c12
        have c12b1 : decide (l1.length < l0.length) = true := decide_eq_true (Int.ofNat_lt.mp c12)
        clear c12
        obtain rfl := Option.some.inj H
        go_wp2
        repeat (go_quiet (fail); try go_wp2)
        go_ret
        exact ⟨sD, dD⟩
       ·rw [if_neg c12] at H
        have c12b0 : decide ((l1.length : Int) < (l0.length : Int)) = false := decide_eq_false c12
        have c12b1 : decide (l1.length < l0.length) = false := decide_eq_false (fun h => c12 (Int.ofNat_lt.mpr h))
        clear c12
        obtain rfl := Option.some.inj H
        go_wp2
        repeat (go_quiet (fail); try go_wp2)
        go_ret
        exact ⟨sD, dD⟩
theorem whorlref4_Words.calls_n (k : Nat) (A0 : Option Addr) (c0 : Nat) (l0 : List Int) (n0 : Nat) (e0 : l0.length = n0) (A1 : Option Addr) (c1 : Nat) (l1 : List Int) (n1 : Nat) (e1 : l1.length = n1) (r : Int) (w : World) (hr0 : Kd.C (Kd.int .u8) w A0 l0.length l0) (hc0 : l0.length ≤ c0) (hr1 : Kd.C (Kd.int .u8) w A1 l1.length l1) (hc1 : l1.length ≤ c1) (h : whorlref4_Words.f k l0 l1 = some r) :
    Calls Tryz.prog 66 #[.slice A0 n0 c0, .slice A1 n1 c1] w fun e w' => e = .returned (.int .i64 r) ∧ Drawn0 w w' := by
  subst e0
  subst e1
  exact whorlref4_Words.calls k A0 c0 l0 A1 c1 l1 r w hr0 hc0 hr1 hc1 h
def whorlref4_Endings.f (k : Nat) (l0 : List Int) (a1 : Int) (a2 : Int) : Option (Int) := if a1 < 0 then (some 0) else (if a1 > (l0.length : Int) then (some 0) else (if a2 < 0 then (some 0) else (if a2 > (l0.length : Int) then (some 0) else (if 0 ≤ a1 then (if a1 ≤ (l0.length : Int) then (if 0 ≤ a2 then (if a2 ≤ (l0.length : Int) then ((whorlref4_Words.f k (l0.drop (a1 : Int).toNat) (l0.drop (a2 : Int).toNat)).bind fun t576 => (some t576)) else (none)) else (none)) else (none)) else (none)))))
theorem whorlref4_Endings.mono : ∀ a0 a1 a2 k, LeO (whorlref4_Endings.f k a0 a1 a2) (whorlref4_Endings.f (k + 1) a0 a1 a2) := by
  intro a0 a1 a2 k
  unfold whorlref4_Endings.f
  have m0 := @whorlref4_Words.mono
  exact mB
theorem whorlref4_Endings.calls (k : Nat) (A0 : Option Addr) (c0 : Nat) (l0 : List Int) (a1 : Int) (a2 : Int) (r : Int) (w : World) (hr0 : Kd.C (Kd.int .u8) w A0 l0.length l0) (hc0 : l0.length ≤ c0) (h : whorlref4_Endings.f k l0 a1 a2 = some r) :
    Calls Tryz.prog 65 #[.slice A0 l0.length c0, .int .i64 a1, .int .i64 a2] w fun e w' => e = .returned (.int .i64 r) ∧ Drawn0 w w' := by
 have HR0 := Aside0.mk hr0
 have HC0 := Aside0.mk hc0
 clear hr0 hc0
 have H := h
 clear h
 unfold whorlref4_Endings.f at H
 rcases ifC H with ⟨c4b0, H⟩ | ⟨c4b0, H⟩
 ·obtain rfl := Option.some.inj H
  go_enter Tryz.func65, Tryz.ntmps65
  go_wp2
  repeat (go_quiet (fail); try go_wp2)
  go_ret
  exact ⟨sD, dD⟩
 ·rcases ifK H with ⟨c5b0, H⟩ | ⟨c5b0, H⟩
  ·obtain rfl := Option.some.inj H
   go_enter Tryz.func65, Tryz.ntmps65
   go_wp2
   repeat (go_quiet (fail); try go_wp2)
   go_ret
   exact ⟨sD, dD⟩
  ·rcases ifC H with ⟨c6b0, H⟩ | ⟨c6b0, H⟩
   ·obtain rfl := Option.some.inj H
    go_enter Tryz.func65, Tryz.ntmps65
    go_wp2
    repeat (go_quiet (fail); try go_wp2)
    go_ret
    exact ⟨sD, dD⟩
   ·rcases ifK H with ⟨c7b0, H⟩ | ⟨c7b0, H⟩
    ·obtain rfl := Option.some.inj H
     go_enter Tryz.func65, Tryz.ntmps65
     go_wp2
     repeat (go_quiet (fail); try go_wp2)
     go_ret
     exact ⟨sD, dD⟩
    ·obtain ⟨c8b0, c8b1, H⟩ := ifE H
     obtain ⟨c9b0, c9b1, H⟩ := ifE H
     obtain ⟨c10b0, c10b1, H⟩ := ifE H
     obtain ⟨c11b0, c11b1, H⟩ := ifE H
     obtain ⟨t576, A12, H⟩ := bdS H
     try dsimp only at H
     obtain rfl := Option.some.inj H
     obtain ⟨i013, hi013, _, hsz13, _⟩ := info_parts info5
     obtain ⟨A13, hcut13, hA13, hC13⟩ := print_drop_of (P := Tryz.prog) (Value.int .u8) 0 22 5 .i64 Tryz.underlying22 hi013 hsz13 A0 c0 l0 a1 dT dT HC0.out
     have HR574 := Aside0.mk (Kd.C_of_reads (h1 := fun _ => rfl) (hA13 _ (Kd.reads_of_C HR0.out)))
     have HC574 := Aside0.mk hC13
     clear hA13 hC13 hi013 hsz13
     obtain ⟨i014, hi014, _, hsz14, _⟩ := info_parts info5
     obtain ⟨A14, hcut14, hA14, hC14⟩ := print_drop_of (P := Tryz.prog) (Value.int .u8) 0 22 5 .i64 Tryz.underlying22 hi014 hsz14 A0 c0 l0 a2 dT dT HC0.out
     have HR575 := Aside0.mk (Kd.C_of_reads (h1 := fun _ => rfl) (hA14 _ (Kd.reads_of_C HR0.out)))
     have HC575 := Aside0.mk hC14
     clear hA14 hC14 hi014 hsz14
     go_enter Tryz.func65, Tryz.ntmps65
     go_wp2_with (first | (go_at_call 66; (with_reducible refine (whorlref4_Words.calls_n k _ _ (l0.drop (a1 : Int).toNat) _ List.length_drop _ _ (l0.drop (a2 : Int).toNat) _ List.length_drop t576 _ ?side1 ?side2 ?side3 ?side4 A12.out).mono ?_); (case side1 => exact uC HR574.out); (case side2 => exact HC574.out); (case side3 => exact uC HR575.out); (case side4 => exact HC575.out); rintro e w' ⟨rfl, ⟨nd, rfl⟩⟩; (try first | exact ⟨rfl, _, World.drewN_drewN _ _ _⟩ | exact ⟨rfl, _, Eq.trans (World.drewN_drewN _ _ _) (congrArg (World.drewN _) (Nat.add_assoc _ _ _))⟩)))
     repeat (go_quiet (first | (go_at_call 66; (with_reducible refine (whorlref4_Words.calls_n k _ _ (l0.drop (a1 : Int).toNat) _ List.length_drop _ _ (l0.drop (a2 : Int).toNat) _ List.length_drop t576 _ ?side1 ?side2 ?side3 ?side4 A12.out).mono ?_); (case side1 => exact uC HR574.out); (case side2 => exact HC574.out); (case side3 => exact uC HR575.out); (case side4 => exact HC575.out); rintro e w' ⟨rfl, ⟨nd, rfl⟩⟩; (try first | exact ⟨rfl, _, World.drewN_drewN _ _ _⟩ | exact ⟨rfl, _, Eq.trans (World.drewN_drewN _ _ _) (congrArg (World.drewN _) (Nat.add_assoc _ _ _))⟩))); try go_wp2_with (first | (go_at_call 66; (with_reducible refine (whorlref4_Words.calls_n k _ _ (l0.drop (a1 : Int).toNat) _ List.length_drop _ _ (l0.drop (a2 : Int).toNat) _ List.length_drop t576 _ ?side1 ?side2 ?side3 ?side4 A12.out).mono ?_); (case side1 => exact uC HR574.out); (case side2 => exact HC574.out); (case side3 => exact uC HR575.out); (case side4 => exact HC575.out); rintro e w' ⟨rfl, ⟨nd, rfl⟩⟩; (try first | exact ⟨rfl, _, World.drewN_drewN _ _ _⟩ | exact ⟨rfl, _, Eq.trans (World.drewN_drewN _ _ _) (congrArg (World.drewN _) (Nat.add_assoc _ _ _))⟩))))
     go_ret
     exact ⟨sD, dD⟩
def whorlref7_Is.l0 : Nat → List Int → Int → Option (Bool)
  | 0, _, _ => none
  | k + 1, x0, x3 => if x3 < (x0.length : Int) then ((whorlref4_Endings.f k x0 0 x3).bind fun t577 => (if t577 ≥ 0 then (some false) else (whorlref7_Is.l0 k x0 (wrap64 (x3 + 1))))) else (some (decide ((x0.length : Int) > 0)))
def whorlref7_Is.f (k : Nat) (l0 : List Int) : Option (Bool) := whorlref7_Is.l0 k l0 1
theorem whorlref7_Is.mono_l : ∀ k, (∀ y0 y1, LeO (whorlref7_Is.l0 k y0 y1) (whorlref7_Is.l0 (k + 1) y0 y1))
  | 0 => fun _ _ r h => by simp [whorlref7_Is.l0] at h
  | k + 1 => by
    have ih0 := whorlref7_Is.mono_l k
    · intro y0 y1
      unfold whorlref7_Is.l0
      have m0 := @whorlref4_Endings.mono
      exact mB
theorem whorlref7_Is.mono : ∀ a0 k, LeO (whorlref7_Is.f k a0) (whorlref7_Is.f (k + 1) a0) := by
  intro a0 k
  have ih0 := whorlref7_Is.mono_l k
  unfold whorlref7_Is.f
  have m0 := @whorlref4_Endings.mono
  exact mB
theorem whorlref7_Is.calls (k : Nat) (A0 : Option Addr) (c0 : Nat) (l0 : List Int) (r : Bool) (w : World) (hr0 : Kd.C (Kd.int .u8) w A0 l0.length l0) (hc0 : l0.length ≤ c0) (h : whorlref7_Is.f k l0 = some r) :
    Calls Tryz.prog 33 #[.slice A0 l0.length c0] w fun e w' => e = .returned (.bool r) ∧ Drawn0 w w' := by
 have HR0 := Aside0.mk hr0
 have HC0 := Aside0.mk hc0
 clear hr0 hc0
 have H := h
 clear h
 unfold whorlref7_Is.f at H
 have H' := Aside0.mk H
 clear H
 go_enter Tryz.func33, Tryz.ntmps33
 go_wp2
 go_loopg [3] k (fun kq v3 w' => ∃ (x3_1 : Int), v3 = .int .i64 x3_1 ∧ Aside0 (whorlref7_Is.l0 kq l0 x3_1 = some r) ∧ Aside0 (kq ≤ k) ∧ Drawn0 w w')
 case atStart => exact ⟨(1), sD, H', ⟨Nat.le_refl _⟩, dD⟩
 case round =>
  clear H'
  obtain ⟨x3_1, rfl, HA, HK1, ⟨m1, rfl⟩⟩ := hrel
  cases gk with
  | zero => exact absurd HA.out (by simp [whorlref7_Is.l0])
  | succ k1 =>
   have H := HA.out
   clear HA
   simp only [whorlref7_Is.l0] at H
   rcases ifC H with ⟨c2b0, H⟩ | ⟨c2b0, H⟩
   ·obtain ⟨t577, A3, H⟩ := bdS H
    try dsimp only at H
    rcases ifG H with ⟨c4b0, H⟩ | ⟨c4b0, H⟩
    ·obtain rfl := Option.some.inj H
     go_wp2_with (first | ((with_reducible refine gate_callee (f := 65) rfl ?_); refine goesL_ (some 12) rfl rfl Tryz.func65 (by kernel_rfl) rfl #[.slice A0 l0.length c0, .int .i64 0, .int .i64 x3_1] rfl aE ?_; (with_reducible refine (whorlref4_Endings.calls k1 _ _ l0 0 x3_1 t577 _ ?side1 ?side2 A3.out).mono ?_); (case side1 => exact uC HR0.out); (case side2 => exact HC0.out); rintro e w' ⟨rfl, ⟨nd, rfl⟩⟩; refine ⟨_, rfl, ?_⟩))
     go_ret
     exact ⟨sD, dD⟩
    ·have H' := Aside0.mk H
     clear H
     go_wp2_with (first | ((with_reducible refine gate_callee (f := 65) rfl ?_); refine goesL_ (some 12) rfl rfl Tryz.func65 (by kernel_rfl) rfl #[.slice A0 l0.length c0, .int .i64 0, .int .i64 x3_1] rfl aE ?_; (with_reducible refine (whorlref4_Endings.calls k1 _ _ l0 0 x3_1 t577 _ ?side1 ?side2 A3.out).mono ?_); (case side1 => exact uC HR0.out); (case side2 => exact HC0.out); rintro e w' ⟨rfl, ⟨nd, rfl⟩⟩; refine ⟨_, rfl, ?_⟩))
     go_roundg k1
     case measure => have := HK1.out; omega
     case rel => exact ⟨(wrap64 (x3_1 + 1)), sD, H', ⟨by have := HK1.out; omega⟩, dD⟩
   ·obtain rfl := Option.some.inj H
    go_wp2
    go_ret
    exact ⟨sD, dD⟩
mutual
def whorlref7_Factors.l0 : Nat → List Int → List Int → Option (List Int)
  | 0, _, _ => none
  | k + 1, x0, x3 => if (x0.length : Int) > 0 then (whorlref7_Factors.l1 k x0 x3 (x0.length : Int)) else (some x3)
def whorlref7_Factors.l1 : Nat → List Int → List Int → Int → Option (List Int)
  | 0, _, _, _ => none
  | k + 1, x0, x3, x4 => if 0 ≤ x4 then (if x4 ≤ (x0.length : Int) then ((whorlref7_Is.f k (x0.take (x4 : Int).toNat)).bind fun t583 => (if t583 = true then (if x3.length < 17592186044416 then (whorlref7_Factors.l0 k (x0.drop (x4 : Int).toNat) (x3 ++ [x4])) else (none)) else (whorlref7_Factors.l1 k x0 x3 (wrap64 (x4 - 1))))) else (none)) else (none)
end
def whorlref7_Factors.f (k : Nat) (l0 : List Int) : Option (List Int) := whorlref7_Factors.l0 k l0 ([] : List Int)
theorem whorlref7_Factors.mono_l : ∀ k, (∀ y0 y1, LeO (whorlref7_Factors.l0 k y0 y1) (whorlref7_Factors.l0 (k + 1) y0 y1)) ∧ (∀ y0 y1 y2, LeO (whorlref7_Factors.l1 k y0 y1 y2) (whorlref7_Factors.l1 (k + 1) y0 y1 y2))
  | 0 => ⟨fun _ _ r h => by simp [whorlref7_Factors.l0] at h, fun _ _ _ r h => by simp [whorlref7_Factors.l1] at h⟩
  | k + 1 => by
    obtain ⟨ih0, ih1⟩ := whorlref7_Factors.mono_l k
    refine ⟨?_, ?_⟩
    · intro y0 y1
      unfold whorlref7_Factors.l0
      have m0 := @whorlref7_Is.mono
      exact mB
    · intro y0 y1 y2
      unfold whorlref7_Factors.l1
      have m0 := @whorlref7_Is.mono
      exact mB
theorem whorlref7_Factors.mono : ∀ a0 k, LeO (whorlref7_Factors.f k a0) (whorlref7_Factors.f (k + 1) a0) := by
  intro a0 k
  obtain ⟨ih0, ih1⟩ := whorlref7_Factors.mono_l k
  unfold whorlref7_Factors.f
  have m0 := @whorlref7_Is.mono
  exact mB
theorem whorlref7_Factors.calls (k : Nat) (P0_ : Nat → Prop) (A0 : Option Addr) (c0 : Nat) (l0 : List Int) (r : List Int) (w : World) (hs0 : Kd.V (Kd.int .u8) 5 w w.heap.size (fun k_ => P0_ k_) (.slice A0 l0.length c0) l0) (h : whorlref7_Factors.f k l0 = some r) :
    Calls Tryz.prog 9 #[.slice A0 l0.length c0] w fun e w' => ∃ v0_ : Value, e = .returned (v0_) ∧ Kd.R (Kd.int .i64) 3 w' w.heap.size (fun k_ => (w.heap.size ≤ k_)) v0_ r ∧ Below w.heap.size w w' := by
 have HO0 := Aside0.mk (show Kd.V (Kd.int .u8) 5 w w.heap.size (fun k_ => (P0_ k_ ∨ w.heap.size ≤ k_)) (.slice A0 l0.length c0) l0 from Kd.V_mono hs0 (fun k_ hk => .inl hk))
 have HB := Aside0.mk (Below.refl w.heap.size w)
 have H := h
 clear h
 unfold whorlref7_Factors.f at H
 have H' := Aside0.mk H
 clear H
 go_enter Tryz.func9, Tryz.ntmps9
 go_wp2
 go_loopg [0, 3] k (fun kq v0 v3 w' => ∃ (x0_1 : List Int) (x3_1 : List Int), Aside0 (whorlref7_Factors.l0 kq x0_1 x3_1 = some r) ∧ Aside0 (kq ≤ k) ∧ Aside0 (Kd.V (Kd.int .u8) 5 w' w.heap.size (fun k_ => (P0_ k_ ∨ w.heap.size ≤ k_) ∧ some k_ ≠ (v3 : Value).ownBlock) v0 x0_1) ∧ Aside0 (Kd.R (Kd.int .i64) 3 w' w.heap.size (fun k_ => (w.heap.size ≤ k_)) v3 x3_1) ∧ Aside0 (Below w.heap.size w w'))
 case atStart => exact ⟨(l0), (([] : List Int)), H', ⟨Nat.le_refl _⟩, ⟨by (with_reducible repeat (first | apply Kd.V_alloc | apply Kd.V_drewN | apply Kd.V_drew)); exact Kd.V_mono HO0.out (fun _ hk => ⟨hk, (by simp [Value.ownBlock])⟩)⟩, ⟨nL⟩, ⟨uB⟩⟩
 case round =>
  clear H'
  obtain ⟨x0_1, x3_1, HA, HK1, HO_0, HO_3, HB⟩ := hrel
  cases gk with
  | zero => exact absurd HA.out (by simp [whorlref7_Factors.l0])
  | succ k1 =>
   have H := HA.out
   clear HA
   simp only [whorlref7_Factors.l0] at H
   by_cases c2 : (x0_1.length : Int) > 0
   ·rw [if_pos c2] at H
    have c2b0 : decide (0 < (x0_1.length : Int)) = true := decide_eq_true c2
    have c2b1 : decide (0 < x0_1.length) = true := decide_eq_true (by omega)
    clear c2
    have H' := Aside0.mk H
    clear H
    obtain ⟨Ao3, co3, eo3⟩ := Kd.V_slice HO_0.out
    subst eo3
    go_wp2
    go_loopg [4] k1 (fun kq v4 w' => ∃ (x4_2 : Int), v4 = .int .i64 x4_2 ∧ Aside0 (whorlref7_Factors.l1 kq x0_1 x3_1 x4_2 = some r) ∧ Aside0 (kq ≤ k1) ∧ Aside0 (Kd.V (Kd.int .u8) 5 w' w.heap.size (fun k_ => (P0_ k_ ∨ w.heap.size ≤ k_) ∧ some k_ ≠ (u3 : Value).ownBlock) (.slice Ao3 x0_1.length co3) x0_1) ∧ Aside0 (Kd.R (Kd.int .i64) 3 w' w.heap.size (fun k_ => (w.heap.size ≤ k_)) u3 x3_1) ∧ Aside0 (Below w.heap.size w w'))
    case atStart => exact ⟨((x0_1.length : Int)), sD, H', ⟨Nat.le_refl _⟩, ⟨by (with_reducible repeat (first | apply Kd.V_alloc | apply Kd.V_drewN | apply Kd.V_drew)); exact HO_0.out⟩, ⟨uR HO_3.out⟩, ⟨uB⟩⟩
    case round =>
     clear H'
     obtain ⟨x4_2, rfl, HA, HK2, HO_0, HO_3, HB⟩ := hrel
     cases gk with
     | zero => exact absurd HA.out (by simp [whorlref7_Factors.l1])
     | succ k2 =>
      have H := HA.out
      clear HA
      simp only [whorlref7_Factors.l1] at H
      obtain ⟨c4b0, c4b1, H⟩ := ifE H
      obtain ⟨c5b0, c5b1, H⟩ := ifE H
      generalize hy578 : (x0_1.take (x4_2 : Int).toNat : List Int) = y578 at H
      try simp only [Option.bind_some] at H
      have Ny578 := Aside0.mk hy578.symm
      clear hy578
      obtain ⟨t583, A6, H⟩ := bdS H
      try dsimp only at H
      by_cases c7 : t583 = true
      ·subst c7
       rw [if_pos rfl] at H
       obtain ⟨c8, H⟩ := ifP H
       have LMc8 := Aside0.mk c8
       clear c8
       generalize hy584 : (x3_1 ++ [x4_2] : List Int) = y584 at H
       try simp only [Option.bind_some] at H
       have Ny584 := Aside0.mk hy584.symm
       clear hy584
       have c9b0 := eq_true (dT : 0 ≤ x4_2)
       have c10b0 := eq_true (dT : x4_2 ≤ (x0_1.length : Int))
       generalize hy587 : (x0_1.drop (x4_2 : Int).toNat : List Int) = y587 at H
       try simp only [Option.bind_some] at H
       have Ny587 := Aside0.mk hy587.symm
       clear hy587
       have H' := Aside0.mk H
       clear H
       have q11 : (x4_2 : Int) ≤ ((x0_1.length : Int) : Int) := dT
       obtain ⟨i011, hi011, _, hsz11, _⟩ := info_parts info5
       have hroom11 : x0_1.length ≤ co3 := (Kd.V_reads' HO_0.out).2.1
       have hC11 : Kd.F (Kd.int .u8) _ _ Ao3 x0_1.length x0_1 := (Kd.V_at (base := w.heap.size) HO_0.out).2.2
       have hcut11 := cut_to (P := Tryz.prog) 22 5 .i64 Tryz.underlying22 hi011 Ao3 x0_1.length co3 x4_2 dT q11 hroom11
       have hr11 := Kd.F_take (m := (x4_2 : Int).toNat) hC11 (by omega)
       have hy11 : y578.length = (x4_2 : Int).toNat := (by rw [Ny578.out, List.length_take]; omega)
       rw [← Ny578.out] at hr11
       rw [← hy11] at hcut11
       have HO582 := Aside0.mk (show Kd.V (Kd.int .u8) 5 _ w.heap.size _ (.slice Ao3 y578.length co3) y578 from Kd.V_mk (by omega) hr11)
       have HC582 := Aside0.mk (show y578.length ≤ co3 from by omega)
       clear hr11 hC11 hroom11 hi011 hsz11
       have KY11 := Aside0.mk hy11
       clear hy11
       replace q11 := eq_true q11
       go_wp2_with (first | ((with_reducible refine gate_callee (f := 33) rfl ?_); refine goesL_ (some 13) rfl rfl Tryz.func33 (by kernel_rfl) rfl #[.slice Ao3 y578.length co3] rfl aE ?_; (with_reducible refine (whorlref7_Is.calls k2 _ _ y578 true _ ?side1 ?side2 A6.out).mono ?_); (case side1 => repeat (first | exact (Kd.V_reads' HO582.out).2.2 | (with_reducible refine Kd.C_alloc ?_ _) | (with_reducible refine Kd.C_drewN ?_ _) | (with_reducible refine Kd.C_drew ?_))); (case side2 => exact (Kd.V_reads' HO582.out).2.1); rintro e w' ⟨rfl, ⟨nd, rfl⟩⟩; refine ⟨_, rfl, ?_⟩) | ((with_reducible refine gate_builtin (b := .append) (xs := #[.tmp 17, .tmp 19]) rfl ?_); at_builtin; refine Kd.R_append (Kd.int .i64) (w0 := w) w.heap.size rfl (.tmp 17) (.tmp 19) 29 3 (.int .i64 0) 8 rfl Tryz.underlying29 info3 rfl (by decide) (by omega) u3 x3_1 x4_2 [.int .i64 x4_2] (fun k_ => (w.heap.size ≤ k_)) (fun _ => False) rfl rfl ?aP (fun _ hk => hk.elim) ?aF ?aO ?aB ?aS ?aL ?_; (case aP => exact rfl); (case aB => exact uB); (case aF => exact (fun k_ hk => (Nat.le_trans (below_size uB) hk))); (case aO => exact (uR HO_3.out)); (case aS => exact (below_size uB)); (case aL => have := LMc8.out; omega); intro v585 w12 ho hb hg hat; rw [← Ny584.out] at ho; have n0_ := Aside0.mk (Kd.V_afterv (ok := (fun k_ => (P0_ k_ ∨ w.heap.size ≤ k_))) (by (with_reducible repeat (first | apply Kd.V_alloc | apply Kd.V_drewN | apply Kd.V_drew)); exact HO_0.out) hg hat); have n1_ := Aside0.mk (Kd.V_afterv (ok := (fun k_ => (P0_ k_ ∨ w.heap.size ≤ k_))) (by (with_reducible repeat (first | apply Kd.V_alloc | apply Kd.V_drewN | apply Kd.V_drew)); exact HO582.out) hg hat); have n2_ := Aside0.mk (hb); have n3_ := Aside0.mk (ho); clear HO_0 HO582 HB HO_3; have HO_0 := n0_; have HO582 := n1_; have HB := n2_; have HO586 := n3_; clear n0_ n1_ n2_ n3_; clear ho hb hg hat; have q13 : (x4_2 : Int) ≤ ((x0_1.length : Int) : Int) := dT; obtain ⟨i013, hi013, _, hsz13, _⟩ := info_parts info5; have hroom13 : x0_1.length ≤ co3 := (Kd.V_reads' HO_0.out).2.1; have hC13 : Kd.F (Kd.int .u8) _ _ Ao3 x0_1.length x0_1 := (Kd.V_at (base := w.heap.size) HO_0.out).2.2; have q013 : (0 : Int) ≤ (x4_2 : Int) := dT; have hcut13 := cut_from (P := Tryz.prog) 22 5 .i64 Tryz.underlying22 hi013 1 hsz13 Ao3 x0_1.length co3 x4_2 q013 q13; have hr13 := Kd.F_cut (m := (x4_2 : Int).toNat) (c := co3) hC13 (by omega) hroom13; obtain ⟨A13, hA13⟩ : ∃ A1, A1 = (if co3 = (x4_2 : Int).toNat then Ao3 else (Ao3 : Option Addr).map (·.add ((x4_2 : Int).toNat * 1))) := ⟨_, rfl⟩; obtain ⟨c13, hc13⟩ : ∃ c1, c1 = co3 - (x4_2 : Int).toNat := ⟨_, rfl⟩; have hy13 : y587.length = x0_1.length - (x4_2 : Int).toNat := (by rw [Ny587.out, List.length_drop] <;> omega); rw [show (x0_1).drop (x4_2 : Int).toNat = y587 from Ny587.out.symm] at hr13; replace hr13 : Kd.F (Kd.int .u8) _ _ A13 y587.length y587 := (by rw [hA13]; exact hr13); rw [← hy13, ← hA13, ← hc13] at hcut13; have HO591 := Aside0.mk (show Kd.V (Kd.int .u8) 5 _ w.heap.size _ (.slice A13 y587.length c13) y587 from Kd.V_mk (by rw [hy13, hc13]; exact Nat.sub_le_sub_right hroom13 _) hr13); have HC591 := Aside0.mk (show y587.length ≤ c13 from by rw [hy13, hc13]; exact Nat.sub_le_sub_right hroom13 _); clear hr13 hC13 hroom13 hi013 hsz13 hc13; have KY13 := Aside0.mk hy13; have KA13 := Aside0.mk hA13; clear hy13 hA13; replace q13 := eq_true q13))
       go_roundg k2
       case measure => have := HK1.out; have := HK2.out; omega
       case rel => exact ⟨(y587), (y584), H', ⟨by have := HK1.out; have := HK2.out; omega⟩, ⟨by (with_reducible repeat (first | apply Kd.V_alloc | apply Kd.V_drewN | apply Kd.V_drew)); exact HO591.out⟩, ⟨uR HO586.out⟩, ⟨uB⟩⟩
      ·replace c7 := Bool.eq_false_iff.mpr c7
       subst c7
       rw [if_neg (by decide)] at H
       have H' := Aside0.mk H
       clear H
       have q14 : (x4_2 : Int) ≤ ((x0_1.length : Int) : Int) := dT
       obtain ⟨i014, hi014, _, hsz14, _⟩ := info_parts info5
       have hroom14 : x0_1.length ≤ co3 := (Kd.V_reads' HO_0.out).2.1
       have hC14 : Kd.F (Kd.int .u8) _ _ Ao3 x0_1.length x0_1 := (Kd.V_at (base := w.heap.size) HO_0.out).2.2
       have hcut14 := cut_to (P := Tryz.prog) 22 5 .i64 Tryz.underlying22 hi014 Ao3 x0_1.length co3 x4_2 dT q14 hroom14
       have hr14 := Kd.F_take (m := (x4_2 : Int).toNat) hC14 (by omega)
       have hy14 : y578.length = (x4_2 : Int).toNat := (by rw [Ny578.out, List.length_take]; omega)
       rw [← Ny578.out] at hr14
       rw [← hy14] at hcut14
       have HO582 := Aside0.mk (show Kd.V (Kd.int .u8) 5 _ w.heap.size _ (.slice Ao3 y578.length co3) y578 from Kd.V_mk (by omega) hr14)
       have HC582 := Aside0.mk (show y578.length ≤ co3 from by omega)
       clear hr14 hC14 hroom14 hi014 hsz14
       have KY14 := Aside0.mk hy14
       clear hy14
       replace q14 := eq_true q14
       go_wp2_with (first | ((with_reducible refine gate_callee (f := 33) rfl ?_); refine goesL_ (some 13) rfl rfl Tryz.func33 (by kernel_rfl) rfl #[.slice Ao3 y578.length co3] rfl aE ?_; (with_reducible refine (whorlref7_Is.calls k2 _ _ y578 false _ ?side1 ?side2 A6.out).mono ?_); (case side1 => repeat (first | exact (Kd.V_reads' HO582.out).2.2 | (with_reducible refine Kd.C_alloc ?_ _) | (with_reducible refine Kd.C_drewN ?_ _) | (with_reducible refine Kd.C_drew ?_))); (case side2 => exact (Kd.V_reads' HO582.out).2.1); rintro e w' ⟨rfl, ⟨nd, rfl⟩⟩; refine ⟨_, rfl, ?_⟩))
       go_roundg k2
       case measure => have := HK1.out; have := HK2.out; omega
       case rel => exact ⟨(wrap64 (x4_2 - 1)), sD, H', ⟨by have := HK1.out; have := HK2.out; omega⟩, ⟨by (with_reducible repeat (first | apply Kd.V_alloc | apply Kd.V_drewN | apply Kd.V_drew)); exact HO_0.out⟩, ⟨uR HO_3.out⟩, ⟨uB⟩⟩
   ·rw [if_neg c2] at H
    have c2b0 : decide (0 < (x0_1.length : Int)) = false := decide_eq_false c2
    have c2b1 : decide (0 < x0_1.length) = false := decide_eq_false (by omega)
    clear c2
    obtain rfl := Option.some.inj H
    obtain ⟨Ao15, co15, eo15⟩ := Kd.V_slice HO_0.out
    subst eo15
    go_wp2
    go_ret
    exact ⟨_, eR, uR HO_3.out, uB⟩
def whorlref4_Turn.f (l0 : List Int) (a1 : Int) : Option (List Int) := (some (([] : List Int) : List Int)).bind fun y592 => (if 0 ≤ a1 then (if a1 ≤ (l0.length : Int) then (if y592.length + (l0.drop (a1 : Int).toNat).length < 140737488355328 then ((some (y592 ++ (l0.drop (a1 : Int).toNat) : List Int)).bind fun y596 => (if y596.length + (l0.take (a1 : Int).toNat).length < 140737488355328 then (some (y596 ++ (l0.take (a1 : Int).toNat))) else (none))) else (none)) else (none)) else (none))
def whorlref4_Turn.T1 : Bool × List (List Nat × List Nat) := (true, [([], []), ([], []), ([], []), ([1, 2], [1, 2]), ([0, 3], [0, 3]), ([], []), ([], []), ([5, 6], [5, 6]), ([4, 7, 4], [4, 7]), ([8, 8, 0, 1, 2, 3, 4, 5, 6, 7, 8], [8])])
def whorlref4_Turn.B1 : List Nat := [0, 0, 0, 6, 15, 0, 0, 96, 255, 511]
theorem whorlref4_Turn.tab1 : rtab .any (opsOf Tryz.f34 1) = whorlref4_Turn.T1 := by kernel_rfl
theorem whorlref4_Turn.bits1 : waitsOk whorlref4_Turn.T1.2 whorlref4_Turn.B1 = true := by kernel_rfl
theorem whorlref4_Turn.calls (A0 : Option Addr) (c0 : Nat) (l0 : List Int) (a1 : Int) (r : List Int) (w : World) (hr0 : Kd.C (Kd.int .u8) w A0 l0.length l0) (hc0 : l0.length ≤ c0) (h : whorlref4_Turn.f l0 a1 = some r) :
    Calls Tryz.prog 34 #[.slice A0 l0.length c0, .int .i64 a1] w fun e w' => ∃ v0_ : Value, e = .returned (v0_) ∧ Kd.R (Kd.int .u8) 5 w' w.heap.size (fun _ => True) v0_ r ∧ Below w.heap.size w w' := by
 have HR0 := Aside0.mk hr0
 have HC0 := Aside0.mk hc0
 clear hr0 hc0
 have HB := Aside0.mk (Below.refl w.heap.size w)
 have H := h
 clear h
 unfold whorlref4_Turn.f at H
 generalize hy592 : (([] : List Int) : List Int) = y592 at H
 try simp only [Option.bind_some] at H
 have Ny592 := Aside0.mk hy592.symm
 clear hy592
 obtain ⟨c3b0, c3b1, H⟩ := ifE H
 obtain ⟨c4b0, c4b1, H⟩ := ifE H
 obtain ⟨c5, H⟩ := ifP H
 have LMc5 := Aside0.mk c5
 clear c5
 generalize hy596 : (y592 ++ (l0.drop (a1 : Int).toNat) : List Int) = y596 at H
 try simp only [Option.bind_some] at H
 have Ny596 := Aside0.mk hy596.symm
 clear hy596
 have c6b0 := eq_true (dT : 0 ≤ a1)
 have c7b0 := eq_true (dT : a1 ≤ (l0.length : Int))
 obtain ⟨c8, H⟩ := ifP H
 have LMc8 := Aside0.mk c8
 clear c8
 generalize hy600 : (y596 ++ (l0.take (a1 : Int).toNat) : List Int) = y600 at H
 try simp only [Option.bind_some] at H
 have Ny600 := Aside0.mk hy600.symm
 clear hy600
 obtain rfl := Option.some.inj H
 go_enter Tryz.func34, Tryz.ntmps34
 try go_wp2
 have n0_ := Aside0.mk (below_drew1 HB.out)
 clear HB
 have HB := n0_
 clear n0_
 obtain ⟨i010, hi010, _, hsz10, _⟩ := info_parts info5
 obtain ⟨A10, hcut10, hA10, hC10⟩ := print_drop_of (P := Tryz.prog) (Value.int .u8) 0 22 5 .i64 Tryz.underlying22 hi010 hsz10 A0 c0 l0 a1 dT dT HC0.out
 have HR595 := Aside0.mk (Kd.C_of_reads (h1 := fun _ => rfl) (hA10 _ (Kd.reads_of_C HR0.out)))
 have HC595 := Aside0.mk hC10
 clear hA10 hC10 hi010 hsz10
 obtain ⟨i011, hi011, _, hsz11, _⟩ := info_parts info5
 obtain ⟨hcut11, hA11, hC11⟩ := print_take_of (P := Tryz.prog) (Value.int .u8) 0 22 5 .i64 Tryz.underlying22 hi011 hsz11 A0 c0 l0 a1 dT dT HC0.out
 have HR599 := Aside0.mk (Kd.C_of_reads (h1 := fun _ => rfl) (hA11 _ (Kd.reads_of_C HR0.out)))
 have HC599 := Aside0.mk hC11
 clear hA11 hC11 hi011 hsz11
 refine start_ (n := 10) (S := fun w' => True) (ds := []) #[false, false, false, false, false, false, false, false, false, false] (by kernel_rfl) rfl rfl trivial (fun hHeld => ?_); refine with_tabW whorlref4_Turn.tab1 whorlref4_Turn.bits1 (fun HT_ HW_ => ?_)
 generalize w.drew = w9 at HB HR595 HR599 hHeld ⊢
 refine pY (i := 1) (N := some 6) #[false, true, false, false, false, false, false, false, false, false] ?_
 refine pY (i := 2) (N := some 7) #[false, true, true, false, false, false, false, false, false, false] ?_
 refine pY (i := 3) (N := some 8) #[false, true, true, true, false, false, false, false, false, false] ?_
 refine pY (i := 5) (N := some 10) #[false, true, true, true, false, true, false, false, false, false] ?_
 refine pY (i := 6) (N := some 11) #[false, true, true, true, false, true, true, false, false, false] ?_
 refine pY (i := 7) (N := some 12) #[false, true, true, true, false, true, true, true, false, false] ?_
 refine one_ (i := 0) (N := some 5) #[true, true, true, true, false, true, true, true, false, false] rfl rfl (one_of HT_.out (by kernel_rfl)) (by decide) (fun K hK => ?_)
 refine Kd.R_lit_step (Kd.int .u8) _ 5 ?hg (N := 5) ?hd (xs := ([] : List Int)) (inner := []) (ok := fun _ => True) (okp := fun _ => True) ?hr ?hp (fun _ hk => hk) trivial (Below.refl _ _) (Nat.le_refl _) (by simp) ?_; (case hd => rfl); (case hg => rfl); (case hr => first | (go_simp; done) | (go_simp; rfl)); (case hp => exact (Reps.none _ _))
 intro v593 w12 ho13 hb hg_ hnew_
 clear hg_ hnew_
 (first | rw [← Ny592.out] at ho13 | (simp only [Int.reduceToNat] at ho13; rw [← Ny592.out] at ho13))
 have n0_ := Aside0.mk (Kd.R_lower ho13 (below_size uB))
 have n1_ := Aside0.mk (below_step uB hb)
 clear HB
 have HO594 := n0_
 have HB := n1_
 clear n0_ n1_
 clear hb ho13
 refine hK.out _ _ trivial (fun hHeld => ?_)
 clear hK K
 refine norm_ (a' := ?_) ?_ ?_
 rotate_left
 ·show Act.put _ (some 5) _ = _
  simp only [Act.put, List.setIfInBounds_toArray, List.set_cons_zero, List.set_cons_succ, i64_w, i32_w]
  rfl
 refine one_ (i := 4) (N := some 9) (bs 7 10) rfl rfl (one_of HT_.out (by kernel_rfl)) (by decide) (fun K hK => ?_)
 refine Kd.R_append_rows_step (Kd.int .u8) (w0 := w) w.heap.size (by rfl) (.tmp 5) (.tmp 8) 22 5 (.int .u8 0) 1 rfl Tryz.underlying22 info5 rfl (by decide) (by omega) v593 y592 (l0.drop (a1 : Int).toNat) _ _ _ (fun _ => True) (fun _ => False) rfl rfl ?aO ?aR (fun _ _ h => h) (fun _ h => h.elim) ?aF ?aB ?aS ?aL ?_
 (case aR => first | (rw [← show (l0.drop (a1 : Int).toNat).length = (l0.length - a1.toNat) from List.length_drop]; repeat (first | exact (Kd.C_below HR595.out HB.out) | (with_reducible refine Kd.C_alloc ?_ _) | (with_reducible refine Kd.C_drewN ?_ _) | (with_reducible refine Kd.C_drew ?_))) | (repeat (first | exact (Kd.C_below HR595.out HB.out) | (with_reducible refine Kd.C_alloc ?_ _) | (with_reducible refine Kd.C_drewN ?_ _) | (with_reducible refine Kd.C_drew ?_))))
 (case aB => exact uB)
 (case aF => exact (fun _ _ => trivial))
 (case aO => exact (uR HO594.out))
 (case aS => exact (below_size uB))
 (case aL => have := LMc5.out; have hlx_ := (show (l0.drop (a1 : Int).toNat).length = (l0.length - a1.toNat) from List.length_drop); omega)
 intro v597 w14 ho hb hg hat
 rw [← Ny596.out] at ho
 have n0_ := Aside0.mk (hb)
 have n1_ := Aside0.mk (ho)
 clear HB
 clear HO594
 have HB := n0_
 have HO598 := n1_
 clear n0_ n1_
 clear ho hb hg hat
 refine hK.out _ _ trivial (fun hHeld => ?_)
 clear hK K
 refine norm_ (a' := ?_) ?_ ?_
 rotate_left
 ·show Act.put _ (some 9) _ = _
  simp only [Act.put, List.setIfInBounds_toArray, List.set_cons_zero, List.set_cons_succ, i64_w, i32_w]
  rfl
 refine one_ (i := 8) (N := some 13) (bs 8 10) rfl rfl (one_of HT_.out (by kernel_rfl)) (by decide) (fun K hK => ?_)
 refine Kd.R_append_rows_step (Kd.int .u8) (w0 := w) w.heap.size (by rfl) (.tmp 9) (.tmp 12) 22 5 (.int .u8 0) 1 rfl Tryz.underlying22 info5 rfl (by decide) (by omega) v597 y596 (l0.take (a1 : Int).toNat) _ _ _ (fun _ => True) (fun _ => False) rfl rfl ?aO ?aR (fun _ _ h => h) (fun _ h => h.elim) ?aF ?aB ?aS ?aL ?_
 (case aR => first | (have h_ := Kd.C_below HR599.out HB.out; rw [show (l0.take (a1 : Int).toNat).length = a1.toNat from (by rw [List.length_take]; have h_ : (a1 : Int) ≤ (l0.length : Int) := dT; omega)] at h_; exact h_) | (rw [← show (l0.take (a1 : Int).toNat).length = a1.toNat from (by rw [List.length_take]; have h_ : (a1 : Int) ≤ (l0.length : Int) := dT; omega)]; repeat (first | exact (Kd.C_below HR599.out HB.out) | (with_reducible refine Kd.C_alloc ?_ _) | (with_reducible refine Kd.C_drewN ?_ _) | (with_reducible refine Kd.C_drew ?_))) | (repeat (first | exact (Kd.C_below HR599.out HB.out) | (with_reducible refine Kd.C_alloc ?_ _) | (with_reducible refine Kd.C_drewN ?_ _) | (with_reducible refine Kd.C_drew ?_))))
 (case aB => exact uB)
 (case aF => exact (fun _ _ => trivial))
 (case aO => exact (uR HO598.out))
 (case aS => exact (below_size uB))
 (case aL => have := LMc8.out; have hlx_ := (show (l0.take (a1 : Int).toNat).length = a1.toNat from (by rw [List.length_take]; have h_ : (a1 : Int) ≤ (l0.length : Int) := dT; omega)); omega)
 intro v601 w15 ho hb hg hat
 rw [← Ny600.out] at ho
 have n0_ := Aside0.mk (hb)
 have n1_ := Aside0.mk (ho)
 clear HB
 clear HO598
 have HB := n0_
 have HO602 := n1_
 clear n0_ n1_
 clear ho hb hg hat
 refine hK.out _ _ trivial (fun hHeld => ?_)
 clear hK K
 refine norm_ (a' := ?_) ?_ ?_
 rotate_left
 ·show Act.put _ (some 13) _ = _
  simp only [Act.put, List.setIfInBounds_toArray, List.set_cons_zero, List.set_cons_succ, i64_w, i32_w]
  rfl
 refine pY (i := 9) (N := some 4) (bs 9 10) ?_
 refine done_ (done_of HT_.out (by kernel_rfl)) ?_
 try go_wp2
 go_ret
 exact ⟨_, eR, uR HO602.out, uB⟩
mutual
def whorlref8_Compare.j0 : Nat → List Int → List Int → Bool → Option (Int)
  | 0, _, _, _ => none
  | k + 1, x0, x1, x15 => if x15 = true then (none) else (whorlref8_Compare.l0 k x0 x1 0)
def whorlref8_Compare.l0 : Nat → List Int → List Int → Int → Option (Int)
  | 0, _, _, _ => none
  | k + 1, x0, x1, x5 => if x5 < (wrap64 ((x0.length : Int) + (x1.length : Int))) then (if (x0.length : Int) = 0 then (none) else (if 0 ≤ (Int.tmod x5 (x0.length : Int)) then (if (Int.tmod x5 (x0.length : Int)) < (x0.length : Int) then (if (x1.length : Int) = 0 then (none) else (if 0 ≤ (Int.tmod x5 (x1.length : Int)) then (if (Int.tmod x5 (x1.length : Int)) < (x1.length : Int) then (if (rd x0 (Int.tmod x5 (x0.length : Int))) < (rd x1 (Int.tmod x5 (x1.length : Int))) then (some (-1)) else (if (rd x0 (Int.tmod x5 (x0.length : Int))) > (rd x1 (Int.tmod x5 (x1.length : Int))) then (some 1) else (whorlref8_Compare.l0 k x0 x1 (wrap64 (x5 + 1))))) else (none)) else (none))) else (none)) else (none))) else (some 0)
end
def whorlref8_Compare.f (k : Nat) (l0 : List Int) (l1 : List Int) : Option (Int) := if (l0.length : Int) = 0 then (whorlref8_Compare.j0 k l0 l1 true) else (whorlref8_Compare.j0 k l0 l1 ((l1.length : Int) == 0))
theorem whorlref8_Compare.mono_l : ∀ k, (∀ y0 y1 y2, LeO (whorlref8_Compare.j0 k y0 y1 y2) (whorlref8_Compare.j0 (k + 1) y0 y1 y2)) ∧ (∀ y0 y1 y2, LeO (whorlref8_Compare.l0 k y0 y1 y2) (whorlref8_Compare.l0 (k + 1) y0 y1 y2))
  | 0 => ⟨fun _ _ _ r h => by simp [whorlref8_Compare.j0] at h, fun _ _ _ r h => by simp [whorlref8_Compare.l0] at h⟩
  | k + 1 => by
    obtain ⟨ih0, ih1⟩ := whorlref8_Compare.mono_l k
    refine ⟨?_, ?_⟩
    · intro y0 y1 y2
      unfold whorlref8_Compare.j0
      have m0 := @whorlref4_Words.mono
      exact mB
    · intro y0 y1 y2
      unfold whorlref8_Compare.l0
      have m0 := @whorlref4_Words.mono
      exact mB
theorem whorlref8_Compare.mono : ∀ a0 a1 k, LeO (whorlref8_Compare.f k a0 a1) (whorlref8_Compare.f (k + 1) a0 a1) := by
  intro a0 a1 k
  obtain ⟨ih0, ih1⟩ := whorlref8_Compare.mono_l k
  unfold whorlref8_Compare.f
  have m0 := @whorlref4_Words.mono
  exact mB
theorem whorlref8_Compare.calls (k : Nat) (A0 : Option Addr) (c0 : Nat) (l0 : List Int) (A1 : Option Addr) (c1 : Nat) (l1 : List Int) (r : Int) (w : World) (hr0 : Kd.C (Kd.int .u8) w A0 l0.length l0) (hc0 : l0.length ≤ c0) (hr1 : Kd.C (Kd.int .u8) w A1 l1.length l1) (hc1 : l1.length ≤ c1) (h : whorlref8_Compare.f k l0 l1 = some r) :
    Calls Tryz.prog 35 #[.slice A0 l0.length c0, .slice A1 l1.length c1] w fun e w' => e = .returned (.int .i64 r) ∧ Below w.heap.size w w' := by
 have HR0 := Aside0.mk hr0
 have HC0 := Aside0.mk hc0
 clear hr0 hc0
 have HR1 := Aside0.mk hr1
 have HC1 := Aside0.mk hc1
 clear hr1 hc1
 have HB := Aside0.mk (Below.refl w.heap.size w)
 have H := h
 clear h
 unfold whorlref8_Compare.f at H
 have HC3 := Aside0.mk H
 clear H
 go_enter Tryz.func35, Tryz.ntmps35
 go_upto_region 1 with (fail)
 repeat (go_quiet (fail); go_upto_region 1 with (fail))
 go_cut [15] (fun v15 wc => ∃ (kq : Nat) (x15_2 : Bool), v15 = .bool x15_2 ∧ Aside0 (whorlref8_Compare.j0 kq l0 l1 x15_2 = some r) ∧ Aside0 (kq ≤ k) ∧ Aside0 (Below w.heap.size w wc))
 case first =>
  have H := HC3.out
  clear HC3
  by_cases c4 : (l0.length : Int) = 0
  ·rw [if_pos c4] at H
   have c4b0 : ((l0.length : Int) == 0) = true := beq_iff_eq.mpr c4
   have c4b1 : ((l0.length : Int) != 0) = false := bne_eq_false_iff_eq.mpr c4
   clear c4
   (first | rw [c4b0] | (simp only [i64_w, i32_w]; rw [c4b0]) | skip)
   have H' := Aside0.mk H
   clear H
   go_wp2
   repeat (go_quiet (fail); try go_wp2)
   go_meet
   case rel => exact ⟨_, (true), sD, H', ⟨by first | omega | exact Nat.le_refl _⟩, ⟨uB⟩⟩
  ·rw [if_neg c4] at H
   have c4b0 : ((l0.length : Int) == 0) = false := beq_eq_false_iff_ne.mpr c4
   have c4b1 : ((l0.length : Int) != 0) = true := bne_iff_ne.mpr c4
   have c4b2 : ¬ (l0 = []) := fun h_ => c4 (by rw [h_]; rfl)
   (first | rw [c4b0] | (simp only [i64_w, i32_w]; rw [c4b0]) | skip)
   have H' := Aside0.mk H
   clear H
   go_wp2
   repeat (go_quiet (fail); try go_wp2)
   go_meet
   case rel => exact ⟨_, (((l1.length : Int) == 0)), sD, H', ⟨by first | omega | exact Nat.le_refl _⟩, ⟨uB⟩⟩
 case rest =>
  clear HC3
  obtain ⟨kq, x15_2, rfl, HA, HJ2, HB⟩ := hcut
  cases kq with
  | zero => exact absurd HA.out (by simp [whorlref8_Compare.j0])
  | succ kj2 =>
   have H := HA.out
   clear HA
   simp only [whorlref8_Compare.j0] at H
   by_cases c5 : x15_2 = true
   ·subst c5
    rw [if_pos rfl] at H
    exact absurd H (by simp)
   ·replace c5 := Bool.eq_false_iff.mpr c5
    subst c5
    rw [if_neg (by decide)] at H
    have H' := Aside0.mk H
    clear H
    go_wp2
    repeat (go_quiet (fail); try go_wp2)
    go_loopg [5] kj2 (fun kq v5 w' => ∃ (x5_2 : Int), v5 = .int .i64 x5_2 ∧ Aside0 (whorlref8_Compare.l0 kq l0 l1 x5_2 = some r) ∧ Aside0 (kq ≤ kj2) ∧ Aside0 (Below w.heap.size w w'))
    case atStart => exact ⟨(0), sD, H', ⟨Nat.le_refl _⟩, ⟨uB⟩⟩
    case round =>
     clear H'
     obtain ⟨x5_2, rfl, HA, HK2, HB⟩ := hrel
     cases gk with
     | zero => exact absurd HA.out (by simp [whorlref8_Compare.l0])
     | succ k2 =>
      have H := HA.out
      clear HA
      simp only [whorlref8_Compare.l0] at H
      rcases ifC H with ⟨c15b0, H⟩ | ⟨c15b0, H⟩
      ·by_cases c16 : (l0.length : Int) = 0
       ·rw [if_pos c16] at H
        exact absurd H (by simp)
       ·rw [if_neg c16] at H
        have c16b0 : ((l0.length : Int) == 0) = false := beq_eq_false_iff_ne.mpr c16
        have c16b1 : ((l0.length : Int) != 0) = true := bne_iff_ne.mpr c16
        have c16b2 : ¬ (l0 = []) := fun h_ => c16 (by rw [h_]; rfl)
        obtain ⟨ji17, hji17⟩ : ∃ j_ : Int, (Int.tmod x5_2 (l0.length : Int)) = j_ := ⟨_, rfl⟩
        first | rw [hji17] at H | simp only [hji17] at H
        obtain ⟨c18b0, c19b0, H⟩ := ifD2 H
        by_cases c20 : (l1.length : Int) = 0
        ·rw [if_pos c20] at H
         exact absurd H (by simp)
        ·rw [if_neg c20] at H
         have c20b0 : ((l1.length : Int) == 0) = false := beq_eq_false_iff_ne.mpr c20
         have c20b1 : ((l1.length : Int) != 0) = true := bne_iff_ne.mpr c20
         have c20b2 : ¬ (l1 = []) := fun h_ => c20 (by rw [h_]; rfl)
         obtain ⟨ji21, hji21⟩ : ∃ j_ : Int, (Int.tmod x5_2 (l1.length : Int)) = j_ := ⟨_, rfl⟩
         first | rw [hji21] at H | simp only [hji21] at H
         obtain ⟨c22b0, c23b0, H⟩ := ifD2 H
         rcases ifC H with ⟨c24b0, H⟩ | ⟨c24b0, H⟩
         ·obtain rfl := Option.some.inj H
          obtain ⟨ad606, e606, hx606_0, p606, q606⟩ := rIO HB.out HR0.out (ji17)
          cases e606
          obtain ⟨ad607, e607, hx607_0, p607, q607⟩ := rIO HB.out HR1.out (ji21)
          cases e607
          go_wp2
          repeat (go_quiet (fail); try go_wp2)
          go_ret
          exact ⟨by first | rfl | (simp [errW_none, errW_some] <;> rfl) | (simp only [← hji17, ← hji21]; first | rfl | (simp [errW_none, errW_some] <;> rfl)) | (simp [*, errW_none, errW_some] <;> rfl), uB⟩
         ·rcases ifK H with ⟨c25b0, H⟩ | ⟨c25b0, H⟩
          ·obtain rfl := Option.some.inj H
           obtain ⟨ad606, e606, hx606_0, p606, q606⟩ := rIO HB.out HR0.out (ji17)
           cases e606
           obtain ⟨ad607, e607, hx607_0, p607, q607⟩ := rIO HB.out HR1.out (ji21)
           cases e607
           go_wp2
           repeat (go_quiet (fail); try go_wp2)
           go_ret
           exact ⟨by first | rfl | (simp [errW_none, errW_some] <;> rfl) | (simp only [← hji17, ← hji21]; first | rfl | (simp [errW_none, errW_some] <;> rfl)) | (simp [*, errW_none, errW_some] <;> rfl), uB⟩
          ·have H' := Aside0.mk H
           clear H
           obtain ⟨ad606, e606, hx606_0, p606, q606⟩ := rIO HB.out HR0.out (ji17)
           cases e606
           obtain ⟨ad607, e607, hx607_0, p607, q607⟩ := rIO HB.out HR1.out (ji21)
           cases e607
           go_wp2
           repeat (go_quiet (fail); try go_wp2)
           go_roundg k2
           case measure => have := HJ2.out; have := HK2.out; omega
           case rel => exact ⟨(wrap64 (x5_2 + 1)), sD, H', ⟨by have := HJ2.out; have := HK2.out; omega⟩, ⟨uB⟩⟩
      ·obtain rfl := Option.some.inj H
       go_wp2
       repeat (go_quiet (fail); try go_wp2)
       go_ret
       exact ⟨eR, uB⟩
mutual
def lyndon_Factors.l0 : Nat → List Int → List Int → Int → Option (List Int)
  | 0, _, _, _ => none
  | k + 1, x0, x3, x4 => if x4 < (x0.length : Int) then (lyndon_Factors.l1 k x0 x3 x4 x4 (wrap64 (x4 + 1))) else (some x3)
def lyndon_Factors.l1 : Nat → List Int → List Int → Int → Int → Int → Option (List Int)
  | 0, _, _, _, _, _ => none
  | k + 1, x0, x3, x4, x5, x6 => if x6 < (x0.length : Int) then (if 0 ≤ x5 then (if x5 < (x0.length : Int) then (if 0 ≤ x6 then (lyndon_Factors.j2 k x0 x3 x4 x5 x6 (decide ((rd x0 x5) ≤ (rd x0 x6)))) else (none)) else (none)) else (none)) else (lyndon_Factors.j2 k x0 x3 x4 x5 x6 false)
def lyndon_Factors.j2 : Nat → List Int → List Int → Int → Int → Int → Bool → Option (List Int)
  | 0, _, _, _, _, _, _ => none
  | k + 1, x0, x3, x4, x5, x6, x28 => if x28 = true then (if 0 ≤ x5 then (if x5 < (x0.length : Int) then (if 0 ≤ x6 then (if x6 < (x0.length : Int) then (if (rd x0 x5) < (rd x0 x6) then (lyndon_Factors.l1 k x0 x3 x4 x4 (wrap64 (x6 + 1))) else (lyndon_Factors.l1 k x0 x3 x4 (wrap64 (x5 + 1)) (wrap64 (x6 + 1)))) else (none)) else (none)) else (none)) else (none)) else (lyndon_Factors.l2 k x0 x3 x4 x5 x6)
def lyndon_Factors.l2 : Nat → List Int → List Int → Int → Int → Int → Option (List Int)
  | 0, _, _, _, _, _ => none
  | k + 1, x0, x3, x4, x5, x6 => if x4 ≤ x5 then (if x3.length < 17592186044416 then (lyndon_Factors.l2 k x0 (x3 ++ [wrap64 (x6 - x5)]) (wrap64 (x4 + (wrap64 (x6 - x5)))) x5 x6) else (none)) else (lyndon_Factors.l0 k x0 x3 x4)
end
def lyndon_Factors.f (k : Nat) (l0 : List Int) : Option (List Int) := lyndon_Factors.l0 k l0 ([] : List Int) 0
theorem lyndon_Factors.mono_l : ∀ k, (∀ y0 y1 y2, LeO (lyndon_Factors.l0 k y0 y1 y2) (lyndon_Factors.l0 (k + 1) y0 y1 y2)) ∧ (∀ y0 y1 y2 y3 y4, LeO (lyndon_Factors.l1 k y0 y1 y2 y3 y4) (lyndon_Factors.l1 (k + 1) y0 y1 y2 y3 y4)) ∧ (∀ y0 y1 y2 y3 y4 y5, LeO (lyndon_Factors.j2 k y0 y1 y2 y3 y4 y5) (lyndon_Factors.j2 (k + 1) y0 y1 y2 y3 y4 y5)) ∧ (∀ y0 y1 y2 y3 y4, LeO (lyndon_Factors.l2 k y0 y1 y2 y3 y4) (lyndon_Factors.l2 (k + 1) y0 y1 y2 y3 y4))
  | 0 => ⟨fun _ _ _ r h => by simp [lyndon_Factors.l0] at h, fun _ _ _ _ _ r h => by simp [lyndon_Factors.l1] at h, fun _ _ _ _ _ _ r h => by simp [lyndon_Factors.j2] at h, fun _ _ _ _ _ r h => by simp [lyndon_Factors.l2] at h⟩
  | k + 1 => by
    obtain ⟨ih0, ih1, ih2, ih3⟩ := lyndon_Factors.mono_l k
    refine ⟨?_, ?_, ?_, ?_⟩
    · intro y0 y1 y2
      unfold lyndon_Factors.l0
      exact mB
    · intro y0 y1 y2 y3 y4
      unfold lyndon_Factors.l1
      exact mB
    · intro y0 y1 y2 y3 y4 y5
      unfold lyndon_Factors.j2
      exact mB
    · intro y0 y1 y2 y3 y4
      unfold lyndon_Factors.l2
      exact mB
theorem lyndon_Factors.mono : ∀ a0 k, LeO (lyndon_Factors.f k a0) (lyndon_Factors.f (k + 1) a0) := by
  intro a0 k
  obtain ⟨ih0, ih1, ih2, ih3⟩ := lyndon_Factors.mono_l k
  unfold lyndon_Factors.f
  exact mB
theorem lyndon_Factors.calls (k : Nat) (A0 : Option Addr) (c0 : Nat) (l0 : List Int) (r : List Int) (w : World) (hr0 : Kd.C (Kd.int .u8) w A0 l0.length l0) (hc0 : l0.length ≤ c0) (h : lyndon_Factors.f k l0 = some r) :
    Calls Tryz.prog 36 #[.slice A0 l0.length c0] w fun e w' => ∃ v0_ : Value, e = .returned (v0_) ∧ Kd.R (Kd.int .i64) 3 w' w.heap.size (fun _ => True) v0_ r ∧ Below w.heap.size w w' := by
 have HR0 := Aside0.mk hr0
 have HC0 := Aside0.mk hc0
 clear hr0 hc0
 have HB := Aside0.mk (Below.refl w.heap.size w)
 have H := h
 clear h
 unfold lyndon_Factors.f at H
 have H' := Aside0.mk H
 clear H
 go_enter Tryz.func36, Tryz.ntmps36
 go_wp2
 repeat (go_quiet (fail); try go_wp2)
 go_loopg [3, 4] k (fun kq v3 v4 w' => ∃ (x3_1 : List Int) (x4_1 : Int), v4 = .int .i64 x4_1 ∧ Aside0 (lyndon_Factors.l0 kq l0 x3_1 x4_1 = some r) ∧ Aside0 (kq ≤ k) ∧ Aside0 (Kd.R (Kd.int .i64) 3 w' w.heap.size (fun _ => True) v3 x3_1) ∧ Aside0 (Below w.heap.size w w'))
 case atStart => exact ⟨(([] : List Int)), (0), sD, H', ⟨Nat.le_refl _⟩, ⟨nL⟩, ⟨uB⟩⟩
 case round =>
  clear H'
  obtain ⟨x3_1, x4_1, rfl, HA, HK1, HO_3, HB⟩ := hrel
  cases gk with
  | zero => exact absurd HA.out (by simp [lyndon_Factors.l0])
  | succ k1 =>
   have H := HA.out
   clear HA
   simp only [lyndon_Factors.l0] at H
   rcases ifC H with ⟨c2b0, H⟩ | ⟨c2b0, H⟩
   ·have H' := Aside0.mk H
    clear H
    go_wp2
    repeat (go_quiet (fail); try go_wp2)
    go_loopg [5, 6] k1 (fun kq v5 v6 w' => ∃ (x5_2 : Int) (x6_2 : Int), v5 = .int .i64 x5_2 ∧ v6 = .int .i64 x6_2 ∧ Aside0 (lyndon_Factors.l1 kq l0 x3_1 x4_1 x5_2 x6_2 = some r) ∧ Aside0 (kq ≤ k1) ∧ Aside0 (Kd.R (Kd.int .i64) 3 w' w.heap.size (fun _ => True) u3 x3_1) ∧ Aside0 (Below w.heap.size w w'))
    case atStart => exact ⟨(x4_1), (wrap64 (x4_1 + 1)), sD, sD, H', ⟨Nat.le_refl _⟩, ⟨uR HO_3.out⟩, ⟨uB⟩⟩
    case round =>
     clear H'
     obtain ⟨x5_2, x6_2, rfl, rfl, HA, HK2, HO_3, HB⟩ := hrel
     cases gk with
     | zero => exact absurd HA.out (by simp [lyndon_Factors.l1])
     | succ k2 =>
      have H := HA.out
      clear HA
      simp only [lyndon_Factors.l1] at H
      have HC3 := Aside0.mk H
      clear H
      go_upto_region 5 with (fail)
      repeat (go_quiet (fail); go_upto_region 5 with (fail))
      go_cut [28] (fun v28 wc => ∃ (kq : Nat) (x28_2 : Bool), v28 = .bool x28_2 ∧ Aside0 (lyndon_Factors.j2 kq l0 x3_1 x4_1 x5_2 x6_2 x28_2 = some r) ∧ Aside0 (kq ≤ k2) ∧ Aside0 (Kd.R (Kd.int .i64) 3 wc w.heap.size (fun _ => True) u3 x3_1) ∧ Aside0 (Below w.heap.size w wc))
      case first =>
       have H := HC3.out
       clear HC3
       rcases ifC H with ⟨c4b0, H⟩ | ⟨c4b0, H⟩
       ·(first | rw [c4b0] | (simp only [i64_w, i32_w]; rw [c4b0]) | skip)
        obtain ⟨c5b0, H⟩ := ifD H
        obtain ⟨c6b0, c7b0, H⟩ := ifD2 H
        have H' := Aside0.mk H
        clear H
        obtain ⟨ad608, e608, hx608_0, p608, q608⟩ := rIO HB.out HR0.out x5_2
        cases e608
        obtain ⟨ad609, e609, hx609_0, p609, q609⟩ := rIO HB.out HR0.out x6_2
        obtain rfl : ad608 = ad609 := (by injection e609)
        go_wp2
        repeat (go_quiet (fail); try go_wp2)
        go_meet
        case rel => exact ⟨_, (decide ((rd l0 x5_2) ≤ (rd l0 x6_2))), sD, H', ⟨by have := HK1.out; have := HK2.out; first | omega | exact Nat.le_refl _⟩, ⟨uR HO_3.out⟩, ⟨uB⟩⟩
       ·(first | rw [c4b0] | (simp only [i64_w, i32_w]; rw [c4b0]) | skip)
        have H' := Aside0.mk H
        clear H
        go_wp2
        repeat (go_quiet (fail); try go_wp2)
        go_meet
        case rel => exact ⟨_, (false), sD, H', ⟨by have := HK1.out; have := HK2.out; first | omega | exact Nat.le_refl _⟩, ⟨uR HO_3.out⟩, ⟨uB⟩⟩
      case rest =>
       clear HC3
       obtain ⟨kq, x28_2, rfl, HA, HJ2, HO_3, HB⟩ := hcut
       cases kq with
       | zero => exact absurd HA.out (by simp [lyndon_Factors.j2])
       | succ kj2 =>
        have H := HA.out
        clear HA
        simp only [lyndon_Factors.j2] at H
        by_cases c8 : x28_2 = true
        ·subst c8
         rw [if_pos rfl] at H
         obtain ⟨c9b0, c10b0, H⟩ := ifD2 H
         obtain ⟨c11b0, c12b0, H⟩ := ifD2 H
         rcases ifC H with ⟨c13b0, H⟩ | ⟨c13b0, H⟩
         ·have H' := Aside0.mk H
          clear H
          obtain ⟨ad610, e610, hx610_0, p610, q610⟩ := rIO HB.out HR0.out x5_2
          cases e610
          obtain ⟨ad611, e611, hx611_0, p611, q611⟩ := rIO HB.out HR0.out x6_2
          obtain rfl : ad610 = ad611 := (by injection e611)
          go_wp2
          repeat (go_quiet (fail); try go_wp2)
          go_roundg kj2
          case measure => have := HK1.out; have := HK2.out; have := HJ2.out; omega
          case rel => exact ⟨(x4_1), (wrap64 (x6_2 + 1)), sD, sD, H', ⟨by have := HK1.out; have := HK2.out; have := HJ2.out; omega⟩, ⟨uR HO_3.out⟩, ⟨uB⟩⟩
         ·have H' := Aside0.mk H
          clear H
          obtain ⟨ad610, e610, hx610_0, p610, q610⟩ := rIO HB.out HR0.out x5_2
          cases e610
          obtain ⟨ad611, e611, hx611_0, p611, q611⟩ := rIO HB.out HR0.out x6_2
          obtain rfl : ad610 = ad611 := (by injection e611)
          go_wp2
          repeat (go_quiet (fail); try go_wp2)
          go_roundg kj2
          case measure => have := HK1.out; have := HK2.out; have := HJ2.out; omega
          case rel => exact ⟨(wrap64 (x5_2 + 1)), (wrap64 (x6_2 + 1)), sD, sD, H', ⟨by have := HK1.out; have := HK2.out; have := HJ2.out; omega⟩, ⟨uR HO_3.out⟩, ⟨uB⟩⟩
        ·replace c8 := Bool.eq_false_iff.mpr c8
         subst c8
         rw [if_neg (by decide)] at H
         have H' := Aside0.mk H
         clear H
         go_wp2
         repeat (go_quiet (fail); try go_wp2)
         go_loopg [3, 4] kj2 (fun kq v3 v4 w' => ∃ (x3_4 : List Int) (x4_4 : Int), v4 = .int .i64 x4_4 ∧ Aside0 (lyndon_Factors.l2 kq l0 x3_4 x4_4 x5_2 x6_2 = some r) ∧ Aside0 (kq ≤ kj2) ∧ Aside0 (Kd.R (Kd.int .i64) 3 w' w.heap.size (fun _ => True) v3 x3_4) ∧ Aside0 (Below w.heap.size w w'))
         case atStart => exact ⟨(x3_1), (x4_1), sD, H', ⟨Nat.le_refl _⟩, ⟨uR HO_3.out⟩, ⟨uB⟩⟩
         case round =>
          clear H'
          obtain ⟨x3_4, x4_4, rfl, HA, HK4, HO_3, HB⟩ := hrel
          cases gk with
          | zero => exact absurd HA.out (by simp [lyndon_Factors.l2])
          | succ k4 =>
           have H := HA.out
           clear HA
           simp only [lyndon_Factors.l2] at H
           rcases ifC H with ⟨c14b0, H⟩ | ⟨c14b0, H⟩
           ·obtain ⟨c15, H⟩ := ifP H
            have LMc15 := Aside0.mk c15
            clear c15
            generalize hy612 : (x3_4 ++ [wrap64 (x6_2 - x5_2)] : List Int) = y612 at H
            try simp only [Option.bind_some] at H
            have Ny612 := Aside0.mk hy612.symm
            clear hy612
            have H' := Aside0.mk H
            clear H
            go_wp2_with (first | ((with_reducible refine gate_builtin (b := .append) (xs := #[.tmp 46, .tmp 50]) rfl ?_); at_builtin; refine Kd.R_append (Kd.int .i64) (w0 := w) w.heap.size rfl (.tmp 46) (.tmp 50) 29 3 (.int .i64 0) 8 rfl Tryz.underlying29 info3 rfl (by decide) (by omega) u3 x3_4 (wrap64 (x6_2 - x5_2)) [.int .i64 (wrap64 (x6_2 - x5_2))] (fun _ => True) (fun _ => False) rfl rfl ?aP (fun _ hk => hk.elim) ?aF ?aO ?aB ?aS ?aL ?_; (case aP => exact rfl); (case aB => exact uB); (case aF => exact (fun _ _ => trivial)); (case aO => exact (uR HO_3.out)); (case aS => exact (below_size uB)); (case aL => have := LMc15.out; omega); intro v613 w16 ho hb hg hat; rw [← Ny612.out] at ho; have n0_ := Aside0.mk (hb); have n1_ := Aside0.mk (ho); clear HB HO_3; have HB := n0_; have HO614 := n1_; clear n0_ n1_; clear ho hb hg hat))
            repeat (go_quiet (first | ((with_reducible refine gate_builtin (b := .append) (xs := #[.tmp 46, .tmp 50]) rfl ?_); at_builtin; refine Kd.R_append (Kd.int .i64) (w0 := w) w.heap.size rfl (.tmp 46) (.tmp 50) 29 3 (.int .i64 0) 8 rfl Tryz.underlying29 info3 rfl (by decide) (by omega) u3 x3_4 (wrap64 (x6_2 - x5_2)) [.int .i64 (wrap64 (x6_2 - x5_2))] (fun _ => True) (fun _ => False) rfl rfl ?aP (fun _ hk => hk.elim) ?aF ?aO ?aB ?aS ?aL ?_; (case aP => exact rfl); (case aB => exact uB); (case aF => exact (fun _ _ => trivial)); (case aO => exact (uR HO_3.out)); (case aS => exact (below_size uB)); (case aL => have := LMc15.out; omega); intro v613 w16 ho hb hg hat; rw [← Ny612.out] at ho; have n0_ := Aside0.mk (hb); have n1_ := Aside0.mk (ho); clear HB HO_3; have HB := n0_; have HO614 := n1_; clear n0_ n1_; clear ho hb hg hat)); try go_wp2_with (first | ((with_reducible refine gate_builtin (b := .append) (xs := #[.tmp 46, .tmp 50]) rfl ?_); at_builtin; refine Kd.R_append (Kd.int .i64) (w0 := w) w.heap.size rfl (.tmp 46) (.tmp 50) 29 3 (.int .i64 0) 8 rfl Tryz.underlying29 info3 rfl (by decide) (by omega) u3 x3_4 (wrap64 (x6_2 - x5_2)) [.int .i64 (wrap64 (x6_2 - x5_2))] (fun _ => True) (fun _ => False) rfl rfl ?aP (fun _ hk => hk.elim) ?aF ?aO ?aB ?aS ?aL ?_; (case aP => exact rfl); (case aB => exact uB); (case aF => exact (fun _ _ => trivial)); (case aO => exact (uR HO_3.out)); (case aS => exact (below_size uB)); (case aL => have := LMc15.out; omega); intro v613 w16 ho hb hg hat; rw [← Ny612.out] at ho; have n0_ := Aside0.mk (hb); have n1_ := Aside0.mk (ho); clear HB HO_3; have HB := n0_; have HO614 := n1_; clear n0_ n1_; clear ho hb hg hat)))
            go_roundg k4
            case measure => have := HK1.out; have := HK2.out; have := HJ2.out; have := HK4.out; omega
            case rel => exact ⟨(y612), (wrap64 (x4_4 + (wrap64 (x6_2 - x5_2)))), sD, H', ⟨by have := HK1.out; have := HK2.out; have := HJ2.out; have := HK4.out; omega⟩, ⟨uR HO614.out⟩, ⟨uB⟩⟩
           ·have H' := Aside0.mk H
            clear H
            go_wp2
            repeat (go_quiet (fail); try go_wp2)
            go_roundg k4
            case measure => have := HK1.out; have := HK2.out; have := HJ2.out; have := HK4.out; omega
            case rel => exact ⟨(x3_4), (x4_4), sD, H', ⟨by have := HK1.out; have := HK2.out; have := HJ2.out; have := HK4.out; omega⟩, ⟨uR HO_3.out⟩, ⟨uB⟩⟩
   ·obtain rfl := Option.some.inj H
    go_wp2
    repeat (go_quiet (fail); try go_wp2)
    go_ret
    exact ⟨_, eR, uR HO_3.out, uB⟩
def bij_Turn.f (k : Nat) (l0 : List Int) : Option (List Int × Int) :=
  if (∀ x ∈ l0, 0 ≤ x ∧ x < 256) ∧ l0.length ≤ 100000 then
    (lyndon_Factors.f k l0).bind fun fl =>
      if (∀ x ∈ fl, 0 < x) ∧ Go.Proofs.YtbbpplnnegdenaaGreat.Bt.smN fl fl.length = l0.length ∧ fl.length ≤ l0.length then
        some ((Go.Proofs.YtbbpplnnegdenaaGreat.Oy.omegaT (Go.Proofs.YtbbpplnnegdenaaGreat.Bt.cutW l0 fl)).map (Go.Proofs.YtbbpplnnegdenaaGreat.Bt.lastC (Go.Proofs.YtbbpplnnegdenaaGreat.Bt.cutW l0 fl)), 0)
      else none
  else none
theorem bij_Turn.mono : ∀ a0 k, LeO (bij_Turn.f k a0) (bij_Turn.f (k + 1) a0) := by
  intro a0 k
  unfold bij_Turn.f
  exact LeO.ite (LeO.bind (lyndon_Factors.mono _ _) (fun fl => LeO.refl _)) (LeO.none _)
theorem bij_Turn.calls (k : Nat) (A0 : Option Addr) (c0 : Nat) (l0 : List Int) (r1 : List Int) (r2 : Int) (w : World) (hr0 : Kd.C (Kd.int .u8) w A0 l0.length l0) (hc0 : l0.length ≤ c0) (h : bij_Turn.f k l0 = some (r1, r2)) :
    Calls Tryz.prog 11 #[.slice A0 l0.length c0] w fun e w' => ∃ v0_ : Value, e = .returned (.tuple #[v0_, .int .i64 r2]) ∧ Kd.R (Kd.int .u8) 5 w' w.heap.size (fun _ => True) v0_ r1 ∧ Below w.heap.size w w' := by
 unfold bij_Turn.f at h
 by_cases c1 : (∀ x ∈ l0, 0 ≤ x ∧ x < 256) ∧ l0.length ≤ 100000
 case neg => rw [if_neg c1] at h; exact absurd h (by simp)
 rw [if_pos c1] at h
 obtain ⟨fl, hf, h⟩ := Option.bind_eq_some_iff.1 h
 by_cases c2 : (∀ x ∈ fl, 0 < x) ∧ Go.Proofs.YtbbpplnnegdenaaGreat.Bt.smN fl fl.length = l0.length ∧ fl.length ≤ l0.length
 case neg => rw [if_neg c2] at h; exact absurd h (by simp)
 rw [if_pos c2] at h
 injection h with h
 injection h with h1 h2
 subst h1 h2
 refine (Go.Proofs.YtbbpplnnegdenaaGreat.Bt.turn_calls w A0 c0 l0 hr0 hc0 c1.1 c1.2 fl (lyndon_Factors.calls k A0 c0 l0 fl w hr0 hc0 hf) c2.1 c2.2.1 c2.2.2).mono ?_
 rintro e W' ⟨v, T, he, hT, hR, hB⟩
 rw [hT.uniq (Go.Proofs.YtbbpplnnegdenaaGreat.Oy.omegaT_is _)] at hR
 exact ⟨v, he, hR, hB⟩
def whorltop_TopBij.Wants (l0 fl : List Int) (cv : Nat × Nat → Nat × Nat → Int) : Prop :=
  (∃ k, whorlref7_Factors.f k l0 = some fl) ∧ ((∀ x ∈ fl, 0 < x) ∧ Go.Proofs.YtbbpplnnegdenaaGreat.Bt.smN fl fl.length = l0.length ∧ fl.length ≤ l0.length) ∧
  (∀ t t', Go.Proofs.YtbbpplnnegdenaaGreat.Om.isT (Go.Proofs.YtbbpplnnegdenaaGreat.Bt.cutW l0 fl) t → Go.Proofs.YtbbpplnnegdenaaGreat.Om.isT (Go.Proofs.YtbbpplnnegdenaaGreat.Bt.cutW l0 fl) t' → (cv t t' < 0 ↔ Go.Proofs.YtbbpplnnegdenaaGreat.Om.ltS (Go.Proofs.YtbbpplnnegdenaaGreat.Om.chr (Go.Proofs.YtbbpplnnegdenaaGreat.Bt.cutW l0 fl) t) (Go.Proofs.YtbbpplnnegdenaaGreat.Om.chr (Go.Proofs.YtbbpplnnegdenaaGreat.Bt.cutW l0 fl) t')) ∧ ∃ k, whorlref8_Compare.f k (Go.Proofs.YtbbpplnnegdenaaGreat.R8.rotW (Go.Proofs.YtbbpplnnegdenaaGreat.Bt.cutW l0 fl) t) (Go.Proofs.YtbbpplnnegdenaaGreat.R8.rotW (Go.Proofs.YtbbpplnnegdenaaGreat.Bt.cutW l0 fl) t') = some (cv t t')) ∧
  (∀ t, Go.Proofs.YtbbpplnnegdenaaGreat.Om.isT (Go.Proofs.YtbbpplnnegdenaaGreat.Bt.cutW l0 fl) t → whorlref4_Turn.f (Go.Proofs.YtbbpplnnegdenaaGreat.Om.wd (Go.Proofs.YtbbpplnnegdenaaGreat.Bt.cutW l0 fl) t.1) (t.2 : Int) = some (Go.Proofs.YtbbpplnnegdenaaGreat.R8.rotW (Go.Proofs.YtbbpplnnegdenaaGreat.Bt.cutW l0 fl) t)) ∧
  ∃ k, bij_Turn.f k l0 = some ((Go.Proofs.YtbbpplnnegdenaaGreat.Oy.omegaT (Go.Proofs.YtbbpplnnegdenaaGreat.Bt.cutW l0 fl)).map (Go.Proofs.YtbbpplnnegdenaaGreat.Bt.lastC (Go.Proofs.YtbbpplnnegdenaaGreat.Bt.cutW l0 fl)), 0)
def whorltop_TopBij.Pure : Prop := ∀ (l0 : List Int), l0.length ≤ 60 → (∀ x ∈ l0, (Lit.int .u8 x).wf = true) → ∃ fl cv, whorltop_TopBij.Wants l0 fl cv
theorem whorltop_TopBij.walk (P : whorltop_TopBij.Pure) (a0 : Option Addr) (len0 cap0 : Nat) (z0 : List Int) (w : World) (w0 : (a0 = none ∧ len0 = 0 ∧ cap0 = 0 ∧ z0 = []) ∨ ∃ x, a0 = some x ∧ len0 ≤ cap0 ∧ cap0 ≤ maxLen ∧ z0.length = cap0 ∧ (∀ i, i < z0.length → w.cell? (x.add i) = some (.int .u8 (z0.getD i 0))) ∧ ∀ n ∈ z0, (Lit.int .u8 n).wf = true) (y0 : len0 * 1 ≤ 140737488351232) :
    Calls Tryz.prog 4 #[.slice a0 len0 cap0] w fun e w' => e = .returned (.bool true) ∧ Below w.heap.size w w' := by
  obtain ⟨l0, rfl, hr0, hm0, hw0, hc0⟩ := ReadsInt.ofRowC w0
  rcases Nat.lt_or_ge 60 l0.length with h60 | h60
  · exact Go.Proofs.YtbbpplnnegdenaaGreat.Bl.law_long w _ _ _ h60
  obtain ⟨fl, cv, ⟨kF, hF⟩, ⟨h1, h2, h3⟩, hcv, hT, kB, hB⟩ := P l0 h60 hw0
  have hC : Kd.C (Kd.int .u8) w _ l0.length l0 := Kd.C_of_reads (d := (0 : Int)) (h1 := fun _ => rfl) hr0
  refine Go.Proofs.YtbbpplnnegdenaaGreat.Bl.law_calls w _ _ l0 hC hc0 h60 fl ?_ h1 h2 h3 cv (fun t t' ht ht' => (hcv t t' ht ht').1) ?_ ?_ ?_ ?_
  · refine (whorlref7_Factors.calls kF (fun k_ => k_ < w.heap.size) _ _ l0 fl w (Kd.V_mk hc0 (Kd.F_below (Kd.C_F (Kd.heap_int .u8) hC) (Below.refl _ _))) hF).mono ?_
    rintro e w' ⟨v, he, hR, hb⟩
    exact ⟨v, he, Kd.R_mono hR (fun _ _ => trivial), hb⟩
  · intro w A c t ht hc hC
    exact whorlref4_Turn.calls A c _ _ _ w hC hc (hT t ht)
  · intro w A B c d t t' ht ht' hc hd h4 h5
    obtain ⟨k, hk⟩ := (hcv t t' ht ht').2
    rw [← Go.Proofs.YtbbpplnnegdenaaGreat.R8.rotW_length ht] at hc h4 ⊢
    rw [← Go.Proofs.YtbbpplnnegdenaaGreat.R8.rotW_length ht'] at hd h5 ⊢
    exact whorlref8_Compare.calls k A c _ B d _ _ w h4 hc h5 hd hk
  · intro w h
    obtain ⟨v, he⟩ : ∃ v, v = (0 : Int) := ⟨_, rfl⟩
    exact (bij_Turn.calls kB _ _ l0 _ _ w h hc0 hB)
  · intro w
    exact whorltop_known.calls 0 true w rfl
end Go.Proofs.YtbbpplnnegdenaaGreat.PTopBij
end
section
namespace Go.Proofs.YtbbpplnnegdenaaGreat.Pure
open Go Go.RowKit Go.Proofs.YtbbpplnnegdenaaGreat.PTopBij Go.Proofs.YtbbpplnnegdenaaGreatW.PrintWords Go.Proofs.YtbbpplnnegdenaaGreatW.PrintLast Go.Proofs.YtbbpplnnegdenaaGreat.MM
theorem fac_l2 (s : List Int) (hn : s.length ≤ 17592186044416) (a0 : Nat)
  (IH : ∀ a, a0 < a → a ≤ s.length → ∃ l, Facts (s.drop a) l ∧ ∀ acc : List Int, acc.length ≤ a → Ev (fun k => lyndon_Factors.l0 k s acc (a : Int)) (acc ++ l)) (p j : Nat) (hp : 0 < p) (hpj : p ≤ j) (hj : j ≤ s.length) (hend : j = s.length ∨ s.getD j 0 < s.getD (j - p) 0) :
  ∀ (d a : Nat), j - a ≤ d → a0 ≤ a → a ≤ j → (a0 < a ∨ p ≤ j - a) → (p ≤ j - a → (∀ x, x < j - a → s.getD (a + x) 0 = s.getD (a + x % p) 0) ∧ isLyn ((s.drop a).take p)) →
  ∃ l, Facts (s.drop a) l ∧ ∀ acc : List Int, acc.length ≤ a → Ev (fun k => lyndon_Factors.l2 k s acc (a : Int) ((j : Int) - p) (j : Int)) (acc ++ l) := by
 intro d
 induction d with
 | zero =>
   intro a hd ha haj ho hinv
   obtain ⟨l, hf, hev⟩ := IH a (by omega) (by omega)
   refine ⟨l, hf, fun acc hacc => ?_⟩
   refine Ev.step (fun k => by rw [lyndon_Factors.l2]) ?_
   simp only [if_neg (show ¬ (a : Int) ≤ (j : Int) - p by omega)]
   exact hev acc hacc
 | succ d ih =>
   intro a hd ha haj ho hinv
   by_cases hpa : p ≤ j - a
   ·obtain ⟨hper, hlyn⟩ := hinv hpa
    obtain ⟨l, hf, hev⟩ := ih (a + p) (by omega) (by omega) (by omega) (by omega) (fun hpa2 => by
     refine ⟨fun x hx => ?_, ?_⟩
     ·have h1 := hper (p + x) (by omega)
      have h2 := hper (p + x % p) (by have := Nat.mod_lt x hp; omega)
      rw [Nat.add_mod_left] at h1 h2
      rw [Nat.mod_mod] at h2
      rw [Nat.add_assoc, h1, Nat.add_assoc, h2]
     ·have e : (s.drop (a + p)).take p = (s.drop a).take p := by
       refine ext_getD (by rw [List.length_take, List.length_take, List.length_drop, List.length_drop]; omega) (fun x hx => ?_)
       rw [List.length_take] at hx
       rw [getD_take _ _ _ (by omega), getD_take _ _ _ (by omega), getD_drop, getD_drop]
       have h1 := hper (p + x) (by omega)
       rw [Nat.add_mod_left, Nat.mod_eq_of_lt (by omega)] at h1
       rw [Nat.add_assoc, h1]
      rw [e]; exact hlyn)
    have hdl : (s.drop a).length = s.length - a := List.length_drop ..
    have hmost : ∀ m', p < m' → m' ≤ (s.drop a).length → ¬ isLyn ((s.drop a).take m') := fun m' h1 h2 =>
     lyn_most (j := j - a) hp hpa (by omega) (fun x hx => by rw [getD_drop, getD_drop]; exact hper x hx) (by
      rcases hend with h | h
      ·left; omega
      ·right; rw [getD_drop, getD_drop, show a + (j - a) = j by omega, show a + (j - a - p) = j - p by omega]; exact h) h1 h2
    refine ⟨(p : Int) :: l, .cons (by omega) hlyn hmost (by rw [List.drop_drop]; exact hf), fun acc hacc => ?_⟩
    refine Ev.step (fun k => by rw [lyndon_Factors.l2]) ?_
    have hx := hev (acc ++ [(p : Int)]) (by rw [List.length_append, List.length_singleton]; omega)
    have c1 : (a : Int) ≤ (j : Int) - p := by omega
    have c2 : acc.length < 17592186044416 := by omega
    have w1 : wrap64 ((j : Int) - ((j : Int) - p)) = (p : Int) := by rw [wrap64_id (by omega) (by omega)]; omega
    have w2 : wrap64 ((a : Int) + (p : Int)) = ((a + p : Nat) : Int) := by clear w1; rw [wrap64_id (by omega) (by omega)]; omega
    simp only [if_pos c1, if_pos c2, w1, w2]
    rw [List.append_assoc] at hx
    exact hx
   ·obtain ⟨l, hf, hev⟩ := IH a (by omega) (by omega)
    refine ⟨l, hf, fun acc hacc => ?_⟩
    refine Ev.step (fun k => by rw [lyndon_Factors.l2]) ?_
    simp only [if_neg (show ¬ (a : Int) ≤ (j : Int) - p by omega)]
    exact hev acc hacc
theorem fac_l1 (s : List Int) (hn : s.length ≤ 17592186044416) (a : Nat)
  (IH : ∀ a', a < a' → a' ≤ s.length → ∃ l, Facts (s.drop a') l ∧ ∀ acc : List Int, acc.length ≤ a' → Ev (fun k => lyndon_Factors.l0 k s acc (a' : Int)) (acc ++ l)) :
  ∀ (d p j : Nat), j + d = s.length → 0 < p → a + p ≤ j → j ≤ s.length → (∀ x, x < j - a → s.getD (a + x) 0 = s.getD (a + x % p) 0) → isLyn ((s.drop a).take p) →
  ∃ l, Facts (s.drop a) l ∧ ∀ acc : List Int, acc.length ≤ a → Ev (fun k => lyndon_Factors.l1 k s acc (a : Int) ((j : Int) - p) (j : Int)) (acc ++ l) := by
 intro d
 induction d with
 | zero =>
   intro p j hd hp hpj hj hper hlyn
   obtain ⟨l, hf, hev⟩ := fac_l2 s hn a IH p j hp (by omega) hj (.inl (by omega)) (j - a) a (by omega) (Nat.le_refl _) (by omega) (.inr (by omega)) (fun _ => ⟨hper, hlyn⟩)
   refine ⟨l, hf, fun acc hacc => ?_⟩
   refine Ev.step (fun k => by rw [lyndon_Factors.l1]) ?_
   simp only [if_neg (show ¬ (j : Int) < s.length by omega)]
   refine Ev.step (fun k => by rw [lyndon_Factors.j2]) ?_
   simp only [if_neg (show ¬ false = true by decide)]
   exact hev acc hacc
 | succ d ih =>
   intro p j hd hp hpj hj hper hlyn
   have hjl : j < s.length := by omega
   have hi : ((j : Int) - p) = ((j - p : Nat) : Int) := by omega
   have hdl : (s.drop a).length = s.length - a := List.length_drop ..
   by_cases hlt : s.getD (j - p) 0 < s.getD j 0
   ·
    have hg := lyn_grow (t := s.drop a) (p := p) (j := j - a) hp (by omega) (by omega) (fun x hx => by rw [getD_drop, getD_drop]; exact hper x hx) hlyn (by
     rw [getD_drop, getD_drop, show a + (j - a) = j by omega, show a + (j - a - p) = j - p by omega]; exact hlt)
    obtain ⟨l, hf, hev⟩ := ih (j - a + 1) (j + 1) (by omega) (by omega) (by omega) (by omega) (fun x hx => by rw [Nat.mod_eq_of_lt (by omega)]) hg
    refine ⟨l, hf, fun acc hacc => ?_⟩
    refine Ev.step (fun k => by rw [lyndon_Factors.l1]) ?_
    simp only [hi, rd_nat]
    simp only [if_pos (show (j : Int) < s.length by omega), if_pos (show (0 : Int) ≤ ((j - p : Nat) : Int) by omega), if_pos (show ((j - p : Nat) : Int) < s.length by omega), if_pos (show 0 ≤ (j : Int) by omega), decide_eq_true (show s.getD (j - p) 0 ≤ s.getD j 0 by omega)]
    refine Ev.step (fun k => by rw [lyndon_Factors.j2]) ?_
    simp only [rd_nat, if_true, if_pos hlt, wrap_nat hjl (show s.length ≤ 140737488355328 by omega)]
    simp only [if_pos (show (j : Int) < s.length by omega), if_pos (show (0 : Int) ≤ ((j - p : Nat) : Int) by omega), if_pos (show ((j - p : Nat) : Int) < s.length by omega), if_pos (show 0 ≤ (j : Int) by omega)]
    have := hev acc hacc
    rw [show ((j + 1 : Nat) : Int) - ((j - a + 1 : Nat) : Int) = (a : Int) by omega] at this
    exact this
   ·by_cases heq : s.getD (j - p) 0 = s.getD j 0
    ·obtain ⟨l, hf, hev⟩ := ih p (j + 1) (by omega) hp (by omega) (by omega) (fun x hx => by
      by_cases hxj : x = j - a
      ·subst hxj
       rw [show a + (j - a) = j by omega, ← heq]
       have h1 := hper (j - a - p) (by omega)
       rw [show a + (j - a - p) = j - p by omega] at h1
       rw [h1, ← Nat.mod_eq_sub_mod (by omega)]
      ·exact hper x (by omega)) hlyn
     refine ⟨l, hf, fun acc hacc => ?_⟩
     refine Ev.step (fun k => by rw [lyndon_Factors.l1]) ?_
     simp only [hi, rd_nat]
     simp only [if_pos (show (j : Int) < s.length by omega), if_pos (show (0 : Int) ≤ ((j - p : Nat) : Int) by omega), if_pos (show ((j - p : Nat) : Int) < s.length by omega), if_pos (show 0 ≤ (j : Int) by omega), decide_eq_true (show s.getD (j - p) 0 ≤ s.getD j 0 by omega)]
     refine Ev.step (fun k => by rw [lyndon_Factors.j2]) ?_
     simp only [rd_nat, if_true, if_neg hlt, wrap_nat hjl (show s.length ≤ 140737488355328 by omega), wrap_nat (show j - p < s.length by omega) (show s.length ≤ 140737488355328 by omega)]
     simp only [if_pos (show (j : Int) < s.length by omega), if_pos (show (0 : Int) ≤ ((j - p : Nat) : Int) by omega), if_pos (show ((j - p : Nat) : Int) < s.length by omega), if_pos (show 0 ≤ (j : Int) by omega)]
     have := hev acc hacc
     rw [show ((j + 1 : Nat) : Int) - (p : Int) = ((j - p + 1 : Nat) : Int) by omega] at this
     exact this
    ·obtain ⟨l, hf, hev⟩ := fac_l2 s hn a IH p j hp (by omega) hj (.inr (by omega)) (j - a) a (by omega) (Nat.le_refl _) (by omega) (.inr (by omega)) (fun _ => ⟨hper, hlyn⟩)
     refine ⟨l, hf, fun acc hacc => ?_⟩
     refine Ev.step (fun k => by rw [lyndon_Factors.l1]) ?_
     rw [hi]
     simp only [rd_nat]
     simp only [if_pos (show (j : Int) < s.length by omega), if_pos (show (0 : Int) ≤ ((j - p : Nat) : Int) by omega), if_pos (show ((j - p : Nat) : Int) < s.length by omega), if_pos (show 0 ≤ (j : Int) by omega), decide_eq_false (show ¬ s.getD (j - p) 0 ≤ s.getD j 0 by omega)]
     refine Ev.step (fun k => by rw [lyndon_Factors.j2]) ?_
     simp only [if_neg (show ¬ false = true by decide)]
     rw [← hi]
     exact hev acc hacc
theorem fac_l0 (s : List Int) (hn : s.length ≤ 17592186044416) : ∀ (d a : Nat), s.length - a ≤ d → a ≤ s.length → ∃ l, Facts (s.drop a) l ∧ ∀ acc : List Int, acc.length ≤ a → Ev (fun k => lyndon_Factors.l0 k s acc (a : Int)) (acc ++ l) := by
 intro d
 induction d with
 | zero =>
   intro a hd ha
   refine ⟨[], by rw [List.drop_of_length_le (by omega)]; exact .nil, fun acc hacc => ?_⟩
   refine Ev.step (fun k => by rw [lyndon_Factors.l0]) ?_
   simp only [if_neg (show ¬ (a : Int) < s.length by omega), List.append_nil]
   exact Ev.now _
 | succ d ih =>
   intro a hd ha
   by_cases hlt : a < s.length
   ·obtain ⟨l, hf, hev⟩ := fac_l1 s hn a (fun a' h1 h2 => ih a' (by omega) h2) (s.length - (a + 1)) 1 (a + 1) (by omega) (by omega) (by omega) (by omega) (fun x hx => by rw [show x = 0 by omega]) (by
     rw [List.drop_eq_getElem_cons hlt]; exact lyn_one _)
    refine ⟨l, hf, fun acc hacc => ?_⟩
    refine Ev.step (fun k => by rw [lyndon_Factors.l0]) ?_
    simp only [if_pos (show (a : Int) < s.length by omega), wrap_nat hlt (show s.length ≤ 140737488355328 by omega)]
    have := hev acc hacc
    rw [show ((a + 1 : Nat) : Int) - ((1 : Nat) : Int) = (a : Int) by omega] at this
    exact this
   ·exact ih a (by omega) ha
theorem lyndon_Factors_ev (s : List Int) (hn : s.length ≤ 17592186044416) : ∃ l, Facts s l ∧ Ev (fun k => lyndon_Factors.f k s) l := by
 obtain ⟨l, hf, hev⟩ := fac_l0 s hn s.length 0 (by omega) (by omega)
 refine ⟨l, hf, ?_⟩
 have := hev [] (by simp)
 rw [List.nil_append] at this
 exact Ev.congr (fun k => rfl) this
open Go.Proofs.YtbbpplnnegdenaaGreat.Om (wd chr isT ltT ixL ltS eqN Omega onT at_ onT_is chr_on chr_per ltS_congr ltS_congl ltS_irrefl ltS_asymm ltS_trans)
open Go.Proofs.YtbbpplnnegdenaaGreat.Oy (omegaT omegaT_is)
open Go.Proofs.YtbbpplnnegdenaaGreat.Bt (cutW smN lastC cutW_length)
def lastL (ws : List (List Int)) (T : List (Nat × Nat)) : List Int := T.map (lastC ws)
def TurnR (s y : List Int) : Prop := ∃ l, Facts s l ∧ y = lastL (cutW s l) (omegaT (cutW s l))
theorem bij_Turn_ev (s : List Int) (hb : ∀ x ∈ s, 0 ≤ x ∧ x ≤ 255) (hn : s.length ≤ 100000) : ∃ y, TurnR s y ∧ Ev (fun k => bij_Turn.f k s) (y, 0) := by
 obtain ⟨l, hF, hE⟩ := lyndon_Factors_ev s (by omega)
 refine ⟨_, ⟨l, hF, rfl⟩, ?_⟩
 have hpos := hF.pos
 have hsm : ∀ l : List Int, (∀ x ∈ l, 0 < x) → ((smN l l.length : Nat) : Int) = l.sum := by
  intro l hl
  unfold smN
  rw [List.take_length]
  induction l with
  | nil => rfl
  | cons x l ih =>
    rw [List.map_cons, List.sum_cons, List.sum_cons, ← ih (fun y hy => hl y (by simp [hy]))]
    have := hl x (by simp)
    omega
 have h1 := hsm l hpos
 rw [hF.sum] at h1
 refine Ev.congr (fun k => by rw [bij_Turn.f, if_pos ⟨fun x hx => by have := hb x hx; omega, hn⟩]) ?_
 refine Ev.bind hE ?_
 rw [if_pos ⟨hpos, by omega, hF.len⟩]
 exact Ev.now _
theorem ref4_Words_l0 (a b : List Int) (ha : a.length ≤ 140737488355328) : ∀ (d i : Nat), i + d = a.length → i ≤ b.length → a.take i = b.take i → Ev (fun k => whorlref4_Words.l0 k a b (i : Int)) (cmpL a b) := by
 intro d
 induction d with
 | zero =>
   intro i hd hb h
   have e : cmpL a b = cmpL (a.drop i) (b.drop i) := by
    conv => lhs; rw [← List.take_append_drop i a, ← List.take_append_drop i b, h]
    rw [cmpL_append]
   refine Ev.step (fun k => by rw [whorlref4_Words.l0]) ?_
   simp only [if_neg (show ¬ (i : Int) < a.length by omega)]
   refine Ev.step (fun k => by rw [whorlref4_Words.j1]) ?_
   simp only [if_neg (show ¬ false = true by decide)]
   rw [e, List.drop_of_length_le (show a.length ≤ i by omega)]
   by_cases h1 : a.length < b.length
   ·simp only [if_pos (show (a.length : Int) < b.length by omega)]
    have : ltL [] (b.drop i) := ltL_nil.2 (fun e => by have := congrArg List.length e; rw [List.length_drop] at this; simp only [List.length_nil] at this; omega)
    rw [this]; exact Ev.now _
   ·simp only [if_neg (show ¬ (a.length : Int) < b.length by omega), if_neg (show ¬ (a.length : Int) > b.length by omega)]
    rw [List.drop_of_length_le (show b.length ≤ i by omega)]
    exact Ev.now _
 | succ d ih =>
   intro i hd hb h
   have hi : i < a.length := by omega
   have e : cmpL a b = cmpL (a.drop i) (b.drop i) := by
    conv => lhs; rw [← List.take_append_drop i a, ← List.take_append_drop i b, h]
    rw [cmpL_append]
   refine Ev.step (fun k => by rw [whorlref4_Words.l0]) ?_
   simp only [if_pos (show (i : Int) < a.length by omega)]
   refine Ev.step (fun k => by rw [whorlref4_Words.j1]) ?_
   by_cases hib : i < b.length
   ·simp only [show decide ((i : Int) < b.length) = true by simpa using hib, if_true, if_pos (show 0 ≤ (i : Int) by omega), if_pos (show (i : Int) < a.length by omega), if_pos (show (i : Int) < b.length by omega), rd_nat, wrap_nat hi ha]
    have e2 : cmpL (a.drop i) (b.drop i) = if a.getD i 0 < b.getD i 0 then -1 else if b.getD i 0 < a.getD i 0 then 1 else cmpL (a.drop (i + 1)) (b.drop (i + 1)) := by
     rw [drop_cons_get hi, drop_cons_get hib, cmpL]
    rw [e, e2]
    by_cases h1 : a.getD i 0 = b.getD i 0
    ·have e3 : cmpL (a.drop (i + 1)) (b.drop (i + 1)) = cmpL a b := by
      rw [e, e2, if_neg (by omega), if_neg (by omega)]
     simp only [if_pos h1]
     rw [if_neg (show ¬ a.getD i 0 < b.getD i 0 by omega), if_neg (show ¬ b.getD i 0 < a.getD i 0 by omega), e3]
     exact ih (i + 1) (by omega) (by omega) (by rw [take_next hi, take_next hib, h, h1])
    ·by_cases h2 : a.getD i 0 < b.getD i 0
     ·simp only [if_neg h1, if_pos h2]; exact Ev.now _
     ·simp only [if_neg h1, if_neg h2]
      rw [if_pos (show b.getD i 0 < a.getD i 0 by omega)]
      exact Ev.now _
   ·simp only [show decide ((i : Int) < b.length) = false by simpa using hib, if_neg (show ¬ false = true by decide), if_neg (show ¬ (a.length : Int) < b.length by omega), if_pos (show (a.length : Int) > b.length by omega)]
    rw [e, List.drop_of_length_le (show b.length ≤ i by omega), drop_cons_get hi]
    exact Ev.now _
theorem ref4_Words_ev (a b : List Int) (ha : a.length ≤ 140737488355328) : Ev (fun k => whorlref4_Words.f k a b) (cmpL a b) :=
 Ev.congr (fun k => rfl) (ref4_Words_l0 a b ha a.length 0 (by omega) (by omega) (by simp))
def endR (s : List Int) (i j : Int) : Int := if 0 ≤ i ∧ i ≤ s.length ∧ 0 ≤ j ∧ j ≤ s.length then cmpL (s.drop i.toNat) (s.drop j.toNat) else 0
theorem ref4_Endings_ev (s : List Int) (hn : s.length ≤ 140737488355328) (i j : Int) : Ev (fun k => whorlref4_Endings.f k s i j) (endR s i j) := by
 refine Ev.congr (fun k => by rw [whorlref4_Endings.f]) ?_
 unfold endR
 by_cases h1 : i < 0
 ·simp only [if_pos h1]; rw [if_neg (by omega)]; exact Ev.now _
 by_cases h2 : i > s.length
 ·simp only [if_neg h1, if_pos h2]; rw [if_neg (by omega)]; exact Ev.now _
 by_cases h3 : j < 0
 ·simp only [if_neg h1, if_neg h2, if_pos h3]; rw [if_neg (by omega)]; exact Ev.now _
 by_cases h4 : j > s.length
 ·simp only [if_neg h1, if_neg h2, if_neg h3, if_pos h4]; rw [if_neg (by omega)]; exact Ev.now _
 simp only [if_neg h1, if_neg h2, if_neg h3, if_neg h4, if_pos (show 0 ≤ i by omega), if_pos (show i ≤ s.length by omega), if_pos (show 0 ≤ j by omega), if_pos (show j ≤ s.length by omega)]
 rw [if_pos (by omega)]
 exact Ev.bind (ref4_Words_ev _ _ (by rw [List.length_drop]; omega)) (Ev.now _)
theorem ref7_Is_l0 (s : List Int) (hn : s.length ≤ 140737488355328) : ∀ (d i : Nat), s.length ≤ i + d → 0 < i → i ≤ s.length + 1 → (∀ j, 0 < j → j < i → j < s.length → ltL s (s.drop j)) → Ev (fun k => whorlref7_Is.l0 k s (i : Int)) (decide (isLyn s)) := by
 intro d
 induction d with
 | zero =>
   intro i hd h0 hi h
   refine Ev.step (fun k => by rw [whorlref7_Is.l0]) ?_
   simp only [if_neg (show ¬ (i : Int) < s.length by omega)]
   have e : decide ((s.length : Int) > 0) = decide (isLyn s) := by
    rw [decide_eq_decide]
    constructor
    ·intro hp
     exact ⟨by rintro rfl; simp at hp, fun j hj0 hj => h j hj0 (by omega) hj⟩
    ·intro hl
     have := List.length_pos_iff.2 hl.1
     omega
   rw [e]; exact Ev.now _
 | succ d ih =>
   intro i hd h0 hi h
   by_cases hlt : i < s.length
   ·refine Ev.step (fun k => by rw [whorlref7_Is.l0]) ?_
    simp only [if_pos (show (i : Int) < s.length by omega)]
    refine Ev.bind (ref4_Endings_ev s hn 0 i) ?_
    have e : endR s 0 i = cmpL s (s.drop i) := by
     unfold endR; rw [if_pos (by omega)]; simp
    rw [e]
    by_cases hc : ltL s (s.drop i)
    ·have hc' : cmpL s (s.drop i) = -1 := hc
     simp only [hc', if_neg (show ¬ (-1 : Int) ≥ 0 by decide), wrap_nat hlt hn]
     refine ih (i + 1) (by omega) (by omega) (by omega) (fun j hj0 hj hjl => ?_)
     by_cases e2 : j = i
     ·rw [e2]; exact hc
     ·exact h j hj0 (by omega) hjl
    ·have hc' : cmpL s (s.drop i) ≥ 0 := by
      unfold ltL at hc
      rcases cmpL_vals s (s.drop i) with k | k | k <;> omega
     simp only [if_pos hc']
     rw [decide_eq_false (fun hl => hc (hl.2 i h0 hlt))]
     exact Ev.now _
   ·refine Ev.step (fun k => by rw [whorlref7_Is.l0]) ?_
    simp only [if_neg (show ¬ (i : Int) < s.length by omega)]
    have e : decide ((s.length : Int) > 0) = decide (isLyn s) := by
     rw [decide_eq_decide]
     constructor
     ·intro hp
      exact ⟨by rintro rfl; simp at hp, fun j hj0 hj => h j hj0 (by omega) hj⟩
     ·intro hl
      have := List.length_pos_iff.2 hl.1
      omega
    rw [e]; exact Ev.now _
theorem ref7_Is_ev (s : List Int) (hn : s.length ≤ 140737488355328) : Ev (fun k => whorlref7_Is.f k s) (decide (isLyn s)) :=
 Ev.congr (fun k => rfl) (ref7_Is_l0 s hn s.length 1 (by omega) (by omega) (by omega) (fun j h0 h1 h2 => by omega))
theorem ref7_l1 (t : List Int) (ht : t.length ≤ 140737488355328) (L : List Int → List Int → Prop) (hL : ∀ m acc, 0 < m → m ≤ t.length → L (acc ++ [(m : Int)]) (t.drop m) → True) (B : Nat) (hB : B < 17592186044416)
  (IH : ∀ m, 0 < m → m ≤ t.length → ∃ l, Facts (t.drop m) l ∧ ∀ acc : List Int, acc.length ≤ B + 1 → Ev (fun k => whorlref7_Factors.l0 k (t.drop m) acc) (acc ++ l)) :
  ∀ (m : Nat), 0 < m → m ≤ t.length → (∀ m', m < m' → m' ≤ t.length → ¬ isLyn (t.take m')) → ∃ l, Facts t l ∧ ∀ acc : List Int, acc.length ≤ B → Ev (fun k => whorlref7_Factors.l1 k t acc (m : Int)) (acc ++ l) := by
 intro m
 induction m with
 | zero => intro h; omega
 | succ m ih =>
   intro h0 hm hmax
   by_cases hl : isLyn (t.take (m + 1))
   ·obtain ⟨l, hf, hev⟩ := IH (m + 1) (by omega) hm
    refine ⟨((m + 1 : Nat) : Int) :: l, .cons hm hl hmax hf, fun acc ha => ?_⟩
    refine Ev.step (fun k => by rw [whorlref7_Factors.l1]) ?_
    simp only [if_pos (show (0 : Int) ≤ ((m + 1 : Nat) : Int) by omega), if_pos (show ((m + 1 : Nat) : Int) ≤ t.length by omega), Int.toNat_natCast]
    refine Ev.bind (ref7_Is_ev _ (by rw [List.length_take]; omega)) ?_
    simp only [decide_eq_true hl, if_true, if_pos (show acc.length < 17592186044416 by omega)]
    have := hev (acc ++ [((m + 1 : Nat) : Int)]) (by rw [List.length_append]; simp; omega)
    rw [List.append_assoc] at this
    exact this
   ·have hm0 : 0 < m := by
     rcases Nat.eq_zero_or_pos m with e | e
     ·exfalso
      subst e
      apply hl
      cases t with
      | nil => simp at hm
      | cons c t => exact lyn_one c
     ·exact e
    obtain ⟨l, hf, hev⟩ := ih hm0 (by omega) (fun m' h1 h2 => by
     by_cases e : m' = m + 1
     ·rw [e]; exact hl
     ·exact hmax m' (by omega) h2)
    refine ⟨l, hf, fun acc ha => ?_⟩
    refine Ev.step (fun k => by rw [whorlref7_Factors.l1]) ?_
    have w : wrap64 (((m + 1 : Nat) : Int) - 1) = (m : Int) := by rw [wrap64_id (by omega) (by omega)]; omega
    simp only [if_pos (show (0 : Int) ≤ ((m + 1 : Nat) : Int) by omega), if_pos (show ((m + 1 : Nat) : Int) ≤ t.length by omega), Int.toNat_natCast, w]
    refine Ev.bind (ref7_Is_ev _ (by rw [List.length_take]; omega)) ?_
    simp only [decide_eq_false hl, if_neg (show ¬ false = true by decide)]
    exact hev acc ha
theorem ref7_l0 (B : Nat) : ∀ (d : Nat) (t : List Int), t.length ≤ d → t.length ≤ 140737488355328 → ∀ B, B + t.length < 17592186044416 → ∃ l, Facts t l ∧ ∀ acc : List Int, acc.length ≤ B → Ev (fun k => whorlref7_Factors.l0 k t acc) (acc ++ l) := by
 intro d
 induction d with
 | zero =>
   intro t hd ht B hB
   have : t = [] := List.eq_nil_of_length_eq_zero (by omega)
   subst this
   refine ⟨[], .nil, fun acc ha => ?_⟩
   refine Ev.step (fun k => by rw [whorlref7_Factors.l0]) ?_
   simp only [List.append_nil]
   exact Ev.now _
 | succ d ih =>
   intro t hd ht B hB
   by_cases h0 : t.length = 0
   ·exact ih t (by omega) ht B hB
   ·obtain ⟨l, hf, hev⟩ := ref7_l1 t ht (fun _ _ => True) (fun _ _ _ _ _ => trivial) B (by omega) (fun m hm0 hm => ih (t.drop m) (by rw [List.length_drop]; omega) (by rw [List.length_drop]; omega) (B + 1) (by rw [List.length_drop]; omega)) t.length (by omega) (Nat.le_refl _) (fun m' h1 h2 => by omega)
    refine ⟨l, hf, fun acc ha => ?_⟩
    refine Ev.step (fun k => by rw [whorlref7_Factors.l0]) ?_
    simp only [if_pos (show (t.length : Int) > 0 by omega)]
    exact hev acc ha
theorem ref7_Factors_ev (s : List Int) (hn : s.length < 17592186044416) : ∃ l, Facts s l ∧ Ev (fun k => whorlref7_Factors.f k s) l := by
 obtain ⟨l, hf, hev⟩ := ref7_l0 0 s.length s (Nat.le_refl _) (by omega) 0 (by omega)
 refine ⟨l, hf, ?_⟩
 have := hev [] (by simp)
 rw [List.nil_append] at this
 exact Ev.congr (fun k => rfl) this
theorem ref4_Turn_eq (s : List Int) (hn : s.length ≤ 1000) (i : Nat) (hi : i ≤ s.length) : whorlref4_Turn.f s (i : Int) = some (rot s i) := by
 unfold whorlref4_Turn.f rot
 have h1 : (s.drop i).length = s.length - i := List.length_drop
 have h2 : (s.take i).length = min i s.length := List.length_take
 simp only [Option.bind_some, Int.toNat_natCast, if_pos (show 0 ≤ (i : Int) by omega), if_pos (show (i : Int) ≤ s.length by omega), List.nil_append, List.length_nil, Nat.zero_add]
 rw [if_pos (by omega), if_pos (by omega)]
open Go.Proofs.YtbbpplnnegdenaaGreat.Oy (cmpB)
theorem ref8_l0 {u v : List Int} (hu : 0 < u.length) (hv : 0 < v.length) (hn : u.length ≤ 1000 ∧ v.length ≤ 1000) : ∀ (d i : Nat), i + d = u.length + v.length →
  Ev (fun k => whorlref8_Compare.l0 k u v (i : Int)) (cmpB (fun j => u.getD (j % u.length) 0) (fun j => v.getD (j % v.length) 0) i d) := by
 intro d
 induction d with
 | zero =>
   intro i hi
   refine Ev.step (fun k => by rw [whorlref8_Compare.l0]) ?_
   have e1 : wrap64 ((u.length : Int) + (v.length : Int)) = (u.length : Int) + v.length := wrap64_id (by omega) (by omega)
   simp only [e1, if_neg (show ¬ (i : Int) < (u.length : Int) + v.length by omega)]
   exact Ev.now _
 | succ d ih =>
   intro i hi
   refine Ev.step (fun k => by rw [whorlref8_Compare.l0]) ?_
   have e1 : wrap64 ((u.length : Int) + (v.length : Int)) = (u.length : Int) + v.length := wrap64_id (by omega) (by omega)
   have e2 : Int.tmod (i : Int) (u.length : Int) = ((i % u.length : Nat) : Int) := by rw [Int.tmod_eq_emod_of_nonneg (by omega)]; rfl
   have e3 : Int.tmod (i : Int) (v.length : Int) = ((i % v.length : Nat) : Int) := by rw [Int.tmod_eq_emod_of_nonneg (by omega)]; rfl
   have e4 : wrap64 ((i : Int) + 1) = ((i + 1 : Nat) : Int) := wrap_nat (n := 2001) (by omega) (by omega)
   have m1 := Nat.mod_lt i hu
   have m2 := Nat.mod_lt i hv
   simp only [e1, e2, e3, e4, if_pos (show (i : Int) < (u.length : Int) + v.length by omega), if_neg (show ¬ (u.length : Int) = 0 by omega), if_neg (show ¬ (v.length : Int) = 0 by omega),
    if_pos (show (0 : Int) ≤ ((i % u.length : Nat) : Int) by omega), if_pos (show (0 : Int) ≤ ((i % v.length : Nat) : Int) by omega), if_pos (show ((i % u.length : Nat) : Int) < (u.length : Int) by omega), if_pos (show ((i % v.length : Nat) : Int) < (v.length : Int) by omega), rd_nat]
   clear e1 e2 e3 e4
   rw [cmpB]
   by_cases c1 : u.getD (i % u.length) 0 < v.getD (i % v.length) 0
   ·simp only [if_pos c1]; exact Ev.now _
   ·simp only [if_neg c1]
    by_cases c2 : u.getD (i % u.length) 0 > v.getD (i % v.length) 0
    ·simp only [if_pos c2]; exact Ev.now _
    ·simp only [if_neg c2]
     exact ih (i + 1) (by omega)
theorem ref8_Compare_ev {u v : List Int} (hu : 0 < u.length) (hv : 0 < v.length) (hn : u.length ≤ 1000 ∧ v.length ≤ 1000) :
  Ev (fun k => whorlref8_Compare.f k u v) (cmpB (fun j => u.getD (j % u.length) 0) (fun j => v.getD (j % v.length) 0) 0 (u.length + v.length)) := by
 refine Ev.congr (fun k => by rw [whorlref8_Compare.f, if_neg (show ¬ (u.length : Int) = 0 by omega)]) ?_
 refine Ev.step (fun k => by rw [whorlref8_Compare.j0]) ?_
 have e0 : ((v.length : Int) == 0) = false := by rw [beq_eq_false_iff_ne]; omega
 simp only [e0, if_neg (show ¬ false = true by decide)]
 exact ref8_l0 hu hv hn (u.length + v.length) 0 (by omega)
open Go.Proofs.YtbbpplnnegdenaaGreat.Oy (cmpB cmpB_spec)
open Go.Proofs.YtbbpplnnegdenaaGreat.Om (fine_wilf ltN)
open Go.Proofs.YtbbpplnnegdenaaGreat.R8 (rotW rotW_length)
theorem rotW_chr {ws : List (List Int)} {t : Nat × Nat} (h : isT ws t) : (fun j => (rotW ws t).getD (j % (rotW ws t).length) 0) = chr ws t := by
 funext j
 have h0 : 0 < (wd ws t.1).length := by have := h.2; omega
 rw [rotW_length h]
 have := rot_get (s := wd ws t.1) (i := t.2) (y := j % (wd ws t.1).length) h.2 (Nat.mod_lt _ h0)
 unfold rot at this
 unfold rotW chr
 rw [this, Nat.add_mod, Nat.mod_mod, ← Nat.add_mod]
def cvT (ws : List (List Int)) (t t' : Nat × Nat) : Int := cmpB (chr ws t) (chr ws t') 0 ((wd ws t.1).length + (wd ws t'.1).length)
theorem cvT_iff {ws : List (List Int)} {t t' : Nat × Nat} (h : isT ws t) (h' : isT ws t') : cvT ws t t' < 0 ↔ ltS (chr ws t) (chr ws t') := by
 have hs := cmpB_spec (chr ws t) (chr ws t') ((wd ws t.1).length + (wd ws t'.1).length) 0 (fun j hj => by omega)
 rw [Nat.zero_add] at hs
 unfold cvT
 rcases hs with ⟨e, k⟩ | ⟨e, k⟩ | ⟨e, k⟩
 ·rw [e]
  have h1 := h.2
  have h2 := h'.2
  have hall := fine_wilf (by omega) (by omega) (chr_per ws t) (chr_per ws t') k
  exact ⟨fun h => by omega, fun h => absurd (ltS_congr h (fun j => (hall j).symm)) (ltS_irrefl _)⟩
 ·rw [e]; exact ⟨fun _ => k.ltS, fun _ => by decide⟩
 ·rw [e]; exact ⟨fun h => by omega, fun h => absurd h (ltS_asymm k.ltS)⟩
theorem TopBij : whorltop_TopBij.Pure := by
 intro s hn h3
 have hb : ∀ x ∈ s, 0 ≤ x ∧ x ≤ 255 := fun x hx => wf_u8 (h3 x hx)
 obtain ⟨l, hF, hE⟩ := ref7_Factors_ev s (by omega)
 obtain ⟨y, ⟨l', hF', hy⟩, hyE⟩ := bij_Turn_ev s hb (by omega)
 obtain rfl := hF'.det hF
 subst hy
 have hpos := hF.pos
 have hsm : ∀ l : List Int, (∀ x ∈ l, 0 < x) → ((smN l l.length : Nat) : Int) = l.sum := by
  intro l hl
  unfold smN
  rw [List.take_length]
  induction l with
  | nil => rfl
  | cons x l ih =>
    rw [List.map_cons, List.sum_cons, List.sum_cons, ← ih (fun y hy => hl y (by simp [hy]))]
    have := hl x (by simp)
    omega
 have h1 := hsm l' hpos
 rw [hF.sum] at h1
 have hle : ∀ i, i < (cutW s l').length → (wd (cutW s l') i).length ≤ 1000 := fun i hi => by
  rw [cutW_length] at hi
  rw [Go.Proofs.YtbbpplnnegdenaaGreat.Bt.cutW_get _ _ _ hi, List.length_take, List.length_drop]; omega
 obtain ⟨kF, hkF⟩ := hE
 obtain ⟨kB, hkB⟩ := hyE
 refine ⟨l', cvT (cutW s l'), ⟨kF, hkF kF (Nat.le_refl _)⟩, ⟨hpos, by omega, hF.len⟩, fun t t' ht ht' => ⟨cvT_iff ht ht', ?_⟩, fun t ht => ?_, ⟨kB, hkB kB (Nat.le_refl _)⟩⟩
 ·have e1 := rotW_length ht
  have e2 := rotW_length ht'
  have l1 := hle _ ht.1
  have l2 := hle _ ht'.1
  have z1 := ht.2
  have z2 := ht'.2
  obtain ⟨k, hk⟩ := ref8_Compare_ev (u := rotW (cutW s l') t) (v := rotW (cutW s l') t') (by omega) (by omega) ⟨by omega, by omega⟩
  rw [rotW_chr ht, rotW_chr ht', e1, e2] at hk
  exact ⟨k, hk k (Nat.le_refl _)⟩
 ·exact ref4_Turn_eq _ (hle _ ht.1) t.2 (Nat.le_of_lt ht.2)
end Go.Proofs.YtbbpplnnegdenaaGreat.Pure
end
