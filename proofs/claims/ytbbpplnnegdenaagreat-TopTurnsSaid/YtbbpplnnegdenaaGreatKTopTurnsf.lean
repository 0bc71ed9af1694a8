/- Words, functions, walks and plain mathematics for TopTurns, part 6: laid together by a program of this session (pack.py). -/
import Derived.Test.YtbbpplnnegdenaaGreatKTopTurnse
set_option linter.unusedVariables false
set_option linter.unusedSimpArgs false
set_option maxHeartbeats 8000000
set_option maxRecDepth 100000
section
namespace Go.Proofs.YtbbpplnnegdenaaGreat.PTopTurns
open Go.RowKit Go.Proofs.YtbbpplnnegdenaaGreatW.PrintWords Go.Proofs.YtbbpplnnegdenaaGreatW.PrintLast Go.Proofs.YtbbpplnnegdenaaGreatW.PrintMore
attribute [local go_sem] max2_int min2_int max_two min_two max_three min_three max_four min_four
mutual
def check_SA.j0 : Nat → List Int → List Int → List Int → Bool → Option (Bool)
  | 0, _, _, _, _ => none
  | k + 1, x0, x1, x5, x23 => if x23 = true then (some false) else (if x5.length < 17592186044416 then (check_SA.l0 k x0 x1 (x5 ++ [(-1)]) 1) else (none))
def check_SA.l0 : Nat → List Int → List Int → List Int → Int → Option (Bool)
  | 0, _, _, _, _ => none
  | k + 1, x0, x1, x5, x7 => if x7 < (x1.length : Int) then (if 0 ≤ (wrap64 (x7 - 1)) then (if (wrap64 (x7 - 1)) < (x1.length : Int) then (if 0 ≤ x7 then (if 0 ≤ (rd x1 (wrap64 (x7 - 1))) then (if (rd x1 (wrap64 (x7 - 1))) < (x0.length : Int) then (if 0 ≤ (rd x1 x7) then (if (rd x1 x7) < (x0.length : Int) then (if (rd x0 (rd x1 (wrap64 (x7 - 1)))) > (rd x0 (rd x1 x7)) then (some false) else (if (rd x0 (rd x1 (wrap64 (x7 - 1)))) = (rd x0 (rd x1 x7)) then (if 0 ≤ (wrap64 ((rd x1 (wrap64 (x7 - 1))) + 1)) then (if (wrap64 ((rd x1 (wrap64 (x7 - 1))) + 1)) < (x5.length : Int) then (if 0 ≤ (wrap64 ((rd x1 x7) + 1)) then (if (wrap64 ((rd x1 x7) + 1)) < (x5.length : Int) then (if (rd x5 (wrap64 ((rd x1 (wrap64 (x7 - 1))) + 1))) > (rd x5 (wrap64 ((rd x1 x7) + 1))) then (some false) else (check_SA.l0 k x0 x1 x5 (wrap64 (x7 + 1)))) else (none)) else (none)) else (none)) else (none)) else (check_SA.l0 k x0 x1 x5 (wrap64 (x7 + 1))))) else (none)) else (none)) else (none)) else (none)) else (none)) else (none)) else (none)) else (some true)
end
def check_SA.f (k : Nat) (l0 : List Int) (l1 : List Int) : Option (Bool) := (rank_Inverse.f k l1).bind fun bt547 => (if bt547.2 = true then (check_SA.j0 k l0 l1 bt547.1 ((l1.length : Int) != (l0.length : Int))) else (check_SA.j0 k l0 l1 bt547.1 true))
theorem check_SA.calls (k : Nat) (A0 : Option Addr) (c0 : Nat) (l0 : List Int) (A1 : Option Addr) (c1 : Nat) (l1 : List Int) (r : Bool) (w : World) (hr0 : Kd.C (Kd.int .u8) w A0 l0.length l0) (hc0 : l0.length ≤ c0) (hr1 : Kd.C (Kd.int .i64) w A1 l1.length l1) (hc1 : l1.length ≤ c1) (h : check_SA.f k l0 l1 = some r) :
    Calls Tryz.prog 84 #[.slice A0 l0.length c0, .slice A1 l1.length c1] w fun e w' => e = .returned (.bool r) ∧ Below w.heap.size w w' := by
 have HR0 := Aside0.mk hr0
 have HC0 := Aside0.mk hc0
 clear hr0 hc0
 have HR1 := Aside0.mk hr1
 have HC1 := Aside0.mk hc1
 clear hr1 hc1
 have HB := Aside0.mk (Below.refl w.heap.size w)
 have H := h
 clear h
 unfold check_SA.f at H
 obtain ⟨⟨t547, t548⟩, A3, H⟩ := bdS H
 try dsimp only at H
 have HC4 := Aside0.mk H
 clear H
 go_enter Tryz.func84, Tryz.ntmps84
 go_upto_region 2 with (first | (go_at_call 72; (with_reducible refine (rank_Inverse.calls k _ _ l1 t547 t548 _ ?side1 ?side2 A3.out).mono ?_); (case side1 => exact uC HR1.out); (case side2 => exact HC1.out); rintro e w5 ⟨v549, rfl, ho0, hb⟩; have n0_ := Aside0.mk (Kd.R_lower ho0 (below_size uB)); have n1_ := Aside0.mk (below_step uB hb); clear HB; have HO550 := n0_; have HB := n1_; clear n0_ n1_))
 repeat (go_quiet (first | fail); go_upto_region 2 with (first | (go_at_call 72; (with_reducible refine (rank_Inverse.calls k _ _ l1 t547 t548 _ ?side1 ?side2 A3.out).mono ?_); (case side1 => exact uC HR1.out); (case side2 => exact HC1.out); rintro e w5 ⟨v549, rfl, ho0, hb⟩; have n0_ := Aside0.mk (Kd.R_lower ho0 (below_size uB)); have n1_ := Aside0.mk (below_step uB hb); clear HB; have HO550 := n0_; have HB := n1_; clear n0_ n1_)))
 (try simp only [Act.put, List.setIfInBounds_toArray, List.set_cons_zero, List.set_cons_succ])
 go_cut [23] (fun v23 wc => ∃ (kq : Nat) (x23_3 : Bool), v23 = .bool x23_3 ∧ Aside0 (check_SA.j0 kq l0 l1 t547 x23_3 = some r) ∧ Aside0 (kq ≤ k) ∧ Aside0 (Kd.R (Kd.int .i64) 3 wc w.heap.size (fun _ => True) v549 t547) ∧ Aside0 (Below w.heap.size w wc))
 case first =>
  have H := HC4.out
  clear HC4
  by_cases c6 : t548 = true
  ·subst c6
   rw [if_pos rfl] at H
   have H' := Aside0.mk H
   clear H
   go_wp2
   repeat (go_quiet (fail); try go_wp2)
   go_meet
   case rel => exact ⟨_, (((l1.length : Int) != (l0.length : Int))), sD, H', ⟨by first | omega | exact Nat.le_refl _⟩, ⟨uR HO550.out⟩, ⟨uB⟩⟩
  ·replace c6 := Bool.eq_false_iff.mpr c6
   subst c6
   rw [if_neg (by decide)] at H
   have H' := Aside0.mk H
   clear H
   go_wp2
   repeat (go_quiet (fail); try go_wp2)
   go_meet
   case rel => exact ⟨_, (true), sD, H', ⟨by first | omega | exact Nat.le_refl _⟩, ⟨uR HO550.out⟩, ⟨uB⟩⟩
 case rest =>
  clear HC4
  obtain ⟨kq, x23_3, rfl, HA, HJ3, HO_5, HB⟩ := hcut
  cases kq with
  | zero => exact absurd HA.out (by simp [check_SA.j0])
  | succ kj3 =>
   have H := HA.out
   clear HA
   simp only [check_SA.j0] at H
   by_cases c7 : x23_3 = true
   ·subst c7
    rw [if_pos rfl] at H
    obtain rfl := Option.some.inj H
    go_wp2
    repeat (go_quiet (fail); try go_wp2)
    go_ret
    exact ⟨eR, uB⟩
   ·replace c7 := Bool.eq_false_iff.mpr c7
    subst c7
    rw [if_neg (by decide)] at H
    obtain ⟨c8, H⟩ := ifP H
    have LMc8 := Aside0.mk c8
    clear c8
    generalize hy551 : (t547 ++ [(-1)] : List Int) = y551 at H
    try simp only [Option.bind_some] at H
    have Ny551 := Aside0.mk hy551.symm
    clear hy551
    have H' := Aside0.mk H
    clear H
    go_wp2_with (first | ((with_reducible refine gate_builtin (b := .append) (xs := #[.tmp 24, .tmp 25]) rfl ?_); (try (refine gate_guard (by rfl) ?_; dsimp only)); at_builtin; refine Kd.R_append (Kd.int .i64) (w0 := w) w.heap.size rfl (.tmp 24) (.tmp 25) 29 3 (.int .i64 0) 8 rfl Tryz.underlying29 info3 rfl (by decide) (by omega) v549 t547 (-1) [.int .i64 (-1)] (fun _ => True) (fun _ => False) rfl rfl ?aP (fun _ hk => hk.elim) ?aF ?aO ?aB ?aS ?aL ?_; (case aP => exact rfl); (case aB => exact uB); (case aF => exact (fun _ _ => trivial)); (case aO => exact (uR HO_5.out)); (case aS => exact (below_size uB)); (case aL => have := LMc8.out; omega); intro v552 w9 ho hb hg hat; rw [← Ny551.out] at ho; have n0_ := Aside0.mk (hb); have n1_ := Aside0.mk (ho); clear HB HO_5; have HB := n0_; have HO553 := n1_; clear n0_ n1_; clear ho hb hg hat))
    repeat (go_quiet (first | fail); try go_wp2_with (first | fail))
    go_loopg [7] kj3 (fun kq v7 w' => ∃ (x7_2 : Int), v7 = .int .i64 x7_2 ∧ Aside0 (check_SA.l0 kq l0 l1 y551 x7_2 = some r) ∧ Aside0 (kq ≤ kj3) ∧ Aside0 (Kd.R (Kd.int .i64) 3 w' w.heap.size (fun _ => True) v552 y551) ∧ Aside0 (Below w.heap.size w w'))
    case atStart => exact ⟨(1), sD, H', ⟨Nat.le_refl _⟩, ⟨uR HO553.out⟩, ⟨uB⟩⟩
    case round =>
     clear H'
     obtain ⟨x7_2, rfl, HA, HK2, HO_5, HB⟩ := hrel
     cases gk with
     | zero => exact absurd HA.out (by simp [check_SA.l0])
     | succ k2 =>
      have H := HA.out
      clear HA
      simp only [check_SA.l0] at H
      rcases ifC H with ⟨c10b0, H⟩ | ⟨c10b0, H⟩
      ·obtain ⟨ji11, hji11⟩ : ∃ j_ : Int, (wrap64 (x7_2 - 1)) = j_ := ⟨_, rfl⟩
       first | rw [hji11] at H | simp only [hji11] at H
       have hji11w : (IntKind.i64.wrap (x7_2 - 1)) = ji11 := (i64_w _).trans hji11
       obtain ⟨c12b0, H⟩ := ifD H
       obtain ⟨c13b0, c14b0, H⟩ := ifD2 H
       obtain ⟨c15b0, c16b0, H⟩ := ifD2 H
       obtain ⟨c17b0, c18b0, H⟩ := ifD2 H
       rcases ifK H with ⟨c19b0, H⟩ | ⟨c19b0, H⟩
       ·obtain rfl := Option.some.inj H
        obtain ⟨ad554, e554, hx554_0, p554, q554⟩ := rIO HB.out HR1.out (ji11)
        cases e554
        obtain ⟨ad555, e555, hx555_0, p555, q555⟩ := rIO HB.out HR1.out x7_2
        obtain rfl : ad554 = ad555 := (by injection e555)
        obtain ⟨ad556, e556, hx556_0, p556, q556⟩ := rIO HB.out HR0.out (rd l1 (ji11))
        cases e556
        obtain ⟨ad557, e557, hx557_0, p557, q557⟩ := rIO HB.out HR0.out (rd l1 x7_2)
        obtain rfl : ad556 = ad557 := (by injection e557)
        go_wp2
        repeat (go_quiet (fail); try go_wp2)
        go_ret
        exact ⟨by first | rfl | (simp [errW_none, errW_some] <;> rfl) | (simp only [← hji11]; first | rfl | (simp [errW_none, errW_some] <;> rfl)) | (simp [*, errW_none, errW_some] <;> rfl), uB⟩
       ·by_cases c20 : (rd l0 (rd l1 (ji11))) = (rd l0 (rd l1 x7_2))
        ·rw [if_pos c20] at H
         have c20b0 : ((rd l0 (rd l1 (ji11))) == (rd l0 (rd l1 x7_2))) = true := beq_iff_eq.mpr c20
         have c20b1 : ((rd l0 (rd l1 (ji11))) != (rd l0 (rd l1 x7_2))) = false := bne_eq_false_iff_eq.mpr c20
         clear c20
         obtain ⟨ji21, hji21⟩ : ∃ j_ : Int, (wrap64 ((rd l1 (ji11)) + 1)) = j_ := ⟨_, rfl⟩
         first | rw [hji21] at H | simp only [hji21] at H
         have hji21w : (IntKind.i64.wrap ((rd l1 (ji11)) + 1)) = ji21 := (i64_w _).trans hji21
         obtain ⟨c22b0, c23b0, H⟩ := ifD2 H
         obtain ⟨ji24, hji24⟩ : ∃ j_ : Int, (wrap64 ((rd l1 x7_2) + 1)) = j_ := ⟨_, rfl⟩
         first | rw [hji24] at H | simp only [hji24] at H
         have hji24w : (IntKind.i64.wrap ((rd l1 x7_2) + 1)) = ji24 := (i64_w _).trans hji24
         obtain ⟨c25b0, c26b0, H⟩ := ifD2 H
         rcases ifK H with ⟨c27b0, H⟩ | ⟨c27b0, H⟩
         ·obtain rfl := Option.some.inj H
          obtain ⟨ad554, e554, hx554_0, p554, q554⟩ := rIO HB.out HR1.out (ji11)
          cases e554
          obtain ⟨ad555, e555, hx555_0, p555, q555⟩ := rIO HB.out HR1.out x7_2
          obtain rfl : ad554 = ad555 := (by injection e555)
          obtain ⟨ad556, e556, hx556_0, p556, q556⟩ := rIO HB.out HR0.out (rd l1 (ji11))
          cases e556
          obtain ⟨ad557, e557, hx557_0, p557, q557⟩ := rIO HB.out HR0.out (rd l1 x7_2)
          obtain rfl : ad556 = ad557 := (by injection e557)
          obtain ⟨ad558, e558, hx558_0, p558, q558⟩ := rIO HB.out HR0.out (rd l1 (ji11))
          obtain rfl : ad556 = ad558 := (by injection e558)
          obtain ⟨ad559, e559, hx559_0, p559, q559⟩ := rIO HB.out HR0.out (rd l1 x7_2)
          obtain rfl : ad556 = ad559 := (by injection e559)
          obtain ⟨Ao28, co28, eo28⟩ := Kd.R_slice HO_5.out
          subst eo28
          obtain ⟨ad560, e560, hx560_0, p560, q560⟩ := rI (Kd.R_reads' HO_5.out).2.2 (ji21)
          cases e560
          obtain ⟨ad561, e561, hx561_0, p561, q561⟩ := rI (Kd.R_reads' HO_5.out).2.2 (ji24)
          obtain rfl : ad560 = ad561 := (by injection e561)
          go_wp2
          repeat (go_quiet (fail); try go_wp2)
          go_ret
          exact ⟨by first | rfl | (simp [errW_none, errW_some] <;> rfl) | (simp only [← hji11, ← hji21, ← hji24]; first | rfl | (simp [errW_none, errW_some] <;> rfl)) | (simp [*, errW_none, errW_some] <;> rfl), uB⟩
         ·have H' := Aside0.mk H
          clear H
          obtain ⟨ad554, e554, hx554_0, p554, q554⟩ := rIO HB.out HR1.out (ji11)
          cases e554
          obtain ⟨ad555, e555, hx555_0, p555, q555⟩ := rIO HB.out HR1.out x7_2
          obtain rfl : ad554 = ad555 := (by injection e555)
          obtain ⟨ad556, e556, hx556_0, p556, q556⟩ := rIO HB.out HR0.out (rd l1 (ji11))
          cases e556
          obtain ⟨ad557, e557, hx557_0, p557, q557⟩ := rIO HB.out HR0.out (rd l1 x7_2)
          obtain rfl : ad556 = ad557 := (by injection e557)
          obtain ⟨ad558, e558, hx558_0, p558, q558⟩ := rIO HB.out HR0.out (rd l1 (ji11))
          obtain rfl : ad556 = ad558 := (by injection e558)
          obtain ⟨ad559, e559, hx559_0, p559, q559⟩ := rIO HB.out HR0.out (rd l1 x7_2)
          obtain rfl : ad556 = ad559 := (by injection e559)
          obtain ⟨Ao29, co29, eo29⟩ := Kd.R_slice HO_5.out
          subst eo29
          obtain ⟨ad560, e560, hx560_0, p560, q560⟩ := rI (Kd.R_reads' HO_5.out).2.2 (ji21)
          cases e560
          obtain ⟨ad561, e561, hx561_0, p561, q561⟩ := rI (Kd.R_reads' HO_5.out).2.2 (ji24)
          obtain rfl : ad560 = ad561 := (by injection e561)
          go_wp2
          repeat (go_quiet (fail); try go_wp2)
          go_roundg k2
          case measure => have := HJ3.out; have := HK2.out; omega
          case rel => exact ⟨(wrap64 (x7_2 + 1)), sD, H', ⟨by have := HJ3.out; have := HK2.out; omega⟩, ⟨uR HO_5.out⟩, ⟨uB⟩⟩
        ·rw [if_neg c20] at H
         have c20b0 : ((rd l0 (rd l1 (ji11))) == (rd l0 (rd l1 x7_2))) = false := beq_eq_false_iff_ne.mpr c20
         have c20b1 : ((rd l0 (rd l1 (ji11))) != (rd l0 (rd l1 x7_2))) = true := bne_iff_ne.mpr c20
         have H' := Aside0.mk H
         clear H
         obtain ⟨ad554, e554, hx554_0, p554, q554⟩ := rIO HB.out HR1.out (ji11)
         cases e554
         obtain ⟨ad555, e555, hx555_0, p555, q555⟩ := rIO HB.out HR1.out x7_2
         obtain rfl : ad554 = ad555 := (by injection e555)
         obtain ⟨ad556, e556, hx556_0, p556, q556⟩ := rIO HB.out HR0.out (rd l1 (ji11))
         cases e556
         obtain ⟨ad557, e557, hx557_0, p557, q557⟩ := rIO HB.out HR0.out (rd l1 x7_2)
         obtain rfl : ad556 = ad557 := (by injection e557)
         obtain ⟨ad558, e558, hx558_0, p558, q558⟩ := rIO HB.out HR0.out (rd l1 (ji11))
         obtain rfl : ad556 = ad558 := (by injection e558)
         obtain ⟨ad559, e559, hx559_0, p559, q559⟩ := rIO HB.out HR0.out (rd l1 x7_2)
         obtain rfl : ad556 = ad559 := (by injection e559)
         go_wp2
         repeat (go_quiet (fail); try go_wp2)
         go_roundg k2
         case measure => have := HJ3.out; have := HK2.out; omega
         case rel => exact ⟨(wrap64 (x7_2 + 1)), sD, H', ⟨by have := HJ3.out; have := HK2.out; omega⟩, ⟨uR HO_5.out⟩, ⟨uB⟩⟩
      ·obtain rfl := Option.some.inj H
       go_wp2
       repeat (go_quiet (fail); try go_wp2)
       go_ret
       exact ⟨eR, uB⟩
def check_LCP.f (k : Nat) (l0 : List Int) (l1 : List Int) (l2 : List Int) : Option (Bool) := (kasai_LCP.f k l0 l1).bind fun bt562 => ((check_SA.f k l0 l1).bind fun t566 => (if t566 = true then ((slices_Equal_int_int.f k bt562.1 l2).bind fun t567 => (some t567)) else (some false)))
theorem check_LCP.calls (k : Nat) (A0 : Option Addr) (c0 : Nat) (l0 : List Int) (A1 : Option Addr) (c1 : Nat) (l1 : List Int) (A2 : Option Addr) (c2 : Nat) (l2 : List Int) (r : Bool) (w : World) (hr0 : Kd.C (Kd.int .u8) w A0 l0.length l0) (hc0 : l0.length ≤ c0) (hr1 : Kd.C (Kd.int .i64) w A1 l1.length l1) (hc1 : l1.length ≤ c1) (hr2 : Kd.C (Kd.int .i64) w A2 l2.length l2) (hc2 : l2.length ≤ c2) (h : check_LCP.f k l0 l1 l2 = some r) :
    Calls Tryz.prog 64 #[.slice A0 l0.length c0, .slice A1 l1.length c1, .slice A2 l2.length c2] w fun e w' => e = .returned (.bool r) ∧ Below w.heap.size w w' := by
 have HR0 := Aside0.mk hr0
 have HC0 := Aside0.mk hc0
 clear hr0 hc0
 have HR1 := Aside0.mk hr1
 have HC1 := Aside0.mk hc1
 clear hr1 hc1
 have HR2 := Aside0.mk hr2
 have HC2 := Aside0.mk hc2
 clear hr2 hc2
 have HB := Aside0.mk (Below.refl w.heap.size w)
 have H := h
 clear h
 unfold check_LCP.f at H
 obtain ⟨⟨t562, t563⟩, A4, H⟩ := bdS H
 try dsimp only at H
 obtain ⟨t566, A5, H⟩ := bdS H
 try dsimp only at H
 by_cases c6 : t566 = true
 ·subst c6
  rw [if_pos rfl] at H
  obtain ⟨t567, A7, H⟩ := bdS H
  try dsimp only at H
  obtain rfl := Option.some.inj H
  go_enter Tryz.func64, Tryz.ntmps64
  go_wp2_with (first | ((with_reducible refine gate_callee (f := 61) rfl ?_); refine goesL_ (some 12) rfl rfl Tryz.func61 (by kernel_rfl) rfl #[.slice A0 l0.length c0, .slice A1 l1.length c1] rfl aE ?_; (with_reducible refine (kasai_LCP.calls k _ _ l0 _ _ l1 t562 t563 _ ?side1 ?side2 ?side3 ?side4 A4.out).mono ?_); (case side1 => exact uC HR0.out); (case side2 => exact HC0.out); (case side3 => exact uC HR1.out); (case side4 => exact HC1.out); rintro e w8 ⟨v564, rfl, ho0, hb⟩; refine ⟨_, rfl, ?_⟩; have n0_ := Aside0.mk (Kd.R_lower ho0 (below_size uB)); have n1_ := Aside0.mk (below_step uB hb); clear HB; have HO565 := n0_; have HB := n1_; clear n0_ n1_) | ((with_reducible refine gate_callee (f := 84) rfl ?_); refine goesL_ (some 17) rfl rfl Tryz.func84 (by kernel_rfl) rfl #[.slice A0 l0.length c0, .slice A1 l1.length c1] rfl aE ?_; (with_reducible refine (check_SA.calls k _ _ l0 _ _ l1 true _ ?side1 ?side2 ?side3 ?side4 A5.out).mono ?_); (case side1 => exact uC (Kd.C_below HR0.out HB.out)); (case side2 => exact HC0.out); (case side3 => exact uC (Kd.C_below HR1.out HB.out)); (case side4 => exact HC1.out); rintro e w9 ⟨rfl, hb⟩; refine ⟨_, rfl, ?_⟩; have n0_ := Aside0.mk (Kd.R_below (uR HO565.out) hb); have n1_ := Aside0.mk (below_step uB hb); clear HO565 HB; have HO565 := n0_; have HB := n1_; clear n0_ n1_; obtain ⟨Ao10, co10, eo10⟩ := Kd.R_slice HO565.out; subst eo10) | (go_at_call 63; (with_reducible refine (slices_Equal_int_int.calls k _ _ t562 _ _ l2 t567 _ ?side1 ?side2 ?side3 ?side4 A7.out).mono ?_); (case side1 => exact uC (Kd.R_reads' HO565.out).2.2); (case side2 => exact (Kd.R_reads' HO565.out).2.1); (case side3 => exact uC (Kd.C_below HR2.out HB.out)); (case side4 => exact HC2.out); rintro e w' ⟨rfl, ⟨nd, rfl⟩⟩))
  go_ret
  exact ⟨eR, uB⟩
 ·replace c6 := Bool.eq_false_iff.mpr c6
  subst c6
  rw [if_neg (by decide)] at H
  obtain rfl := Option.some.inj H
  go_enter Tryz.func64, Tryz.ntmps64
  go_wp2_with (first | ((with_reducible refine gate_callee (f := 61) rfl ?_); refine goesL_ (some 12) rfl rfl Tryz.func61 (by kernel_rfl) rfl #[.slice A0 l0.length c0, .slice A1 l1.length c1] rfl aE ?_; (with_reducible refine (kasai_LCP.calls k _ _ l0 _ _ l1 t562 t563 _ ?side1 ?side2 ?side3 ?side4 A4.out).mono ?_); (case side1 => exact uC HR0.out); (case side2 => exact HC0.out); (case side3 => exact uC HR1.out); (case side4 => exact HC1.out); rintro e w11 ⟨v564, rfl, ho0, hb⟩; refine ⟨_, rfl, ?_⟩; have n0_ := Aside0.mk (Kd.R_lower ho0 (below_size uB)); have n1_ := Aside0.mk (below_step uB hb); clear HB; have HO565 := n0_; have HB := n1_; clear n0_ n1_) | ((with_reducible refine gate_callee (f := 84) rfl ?_); refine goesL_ (some 17) rfl rfl Tryz.func84 (by kernel_rfl) rfl #[.slice A0 l0.length c0, .slice A1 l1.length c1] rfl aE ?_; (with_reducible refine (check_SA.calls k _ _ l0 _ _ l1 false _ ?side1 ?side2 ?side3 ?side4 A5.out).mono ?_); (case side1 => exact uC (Kd.C_below HR0.out HB.out)); (case side2 => exact HC0.out); (case side3 => exact uC (Kd.C_below HR1.out HB.out)); (case side4 => exact HC1.out); rintro e w12 ⟨rfl, hb⟩; refine ⟨_, rfl, ?_⟩; have n0_ := Aside0.mk (Kd.R_below (uR HO565.out) hb); have n1_ := Aside0.mk (below_step uB hb); clear HO565 HB; have HO565 := n0_; have HB := n1_; clear n0_ n1_))
  go_ret
  exact ⟨eR, uB⟩
def whorlref4_Ints.l0 : Nat → List Int → List Int → Int → Option (Bool)
  | 0, _, _, _ => none
  | k + 1, x0, x1, x5 => if x5 < (x0.length : Int) then (if 0 ≤ x5 then (if x5 < (x1.length : Int) then (if (rd x0 x5) = (rd x1 x5) then (whorlref4_Ints.l0 k x0 x1 (wrap64 (x5 + 1))) else (some false)) else (none)) else (none)) else (some true)
def whorlref4_Ints.f (k : Nat) (l0 : List Int) (l1 : List Int) : Option (Bool) := if (l0.length : Int) = (l1.length : Int) then (whorlref4_Ints.l0 k l0 l1 0) else (some false)
theorem whorlref4_Ints.calls (k : Nat) (A0 : Option Addr) (c0 : Nat) (l0 : List Int) (A1 : Option Addr) (c1 : Nat) (l1 : List Int) (r : Bool) (w : World) (hr0 : Kd.C (Kd.int .i64) w A0 l0.length l0) (hc0 : l0.length ≤ c0) (hr1 : Kd.C (Kd.int .i64) w A1 l1.length l1) (hc1 : l1.length ≤ c1) (h : whorlref4_Ints.f k l0 l1 = some r) :
    Calls Tryz.prog 32 #[.slice A0 l0.length c0, .slice A1 l1.length c1] w fun e w' => e = .returned (.bool r) ∧ Drawn0 w w' := by
 have HR0 := Aside0.mk hr0
 have HC0 := Aside0.mk hc0
 clear hr0 hc0
 have HR1 := Aside0.mk hr1
 have HC1 := Aside0.mk hc1
 clear hr1 hc1
 have H := h
 clear h
 unfold whorlref4_Ints.f at H
 by_cases c3 : (l0.length : Int) = (l1.length : Int)
 ·rw [if_pos c3] at H
  have c3b0 : ((l0.length : Int) == (l1.length : Int)) = true := beq_iff_eq.mpr c3
  have c3b1 : ((l0.length : Int) != (l1.length : Int)) = false := bne_eq_false_iff_eq.mpr c3
  have c3b2 : (l0.length == l1.length) = true := by first | simpa using c3 | (simp at c3 ⊢; omega)
  clear c3
  have H' := Aside0.mk H
  clear H
  go_enter Tryz.func32, Tryz.ntmps32
  go_wp2
  repeat (go_quiet (fail); try go_wp2)
  go_loopg [5] k (fun kq v5 w' => ∃ (x5_1 : Int), v5 = .int .i64 x5_1 ∧ Aside0 (whorlref4_Ints.l0 kq l0 l1 x5_1 = some r) ∧ Aside0 (kq ≤ k) ∧ Drawn0 w w')
  case atStart => exact ⟨(0), sD, H', ⟨Nat.le_refl _⟩, dD⟩
  case round =>
   clear H'
   obtain ⟨x5_1, rfl, HA, HK1, ⟨m1, rfl⟩⟩ := hrel
   cases gk with
   | zero => exact absurd HA.out (by simp [whorlref4_Ints.l0])
   | succ k1 =>
    have H := HA.out
    clear HA
    simp only [whorlref4_Ints.l0] at H
    rcases ifC H with ⟨c4b0, H⟩ | ⟨c4b0, H⟩
    ·obtain ⟨c5b0, c6b0, H⟩ := ifD2 H
     by_cases c7 : (rd l0 x5_1) = (rd l1 x5_1)
     ·rw [if_pos c7] at H
      have c7b0 : ((rd l0 x5_1) == (rd l1 x5_1)) = true := beq_iff_eq.mpr c7
      have c7b1 : ((rd l0 x5_1) != (rd l1 x5_1)) = false := bne_eq_false_iff_eq.mpr c7
      clear c7
      have H' := Aside0.mk H
      clear H
      obtain ⟨ad568, e568, hx568_0, p568, q568⟩ := rI HR0.out x5_1
      cases e568
      obtain ⟨ad569, e569, hx569_0, p569, q569⟩ := rI HR1.out x5_1
      cases e569
      go_wp2
      repeat (go_quiet (fail); try go_wp2)
      go_roundg k1
      case measure => have := HK1.out; omega
      case rel => exact ⟨(wrap64 (x5_1 + 1)), sD, H', ⟨by have := HK1.out; omega⟩, dD⟩
     ·rw [if_neg c7] at H
      have c7b0 : ((rd l0 x5_1) == (rd l1 x5_1)) = false := beq_eq_false_iff_ne.mpr c7
      have c7b1 : ((rd l0 x5_1) != (rd l1 x5_1)) = true := bne_iff_ne.mpr c7
      obtain rfl := Option.some.inj H
      obtain ⟨ad568, e568, hx568_0, p568, q568⟩ := rI HR0.out x5_1
      cases e568
      obtain ⟨ad569, e569, hx569_0, p569, q569⟩ := rI HR1.out x5_1
      cases e569
      go_wp2
      repeat (go_quiet (fail); try go_wp2)
      go_ret
      exact ⟨sD, dD⟩
    ·obtain rfl := Option.some.inj H
     go_wp2
     repeat (go_quiet (fail); try go_wp2)
     go_ret
     exact ⟨sD, dD⟩
 ·rw [if_neg c3] at H
  have c3b0 : ((l0.length : Int) == (l1.length : Int)) = false := beq_eq_false_iff_ne.mpr c3
  have c3b1 : ((l0.length : Int) != (l1.length : Int)) = true := bne_iff_ne.mpr c3
  have c3b2 : (l0.length == l1.length) = false := by first | simpa using c3 | (simp at c3 ⊢; omega)
  obtain rfl := Option.some.inj H
  go_enter Tryz.func32, Tryz.ntmps32
  go_wp2
  repeat (go_quiet (fail); try go_wp2)
  go_ret
  exact ⟨sD, dD⟩
def whorltop_known.f (k : Nat)  : Option (Bool) := some true
theorem whorltop_known.A1 : sais_Bytes.f 600 [98, 97, 110, 97, 110, 97] = some ([5, 3, 1, 0, 4, 2], 0) := by decide +kernel
theorem whorltop_known.A2 : skew_Bytes.f 200 [98, 97, 110, 97, 110, 97] = some ([5, 3, 1, 0, 4, 2], 0) := by decide +kernel
theorem whorltop_known.A3 : double_Bytes.f 100 [98, 97, 110, 97, 110, 97] = some ([5, 3, 1, 0, 4, 2], 0) := by decide +kernel
theorem whorltop_known.A4 : kasai_LCP.f 100 [98, 97, 110, 97, 110, 97] [5, 3, 1, 0, 4, 2] = some ([0, 1, 3, 0, 0, 2], true) := by decide +kernel
theorem whorltop_known.A5 : phi_LCP.f 100 [98, 97, 110, 97, 110, 97] [5, 3, 1, 0, 4, 2] = some ([0, 1, 3, 0, 0, 2], true) := by decide +kernel
theorem whorltop_known.A6 : check_LCP.f 100 [98, 97, 110, 97, 110, 97] [5, 3, 1, 0, 4, 2] [0, 1, 3, 0, 0, 2] = some true := by decide +kernel
theorem whorltop_known.A7 : slices_Equal_int_int.f 100 [5, 3, 1, 0, 4, 2] [5, 3, 1, 0, 4, 2] = some true := by decide +kernel
theorem whorltop_known.A8 : slices_Equal_int_int.f 100 [0, 1, 3, 0, 0, 2] [0, 1, 3, 0, 0, 2] = some true := by decide +kernel
theorem whorltop_known.A9 : whorlref4_Ints.f 100 [5, 3, 1, 0, 4, 2] [5, 3, 1, 0, 4, 2] = some true := by decide +kernel
theorem whorltop_known.run (w : World) (g : Nat) (x0 x1 x2 : Int) (A : Option Addr) (c : Nat) (hg : w.heap[g]? = some (.cells #[.int .i64 x0, .int .i64 x1, .int .i64 x2] 107 (0, 0)))
    (hs : Kd.C (Kd.int .u8) w A 6 [98, 97, 110, 97, 110, 97]) (hsc : 6 ≤ c) (hAg : ∀ ad, A = some ad → ad.block ≠ g) :
    Calls Tryz.prog 31 #[.pointer (some ⟨g, 0, none⟩), .slice A 6 c] w fun e w' => ∃ v Au nu cu, e = .returned (.tuple #[.agg #[v, .slice Au nu cu, .bool true], .int .i64 0]) ∧ Kd.R (Kd.int .i64) 3 w' w.heap.size (fun _ => True) v [5, 3, 1, 0, 4, 2] ∧ w.grownBy w' (some g) :=
  Go.Proofs.YtbbpplnnegdenaaGreat.Rn.run_calls w g x0 x1 x2 A c [98, 97, 110, 97, 110, 97] [5, 3, 1, 0, 4, 2] [0, 1, 3, 0, 0, 2] hg hs hsc hAg
    (fun W A c hc hC => sais_Bytes.calls 600 A c [98, 97, 110, 97, 110, 97] _ _ W hC hc whorltop_known.A1) (fun W A c hc hC => skew_Bytes.calls 200 A c [98, 97, 110, 97, 110, 97] _ _ W hC hc whorltop_known.A2) (fun W A c hc hC => double_Bytes.calls 100 A c [98, 97, 110, 97, 110, 97] _ _ W hC hc whorltop_known.A3)
    (fun W A c B d hc hd hA hB => (kasai_LCP.calls 100 A c [98, 97, 110, 97, 110, 97] B d [5, 3, 1, 0, 4, 2] _ _ W hA hc hB hd whorltop_known.A4).mono (fun _ _ ⟨v, h1, h2, h3⟩ => ⟨v, _, h1, h2, h3⟩))
    (fun W A c B d hc hd hA hB => (phi_LCP.calls 100 A c [98, 97, 110, 97, 110, 97] B d [5, 3, 1, 0, 4, 2] _ _ W hA hc hB hd whorltop_known.A5).mono (fun _ _ ⟨v, h1, h2, h3⟩ => ⟨v, _, h1, h2, h3⟩))
    (fun W A c B d hc hd hA hB => slices_Equal_int_int.calls 100 A c [5, 3, 1, 0, 4, 2] B d [5, 3, 1, 0, 4, 2] _ W hA hc hB hd whorltop_known.A7)
    (fun W A c B d hc hd hA hB => slices_Equal_int_int.calls 100 A c [0, 1, 3, 0, 0, 2] B d [0, 1, 3, 0, 0, 2] _ W hA hc hB hd whorltop_known.A8)
    (fun W A c B d C e hc hd he hA hB hC => check_LCP.calls 100 A c [98, 97, 110, 97, 110, 97] B d [5, 3, 1, 0, 4, 2] C e [0, 1, 3, 0, 0, 2] _ W hA hc hB hd hC he whorltop_known.A6)
theorem whorltop_known.below {w w1 w' : World} {g : Nat} (b1 : Below w.heap.size w w1) (hg : w.heap.size ≤ g) (h : w1.grownBy w' (some g)) : Below w.heap.size w w' :=
  ⟨h.os.trans b1.os, h.tape.trans b1.tape, h.output.trans b1.output, Nat.le_trans b1.size h.size, fun k hk => (h.block k (Nat.lt_of_lt_of_le hk b1.size) (fun e => by cases e; omega)).trans (b1.block k hk)⟩
theorem whorltop_known.calls (k : Nat)  (r : Bool) (w : World) (h : whorltop_known.f k  = some r) :
    Calls Tryz.prog 8 #[] w fun e w' => e = .returned (.bool r) ∧ Below w.heap.size w w' := by
 obtain rfl : true = r := Option.some.inj h
 clear h
 have kc := fun (w : World) (C : Array Value) (n c : Nat) => Lib.run_convert_bytes_const (P := Tryz.prog) w 22 5 C n c Tryz.underlying22 Tryz.underlying5
 have cN := Go.Proofs.YtbbpplnnegdenaaGreat.Cr.new_calls w
 go_enter Tryz.func8, Tryz.ntmps8
 go_wp2_with (fail)
 (with_reducible refine cN.mono ?_)
 clear cN
 rintro e w1 ⟨g, rfl, hg0, hg, hb1⟩
 have B1 := Aside0.mk hb1
 have HG := Go.Lib.hid hg
 have HG0 := Aside0.mk hg0
 clear hb1 hg hg0
 go_wp2_with (fail)
 refine (whorltop_known.run _ g 0 0 0 (some ⟨w1.heap.size, 0, none⟩) 6 ?hg (lit_reads .u8 w1 5 [98, 97, 110, 97, 110, 97] (6, 7) (by decide) rfl) (by decide) ?hne).mono ?_
 case hg => exact (Below.heap_alloc _ _ _ (Array.getElem?_eq_some_iff.1 HG.out).1).trans HG.out
 case hne => intro ad e; cases e; have := (Array.getElem?_eq_some_iff.1 HG.out).1; show w1.heap.size ≠ g; omega
 rintro e w2 ⟨v, Au, nu, cu, rfl, hR, hgr⟩
 obtain ⟨p1, q1, rfl⟩ := Kd.R_slice hR
 have B2 := Aside0.mk (whorltop_known.below (below_alloc B1.out _) HG0.out hgr)
 have R2 := Aside0.mk hR
 clear hR hgr
 go_wp2_with (fail)
 refine Calls.mono (show Calls Tryz.prog 32 #[.slice p1 6 q1, .slice (some ⟨w2.heap.size + 1, 0, none⟩) 6 6] _ _ from whorlref4_Ints.calls 100 p1 q1 [5, 3, 1, 0, 4, 2] _ 6 [5, 3, 1, 0, 4, 2] true _ (Kd.C_alloc (Kd.C_alloc (Kd.R_reads' R2.out).2.2 _) _) (Kd.R_reads' R2.out).2.1
  (by have := lit_reads .i64 (w2.alloc (.cells #[.slice p1 6 q1, .slice Au nu cu, .bool true] 62)) 3 [5, 3, 1, 0, 4, 2] (0, 0) (by decide) rfl; simpa using this) (by decide) whorltop_known.A9) ?_
 rintro e w3 ⟨rfl, hd⟩
 have B3 := Aside0.mk (below_step (below_alloc (below_alloc B2.out _) _) hd.below)
 clear hd R2 B2
 go_wp2_with (fail)
 go_ret
 exact ⟨rfl, B3.out⟩
mutual
def lyndon_Factors.l0 : Nat → List Int → List Int → Int → Option (List Int)
  | 0, _, _, _ => none
  | k + 1, x0, x3, x4 => if x4 < (x0.length : Int) then (lyndon_Factors.l1 k x0 x3 x4 x4 (wrap64 (x4 + 1))) else (some x3)
def lyndon_Factors.l1 : Nat → List Int → List Int → Int → Int → Int → Option (List Int)
  | 0, _, _, _, _, _ => none
  | k + 1, x0, x3, x4, x5, x6 => if x6 < (x0.length : Int) then (if 0 ≤ x5 then (if x5 < (x0.length : Int) then (if 0 ≤ x6 then (lyndon_Factors.j2 k x0 x3 x4 x5 x6 (decide ((rd x0 x5) ≤ (rd x0 x6)))) else (none)) else (none)) else (none)) else (lyndon_Factors.j2 k x0 x3 x4 x5 x6 false)
def lyndon_Factors.j2 : Nat → List Int → List Int → Int → Int → Int → Bool → Option (List Int)
  | 0, _, _, _, _, _, _ => none
  | k + 1, x0, x3, x4, x5, x6, x28 => if x28 = true then (if 0 ≤ x5 then (if x5 < (x0.length : Int) then (if 0 ≤ x6 then (if x6 < (x0.length : Int) then (if (rd x0 x5) < (rd x0 x6) then (lyndon_Factors.l1 k x0 x3 x4 x4 (wrap64 (x6 + 1))) else (lyndon_Factors.l1 k x0 x3 x4 (wrap64 (x5 + 1)) (wrap64 (x6 + 1)))) else (none)) else (none)) else (none)) else (none)) else (lyndon_Factors.l2 k x0 x3 x4 x5 x6)
def lyndon_Factors.l2 : Nat → List Int → List Int → Int → Int → Int → Option (List Int)
  | 0, _, _, _, _, _ => none
  | k + 1, x0, x3, x4, x5, x6 => if x4 ≤ x5 then (if x3.length < 17592186044416 then (lyndon_Factors.l2 k x0 (x3 ++ [wrap64 (x6 - x5)]) (wrap64 (x4 + (wrap64 (x6 - x5)))) x5 x6) else (none)) else (lyndon_Factors.l0 k x0 x3 x4)
end
def lyndon_Factors.f (k : Nat) (l0 : List Int) : Option (List Int) := lyndon_Factors.l0 k l0 ([] : List Int) 0
theorem lyndon_Factors.calls (k : Nat) (A0 : Option Addr) (c0 : Nat) (l0 : List Int) (r : List Int) (w : World) (hr0 : Kd.C (Kd.int .u8) w A0 l0.length l0) (hc0 : l0.length ≤ c0) (h : lyndon_Factors.f k l0 = some r) :
    Calls Tryz.prog 36 #[.slice A0 l0.length c0] w fun e w' => ∃ v0_ : Value, e = .returned (v0_) ∧ Kd.R (Kd.int .i64) 3 w' w.heap.size (fun _ => True) v0_ r ∧ Below w.heap.size w w' := by
 have HR0 := Aside0.mk hr0
 have HC0 := Aside0.mk hc0
 clear hr0 hc0
 have HB := Aside0.mk (Below.refl w.heap.size w)
 have H := h
 clear h
 unfold lyndon_Factors.f at H
 have H' := Aside0.mk H
 clear H
 go_enter Tryz.func36, Tryz.ntmps36
 go_wp2
 repeat (go_quiet (fail); try go_wp2)
 go_loopg [3, 4] k (fun kq v3 v4 w' => ∃ (x3_1 : List Int) (x4_1 : Int), v4 = .int .i64 x4_1 ∧ Aside0 (lyndon_Factors.l0 kq l0 x3_1 x4_1 = some r) ∧ Aside0 (kq ≤ k) ∧ Aside0 (Kd.R (Kd.int .i64) 3 w' w.heap.size (fun _ => True) v3 x3_1) ∧ Aside0 (Below w.heap.size w w'))
 case atStart => exact ⟨(([] : List Int)), (0), sD, H', ⟨Nat.le_refl _⟩, ⟨nL⟩, ⟨uB⟩⟩
 case round =>
  clear H'
  obtain ⟨x3_1, x4_1, rfl, HA, HK1, HO_3, HB⟩ := hrel
  cases gk with
  | zero => exact absurd HA.out (by simp [lyndon_Factors.l0])
  | succ k1 =>
   have H := HA.out
   clear HA
   simp only [lyndon_Factors.l0] at H
   rcases ifC H with ⟨c2b0, H⟩ | ⟨c2b0, H⟩
   ·have H' := Aside0.mk H
    clear H
    go_wp2
    repeat (go_quiet (fail); try go_wp2)
    go_loopg [5, 6] k1 (fun kq v5 v6 w' => ∃ (x5_2 : Int) (x6_2 : Int), v5 = .int .i64 x5_2 ∧ v6 = .int .i64 x6_2 ∧ Aside0 (lyndon_Factors.l1 kq l0 x3_1 x4_1 x5_2 x6_2 = some r) ∧ Aside0 (kq ≤ k1) ∧ Aside0 (Kd.R (Kd.int .i64) 3 w' w.heap.size (fun _ => True) u3 x3_1) ∧ Aside0 (Below w.heap.size w w'))
    case atStart => exact ⟨(x4_1), (wrap64 (x4_1 + 1)), sD, sD, H', ⟨Nat.le_refl _⟩, ⟨uR HO_3.out⟩, ⟨uB⟩⟩
    case round =>
     clear H'
     obtain ⟨x5_2, x6_2, rfl, rfl, HA, HK2, HO_3, HB⟩ := hrel
     cases gk with
     | zero => exact absurd HA.out (by simp [lyndon_Factors.l1])
     | succ k2 =>
      have H := HA.out
      clear HA
      simp only [lyndon_Factors.l1] at H
      have HC3 := Aside0.mk H
      clear H
      go_upto_region 5 with (fail)
      repeat (go_quiet (fail); go_upto_region 5 with (fail))
      go_cut [28] (fun v28 wc => ∃ (kq : Nat) (x28_2 : Bool), v28 = .bool x28_2 ∧ Aside0 (lyndon_Factors.j2 kq l0 x3_1 x4_1 x5_2 x6_2 x28_2 = some r) ∧ Aside0 (kq ≤ k2) ∧ Aside0 (Kd.R (Kd.int .i64) 3 wc w.heap.size (fun _ => True) u3 x3_1) ∧ Aside0 (Below w.heap.size w wc))
      case first =>
       have H := HC3.out
       clear HC3
       rcases ifC H with ⟨c4b0, H⟩ | ⟨c4b0, H⟩
       ·(first | rw [c4b0] | (simp only [i64_w, i32_w]; rw [c4b0]) | skip)
        obtain ⟨c5b0, H⟩ := ifD H
        obtain ⟨c6b0, c7b0, H⟩ := ifD2 H
        have H' := Aside0.mk H
        clear H
        obtain ⟨ad570, e570, hx570_0, p570, q570⟩ := rIO HB.out HR0.out x5_2
        cases e570
        obtain ⟨ad571, e571, hx571_0, p571, q571⟩ := rIO HB.out HR0.out x6_2
        obtain rfl : ad570 = ad571 := (by injection e571)
        go_wp2
        repeat (go_quiet (fail); try go_wp2)
        go_meet
        case rel => exact ⟨_, (decide ((rd l0 x5_2) ≤ (rd l0 x6_2))), sD, H', ⟨by have := HK1.out; have := HK2.out; first | omega | exact Nat.le_refl _⟩, ⟨uR HO_3.out⟩, ⟨uB⟩⟩
       ·(first | rw [c4b0] | (simp only [i64_w, i32_w]; rw [c4b0]) | skip)
        have H' := Aside0.mk H
        clear H
        go_wp2
        repeat (go_quiet (fail); try go_wp2)
        go_meet
        case rel => exact ⟨_, (false), sD, H', ⟨by have := HK1.out; have := HK2.out; first | omega | exact Nat.le_refl _⟩, ⟨uR HO_3.out⟩, ⟨uB⟩⟩
      case rest =>
       clear HC3
       obtain ⟨kq, x28_2, rfl, HA, HJ2, HO_3, HB⟩ := hcut
       cases kq with
       | zero => exact absurd HA.out (by simp [lyndon_Factors.j2])
       | succ kj2 =>
        have H := HA.out
        clear HA
        simp only [lyndon_Factors.j2] at H
        by_cases c8 : x28_2 = true
        ·subst c8
         rw [if_pos rfl] at H
         obtain ⟨c9b0, c10b0, H⟩ := ifD2 H
         obtain ⟨c11b0, c12b0, H⟩ := ifD2 H
         rcases ifC H with ⟨c13b0, H⟩ | ⟨c13b0, H⟩
         ·have H' := Aside0.mk H
          clear H
          obtain ⟨ad572, e572, hx572_0, p572, q572⟩ := rIO HB.out HR0.out x5_2
          cases e572
          obtain ⟨ad573, e573, hx573_0, p573, q573⟩ := rIO HB.out HR0.out x6_2
          obtain rfl : ad572 = ad573 := (by injection e573)
          go_wp2
          repeat (go_quiet (fail); try go_wp2)
          go_roundg kj2
          case measure => have := HK1.out; have := HK2.out; have := HJ2.out; omega
          case rel => exact ⟨(x4_1), (wrap64 (x6_2 + 1)), sD, sD, H', ⟨by have := HK1.out; have := HK2.out; have := HJ2.out; omega⟩, ⟨uR HO_3.out⟩, ⟨uB⟩⟩
         ·have H' := Aside0.mk H
          clear H
          obtain ⟨ad572, e572, hx572_0, p572, q572⟩ := rIO HB.out HR0.out x5_2
          cases e572
          obtain ⟨ad573, e573, hx573_0, p573, q573⟩ := rIO HB.out HR0.out x6_2
          obtain rfl : ad572 = ad573 := (by injection e573)
          go_wp2
          repeat (go_quiet (fail); try go_wp2)
          go_roundg kj2
          case measure => have := HK1.out; have := HK2.out; have := HJ2.out; omega
          case rel => exact ⟨(wrap64 (x5_2 + 1)), (wrap64 (x6_2 + 1)), sD, sD, H', ⟨by have := HK1.out; have := HK2.out; have := HJ2.out; omega⟩, ⟨uR HO_3.out⟩, ⟨uB⟩⟩
        ·replace c8 := Bool.eq_false_iff.mpr c8
         subst c8
         rw [if_neg (by decide)] at H
         have H' := Aside0.mk H
         clear H
         go_wp2
         repeat (go_quiet (fail); try go_wp2)
         go_loopg [3, 4] kj2 (fun kq v3 v4 w' => ∃ (x3_4 : List Int) (x4_4 : Int), v4 = .int .i64 x4_4 ∧ Aside0 (lyndon_Factors.l2 kq l0 x3_4 x4_4 x5_2 x6_2 = some r) ∧ Aside0 (kq ≤ kj2) ∧ Aside0 (Kd.R (Kd.int .i64) 3 w' w.heap.size (fun _ => True) v3 x3_4) ∧ Aside0 (Below w.heap.size w w'))
         case atStart => exact ⟨(x3_1), (x4_1), sD, H', ⟨Nat.le_refl _⟩, ⟨uR HO_3.out⟩, ⟨uB⟩⟩
         case round =>
          clear H'
          obtain ⟨x3_4, x4_4, rfl, HA, HK4, HO_3, HB⟩ := hrel
          cases gk with
          | zero => exact absurd HA.out (by simp [lyndon_Factors.l2])
          | succ k4 =>
           have H := HA.out
           clear HA
           simp only [lyndon_Factors.l2] at H
           rcases ifC H with ⟨c14b0, H⟩ | ⟨c14b0, H⟩
           ·obtain ⟨c15, H⟩ := ifP H
            have LMc15 := Aside0.mk c15
            clear c15
            generalize hy574 : (x3_4 ++ [wrap64 (x6_2 - x5_2)] : List Int) = y574 at H
            try simp only [Option.bind_some] at H
            have Ny574 := Aside0.mk hy574.symm
            clear hy574
            have H' := Aside0.mk H
            clear H
            go_wp2_with (first | ((with_reducible refine gate_builtin (b := .append) (xs := #[.tmp 46, .tmp 50]) rfl ?_); at_builtin; refine Kd.R_append (Kd.int .i64) (w0 := w) w.heap.size rfl (.tmp 46) (.tmp 50) 29 3 (.int .i64 0) 8 rfl Tryz.underlying29 info3 rfl (by decide) (by omega) u3 x3_4 (wrap64 (x6_2 - x5_2)) [.int .i64 (wrap64 (x6_2 - x5_2))] (fun _ => True) (fun _ => False) rfl rfl ?aP (fun _ hk => hk.elim) ?aF ?aO ?aB ?aS ?aL ?_; (case aP => exact rfl); (case aB => exact uB); (case aF => exact (fun _ _ => trivial)); (case aO => exact (uR HO_3.out)); (case aS => exact (below_size uB)); (case aL => have := LMc15.out; omega); intro v575 w16 ho hb hg hat; rw [← Ny574.out] at ho; have n0_ := Aside0.mk (hb); have n1_ := Aside0.mk (ho); clear HB HO_3; have HB := n0_; have HO576 := n1_; clear n0_ n1_; clear ho hb hg hat))
            repeat (go_quiet (first | fail); try go_wp2_with (first | fail))
            go_roundg k4
            case measure => have := HK1.out; have := HK2.out; have := HJ2.out; have := HK4.out; omega
            case rel => exact ⟨(y574), (wrap64 (x4_4 + (wrap64 (x6_2 - x5_2)))), sD, H', ⟨by have := HK1.out; have := HK2.out; have := HJ2.out; have := HK4.out; omega⟩, ⟨uR HO576.out⟩, ⟨uB⟩⟩
           ·have H' := Aside0.mk H
            clear H
            go_wp2
            repeat (go_quiet (fail); try go_wp2)
            go_roundg k4
            case measure => have := HK1.out; have := HK2.out; have := HJ2.out; have := HK4.out; omega
            case rel => exact ⟨(x3_4), (x4_4), sD, H', ⟨by have := HK1.out; have := HK2.out; have := HJ2.out; have := HK4.out; omega⟩, ⟨uR HO_3.out⟩, ⟨uB⟩⟩
   ·obtain rfl := Option.some.inj H
    go_wp2
    repeat (go_quiet (fail); try go_wp2)
    go_ret
    exact ⟨_, eR, uR HO_3.out, uB⟩
def bij_Turn.f (k : Nat) (l0 : List Int) : Option (List Int × Int) :=
  if (∀ x ∈ l0, 0 ≤ x ∧ x < 256) ∧ l0.length ≤ 100000 then
    (lyndon_Factors.f k l0).bind fun fl =>
      if (∀ x ∈ fl, 0 < x) ∧ Go.Proofs.YtbbpplnnegdenaaGreat.Bt.smN fl fl.length = l0.length ∧ fl.length ≤ l0.length then
        some ((Go.Proofs.YtbbpplnnegdenaaGreat.Oy.omegaT (Go.Proofs.YtbbpplnnegdenaaGreat.Bt.cutW l0 fl)).map (Go.Proofs.YtbbpplnnegdenaaGreat.Bt.lastC (Go.Proofs.YtbbpplnnegdenaaGreat.Bt.cutW l0 fl)), 0)
      else none
  else none
theorem bij_Turn.calls (k : Nat) (A0 : Option Addr) (c0 : Nat) (l0 : List Int) (r1 : List Int) (r2 : Int) (w : World) (hr0 : Kd.C (Kd.int .u8) w A0 l0.length l0) (hc0 : l0.length ≤ c0) (h : bij_Turn.f k l0 = some (r1, r2)) :
    Calls Tryz.prog 11 #[.slice A0 l0.length c0] w fun e w' => ∃ v0_ : Value, e = .returned (.tuple #[v0_, .int .i64 r2]) ∧ Kd.R (Kd.int .u8) 5 w' w.heap.size (fun _ => True) v0_ r1 ∧ Below w.heap.size w w' := by
 unfold bij_Turn.f at h
 by_cases c1 : (∀ x ∈ l0, 0 ≤ x ∧ x < 256) ∧ l0.length ≤ 100000
 case neg => rw [if_neg c1] at h; exact absurd h (by simp)
 rw [if_pos c1] at h
 obtain ⟨fl, hf, h⟩ := Option.bind_eq_some_iff.1 h
 by_cases c2 : (∀ x ∈ fl, 0 < x) ∧ Go.Proofs.YtbbpplnnegdenaaGreat.Bt.smN fl fl.length = l0.length ∧ fl.length ≤ l0.length
 case neg => rw [if_neg c2] at h; exact absurd h (by simp)
 rw [if_pos c2] at h
 injection h with h
 injection h with h1 h2
 subst h1 h2
 refine (Go.Proofs.YtbbpplnnegdenaaGreat.Bt.turn_calls w A0 c0 l0 hr0 hc0 c1.1 c1.2 fl (lyndon_Factors.calls k A0 c0 l0 fl w hr0 hc0 hf) c2.1 c2.2.1 c2.2.2).mono ?_
 rintro e W' ⟨v, T, he, hT, hR, hB⟩
 rw [hT.uniq (Go.Proofs.YtbbpplnnegdenaaGreat.Oy.omegaT_is _)] at hR
 exact ⟨v, he, hR, hB⟩
mutual
def bwt_Of.j0 : Nat → List Int → List Int → Int → Bool → Option (List Int × Int × Bool)
  | 0, _, _, _, _ => none
  | k + 1, x0, x1, x5, x18 => if x18 = true then (some (([] : List Int), 0, false)) else ((some (([] : List Int) : List Int)).bind fun y578 => (if (x0.length : Int) > 0 then (if 0 ≤ (wrap64 ((x0.length : Int) - 1)) then (if (wrap64 ((x0.length : Int) - 1)) < (x0.length : Int) then (if y578.length < 140737488355328 then (bwt_Of.j1 k x0 x1 (y578 ++ [rd x0 (wrap64 ((x0.length : Int) - 1))]) x5) else (none)) else (none)) else (none)) else (bwt_Of.j1 k x0 x1 y578 x5)))
def bwt_Of.j1 : Nat → List Int → List Int → List Int → Int → Option (List Int × Int × Bool)
  | 0, _, _, _, _ => none
  | k + 1, x0, x1, x4, x5 => bwt_Of.l0 k x0 x4 x5 x1 (x1.length : Int) 0
def bwt_Of.l0 : Nat → List Int → List Int → Int → List Int → Int → Int → Option (List Int × Int × Bool)
  | 0, _, _, _, _, _, _ => none
  | k + 1, x0, x4, x5, x32, x33, x34 => if x34 < x33 then (if 0 ≤ x34 then (if x34 < (x32.length : Int) then (if (rd x32 x34) = 0 then (bwt_Of.l0 k x0 x4 (wrap64 (x34 + 1)) x32 x33 (wrap64 (x34 + 1))) else (if 0 ≤ (wrap64 ((rd x32 x34) - 1)) then (if (wrap64 ((rd x32 x34) - 1)) < (x0.length : Int) then (if x4.length < 140737488355328 then (bwt_Of.l0 k x0 (x4 ++ [rd x0 (wrap64 ((rd x32 x34) - 1))]) x5 x32 x33 (wrap64 (x34 + 1))) else (none)) else (none)) else (none))) else (none)) else (none)) else (some (x4, x5, true))
end
def bwt_Of.f (k : Nat) (l0 : List Int) (l1 : List Int) : Option (List Int × Int × Bool) := if (l1.length : Int) = (l0.length : Int) then ((rank_Is.f k l1).bind fun t577 => (bwt_Of.j0 k l0 l1 0 (!t577))) else (bwt_Of.j0 k l0 l1 0 true)
theorem bwt_Of.calls (k : Nat) (A0 : Option Addr) (c0 : Nat) (l0 : List Int) (A1 : Option Addr) (c1 : Nat) (l1 : List Int) (r1 : List Int) (r2 : Int) (r3 : Bool) (w : World) (hr0 : Kd.C (Kd.int .u8) w A0 l0.length l0) (hc0 : l0.length ≤ c0) (hr1 : Kd.C (Kd.int .i64) w A1 l1.length l1) (hc1 : l1.length ≤ c1) (h : bwt_Of.f k l0 l1 = some (r1, r2, r3)) :
    Calls Tryz.prog 39 #[.slice A0 l0.length c0, .slice A1 l1.length c1] w fun e w' => ∃ v0_ : Value, e = .returned (.tuple #[v0_, .int .i64 r2, .bool r3]) ∧ Kd.R (Kd.int .u8) 5 w' w.heap.size (fun _ => True) v0_ r1 ∧ Below w.heap.size w w' := by
 have HR0 := Aside0.mk hr0
 have HC0 := Aside0.mk hc0
 clear hr0 hc0
 have HR1 := Aside0.mk hr1
 have HC1 := Aside0.mk hc1
 clear hr1 hc1
 have HB := Aside0.mk (Below.refl w.heap.size w)
 have H := h
 clear h
 unfold bwt_Of.f at H
 have HC3 := Aside0.mk H
 clear H
 go_enter Tryz.func39, Tryz.ntmps39
 go_upto_region 1 with (fail)
 go_cut [18] (fun v18 wc => ∃ (kq : Nat) (x18_2 : Bool), v18 = .bool x18_2 ∧ Aside0 (bwt_Of.j0 kq l0 l1 0 x18_2 = some (r1, r2, r3)) ∧ Aside0 (kq ≤ k) ∧ Aside0 (Below w.heap.size w wc))
 case first =>
  have H := HC3.out
  clear HC3
  by_cases c4 : (l1.length : Int) = (l0.length : Int)
  ·rw [if_pos c4] at H
   have c4b0 : ((l1.length : Int) == (l0.length : Int)) = true := beq_iff_eq.mpr c4
   have c4b1 : ((l1.length : Int) != (l0.length : Int)) = false := bne_eq_false_iff_eq.mpr c4
   have c4b2 : (l1.length == l0.length) = true := by first | simpa using c4 | (simp at c4 ⊢; omega)
   clear c4
   (first | rw [c4b0] | (simp only [i64_w, i32_w]; rw [c4b0]) | skip)
   obtain ⟨t577, A5, H⟩ := bdS H
   try dsimp only at H
   have H' := Aside0.mk H
   clear H
   go_wp2_with (first | (go_at_call 70; (with_reducible refine (rank_Is.calls k _ _ l1 t577 _ ?side1 ?side2 A5.out).mono ?_); (case side1 => exact uC (Kd.C_below HR1.out HB.out)); (case side2 => exact HC1.out); rintro e w6 ⟨rfl, hb⟩; have n0_ := Aside0.mk (below_step uB hb); clear HB; have HB := n0_; clear n0_))
   go_meet
   case rel => exact ⟨_, (!t577), sD, H', ⟨by first | omega | exact Nat.le_refl _⟩, ⟨uB⟩⟩
  ·rw [if_neg c4] at H
   have c4b0 : ((l1.length : Int) == (l0.length : Int)) = false := beq_eq_false_iff_ne.mpr c4
   have c4b1 : ((l1.length : Int) != (l0.length : Int)) = true := bne_iff_ne.mpr c4
   have c4b2 : (l1.length == l0.length) = false := by first | simpa using c4 | (simp at c4 ⊢; omega)
   (first | rw [c4b0] | (simp only [i64_w, i32_w]; rw [c4b0]) | skip)
   have H' := Aside0.mk H
   clear H
   go_wp2
   go_meet
   case rel => exact ⟨_, (true), sD, H', ⟨by first | omega | exact Nat.le_refl _⟩, ⟨uB⟩⟩
 case rest =>
  clear HC3
  obtain ⟨kq, x18_2, rfl, HA, HJ2, HB⟩ := hcut
  cases kq with
  | zero => exact absurd HA.out (by simp [bwt_Of.j0])
  | succ kj2 =>
   have H := HA.out
   clear HA
   simp only [bwt_Of.j0] at H
   by_cases c7 : x18_2 = true
   ·subst c7
    rw [if_pos rfl] at H
    simp only [Option.some.injEq, Prod.mk.injEq] at H
    obtain ⟨rfl, rfl, rfl⟩ := H
    go_wp2
    go_ret3
    exact ⟨_, eR, nL, uB⟩
   ·replace c7 := Bool.eq_false_iff.mpr c7
    subst c7
    rw [if_neg (by decide)] at H
    obtain ⟨y578, hy578, H⟩ := Option.bind_eq_some_iff.mp H
    try dsimp only at H
    have Ny578 := Aside0.mk (Option.some.inj hy578).symm
    clear hy578
    have HC8 := Aside0.mk H
    clear H
    go_upto_if 22 with (first | ((with_reducible refine gate_dst (N := 19) rfl ?_); refine Kd.R_lit (Kd.int .u8) _ 5 ?hg (N := 19) ?hd (xs := ([] : List Int)) (inner := []) (ok := fun _ => True) (okp := fun _ => True) ?hr ?hp (fun _ hk => hk) trivial (Below.refl _ _) (Nat.le_refl _) (by simp) ?_; (case hd => rfl); (case hg => rfl); (case hr => first | (go_simp; done) | (go_simp; rfl)); (case hp => exact (Reps.none _ _)); intro v579 w9 ho10 hb hg_ hnew_; clear hg_ hnew_; (first | rw [← Ny578.out] at ho10 | (simp only [Int.reduceToNat] at ho10; rw [← Ny578.out] at ho10)); have n0_ := Aside0.mk (Kd.R_lower ho10 (below_size uB)); have n1_ := Aside0.mk (below_step uB hb); clear HB; have HO580 := n0_; have HB := n1_; clear n0_ n1_; clear hb ho10))
    (try simp only [Act.put, List.setIfInBounds_toArray, List.set_cons_zero, List.set_cons_succ])
    go_cut [4] (fun v4 wc => ∃ (kq : Nat) (x4_7 : List Int), Aside0 (bwt_Of.j1 kq l0 l1 x4_7 0 = some (r1, r2, r3)) ∧ Aside0 (kq ≤ kj2) ∧ Aside0 (Kd.R (Kd.int .u8) 5 wc w.heap.size (fun _ => True) v4 x4_7) ∧ Aside0 (Below w.heap.size w wc))
    case first =>
     have H := HC8.out
     clear HC8
     by_cases c11 : (l0.length : Int) > 0
     ·rw [if_pos c11] at H
      have c11b0 : decide (0 < (l0.length : Int)) = true := decide_eq_true c11
      have c11b1 : decide (0 < l0.length) = true := decide_eq_true (by omega)
      have c11P : 0 < l0.length := by omega
      clear c11
      (first | rw [c11b0] | (simp only [i64_w, i32_w]; rw [c11b0]) | skip)
      obtain ⟨ji12, hji12⟩ : ∃ j_ : Int, (wrap64 ((l0.length : Int) - 1)) = j_ := ⟨_, rfl⟩
      first | rw [hji12] at H | simp only [hji12] at H
      have hji12w : (IntKind.i64.wrap ((l0.length : Int) - 1)) = ji12 := (i64_w _).trans hji12
      obtain ⟨c13b0, c14b0, H⟩ := ifD2 H
      obtain ⟨c15, H⟩ := ifP H
      have LMc15 := Aside0.mk c15
      clear c15
      generalize hy582 : (y578 ++ [rd l0 (ji12)] : List Int) = y582 at H
      try simp only [Option.bind_some] at H
      have Ny582 := Aside0.mk hy582.symm
      clear hy582
      have H' := Aside0.mk H
      clear H
      obtain ⟨ad581, e581, hx581_0, p581, q581⟩ := rIO HB.out HR0.out (ji12)
      cases e581
      go_wp2_with (first | ((with_reducible refine gate_builtin (b := .append) (xs := #[.tmp 23, .tmp 30]) rfl ?_); at_builtin; refine Kd.R_append (Kd.int .u8) (w0 := w) w.heap.size rfl (.tmp 23) (.tmp 30) 22 5 (.int .u8 0) 1 rfl Tryz.underlying22 info5 rfl (by decide) (by omega) v579 y578 (rd l0 (ji12)) [.int .u8 (rd l0 (ji12))] (fun _ => True) (fun _ => False) rfl rfl ?aP (fun _ hk => hk.elim) ?aF ?aO ?aB ?aS ?aL ?_; (case aP => exact rfl); (case aB => exact uB); (case aF => exact (fun _ _ => trivial)); (case aO => exact (uR HO580.out)); (case aS => exact (below_size uB)); (case aL => have := LMc15.out; omega); intro v583 w16 ho hb hg hat; rw [← Ny582.out] at ho; have n0_ := Aside0.mk (hb); have n1_ := Aside0.mk (ho); clear HB HO580; have HB := n0_; have HO584 := n1_; clear n0_ n1_; clear ho hb hg hat))
      go_meet
      case rel => exact ⟨_, (y582), H', ⟨by have := HJ2.out; first | omega | exact Nat.le_refl _⟩, ⟨uR HO584.out⟩, ⟨uB⟩⟩
     ·rw [if_neg c11] at H
      have c11b0 : decide (0 < (l0.length : Int)) = false := decide_eq_false c11
      have c11b1 : decide (0 < l0.length) = false := decide_eq_false (by omega)
      have c11P : ¬ 0 < l0.length := by omega
      clear c11
      (first | rw [c11b0] | (simp only [i64_w, i32_w]; rw [c11b0]) | skip)
      have H' := Aside0.mk H
      clear H
      go_wp2
      go_meet
      case rel => exact ⟨_, (y578), H', ⟨by have := HJ2.out; first | omega | exact Nat.le_refl _⟩, ⟨uR HO580.out⟩, ⟨uB⟩⟩
    case rest =>
     clear HC8
     obtain ⟨kq, x4_7, HA, HJ7, HO_4, HB⟩ := hcut
     cases kq with
     | zero => exact absurd HA.out (by simp [bwt_Of.j1])
     | succ kj7 =>
      have H := HA.out
      clear HA
      simp only [bwt_Of.j1] at H
      have H' := Aside0.mk H
      clear H
      go_wp2
      go_loopg [4, 5, 34] kj7 (fun kq v4 v5 v34 w' => ∃ (x4_3 : List Int) (x5_3 : Int) (x34_3 : Int), v5 = .int .i64 x5_3 ∧ v34 = .int .i64 x34_3 ∧ Aside0 (bwt_Of.l0 kq l0 x4_3 x5_3 l1 (l1.length : Int) x34_3 = some (r1, r2, r3)) ∧ Aside0 (kq ≤ kj7) ∧ Aside0 (Kd.R (Kd.int .u8) 5 w' w.heap.size (fun _ => True) v4 x4_3) ∧ Aside0 (Below w.heap.size w w'))
      case atStart => exact ⟨(x4_7), (0), (0), sD, sD, H', ⟨Nat.le_refl _⟩, ⟨uR HO_4.out⟩, ⟨uB⟩⟩
      case round =>
       clear H'
       obtain ⟨x4_3, x5_3, x34_3, rfl, rfl, HA, HK3, HO_4, HB⟩ := hrel
       cases gk with
       | zero => exact absurd HA.out (by simp [bwt_Of.l0])
       | succ k3 =>
        have H := HA.out
        clear HA
        simp only [bwt_Of.l0] at H
        rcases ifC H with ⟨c17b0, H⟩ | ⟨c17b0, H⟩
        ·obtain ⟨c18b0, c19b0, H⟩ := ifD2 H
         by_cases c20 : (rd l1 x34_3) = 0
         ·rw [if_pos c20] at H
          have c20b0 : ((rd l1 x34_3) == 0) = true := beq_iff_eq.mpr c20
          have c20b1 : ((rd l1 x34_3) != 0) = false := bne_eq_false_iff_eq.mpr c20
          clear c20
          have H' := Aside0.mk H
          clear H
          obtain ⟨ad585, e585, hx585_0, p585, q585⟩ := rIO HB.out HR1.out x34_3
          cases e585
          go_wp2
          go_roundg k3
          case measure => have := HJ2.out; have := HJ7.out; have := HK3.out; omega
          case rel => exact ⟨(x4_3), (wrap64 (x34_3 + 1)), (wrap64 (x34_3 + 1)), sD, sD, H', ⟨by have := HJ2.out; have := HJ7.out; have := HK3.out; omega⟩, ⟨uR HO_4.out⟩, ⟨uB⟩⟩
         ·rw [if_neg c20] at H
          have c20b0 : ((rd l1 x34_3) == 0) = false := beq_eq_false_iff_ne.mpr c20
          have c20b1 : ((rd l1 x34_3) != 0) = true := bne_iff_ne.mpr c20
          obtain ⟨ji21, hji21⟩ : ∃ j_ : Int, (wrap64 ((rd l1 x34_3) - 1)) = j_ := ⟨_, rfl⟩
          first | rw [hji21] at H | simp only [hji21] at H
          have hji21w : (IntKind.i64.wrap ((rd l1 x34_3) - 1)) = ji21 := (i64_w _).trans hji21
          obtain ⟨c22b0, c23b0, H⟩ := ifD2 H
          obtain ⟨c24, H⟩ := ifP H
          have LMc24 := Aside0.mk c24
          clear c24
          generalize hy587 : (x4_3 ++ [rd l0 (ji21)] : List Int) = y587 at H
          try simp only [Option.bind_some] at H
          have Ny587 := Aside0.mk hy587.symm
          clear hy587
          have H' := Aside0.mk H
          clear H
          obtain ⟨ad585, e585, hx585_0, p585, q585⟩ := rIO HB.out HR1.out x34_3
          cases e585
          obtain ⟨ad586, e586, hx586_0, p586, q586⟩ := rIO HB.out HR0.out (ji21)
          cases e586
          go_wp2_with (first | ((with_reducible refine gate_builtin (b := .append) (xs := #[.tmp 43, .tmp 49]) rfl ?_); at_builtin; refine Kd.R_append (Kd.int .u8) (w0 := w) w.heap.size rfl (.tmp 43) (.tmp 49) 22 5 (.int .u8 0) 1 rfl Tryz.underlying22 info5 rfl (by decide) (by omega) u4 x4_3 (rd l0 (ji21)) [.int .u8 (rd l0 (ji21))] (fun _ => True) (fun _ => False) rfl rfl ?aP (fun _ hk => hk.elim) ?aF ?aO ?aB ?aS ?aL ?_; (case aP => exact rfl); (case aB => exact uB); (case aF => exact (fun _ _ => trivial)); (case aO => exact (uR HO_4.out)); (case aS => exact (below_size uB)); (case aL => have := LMc24.out; omega); intro v588 w25 ho hb hg hat; rw [← Ny587.out] at ho; have n0_ := Aside0.mk (hb); have n1_ := Aside0.mk (ho); clear HB HO_4; have HB := n0_; have HO589 := n1_; clear n0_ n1_; clear ho hb hg hat))
          go_roundg k3
          case measure => have := HJ2.out; have := HJ7.out; have := HK3.out; omega
          case rel => exact ⟨(y587), (x5_3), (wrap64 (x34_3 + 1)), sD, sD, H', ⟨by have := HJ2.out; have := HJ7.out; have := HK3.out; omega⟩, ⟨uR HO589.out⟩, ⟨uB⟩⟩
        ·simp only [Option.some.injEq, Prod.mk.injEq] at H
         obtain ⟨rfl, rfl, rfl⟩ := H
         go_wp2
         go_ret3
         exact ⟨_, eR, uR HO_4.out, uB⟩
def bwt_Turn.f (k : Nat) (l0 : List Int) : Option (List Int × Int × Int) := (sais_Bytes.f k l0).bind fun bt590 => (if bt590.2 = 0 then ((bwt_Of.f k l0 bt590.1).bind fun bt594 => (some (bt594.1, bt594.2.1, 0))) else (some (([] : List Int), 0, bt590.2)))
theorem bwt_Turn.calls (k : Nat) (A0 : Option Addr) (c0 : Nat) (l0 : List Int) (r1 : List Int) (r2 : Int) (r3 : Int) (w : World) (hr0 : Kd.C (Kd.int .u8) w A0 l0.length l0) (hc0 : l0.length ≤ c0) (h : bwt_Turn.f k l0 = some (r1, r2, r3)) :
    Calls Tryz.prog 12 #[.slice A0 l0.length c0] w fun e w' => ∃ v0_ : Value, e = .returned (.tuple #[v0_, .int .i64 r2, .int .i64 r3]) ∧ Kd.R (Kd.int .u8) 5 w' w.heap.size (fun _ => True) v0_ r1 ∧ Below w.heap.size w w' := by
 have HR0 := Aside0.mk hr0
 have HC0 := Aside0.mk hc0
 clear hr0 hc0
 have HB := Aside0.mk (Below.refl w.heap.size w)
 have H := h
 clear h
 unfold bwt_Turn.f at H
 obtain ⟨⟨t590, t591⟩, A2, H⟩ := bdS H
 try dsimp only at H
 by_cases c3 : t591 = 0
 ·rw [if_pos c3] at H
  have c3b0 : (t591 == 0) = true := beq_iff_eq.mpr c3
  have c3b1 : (t591 != 0) = false := bne_eq_false_iff_eq.mpr c3
  clear c3
  obtain ⟨⟨t594, t595, t596⟩, A4, H⟩ := bdS H
  try dsimp only at H
  simp only [Option.some.injEq, Prod.mk.injEq] at H
  obtain ⟨rfl, rfl, rfl⟩ := H
  go_enter Tryz.func12, Tryz.ntmps12
  go_wp2_with (first | ((with_reducible refine gate_callee (f := 38) rfl ?_); refine goesL_ (some 9) rfl rfl Tryz.func38 (by kernel_rfl) rfl #[.slice A0 l0.length c0] rfl aE ?_; (with_reducible refine (sais_Bytes.calls k _ _ l0 t590 t591 _ ?side1 ?side2 A2.out).mono ?_); (case side1 => exact uC HR0.out); (case side2 => exact HC0.out); rintro e w5 ⟨v592, rfl, ho0, hb⟩; refine ⟨_, rfl, ?_⟩; have n0_ := Aside0.mk (Kd.R_lower ho0 (below_size uB)); have n1_ := Aside0.mk (below_step uB hb); clear HB; have HO593 := n0_; have HB := n1_; clear n0_ n1_; obtain ⟨Ao6, co6, eo6⟩ := Kd.R_slice HO593.out; subst eo6) | ((with_reducible refine gate_callee (f := 39) rfl ?_); refine goesL_ (some 18) rfl rfl Tryz.func39 (by kernel_rfl) rfl #[.slice A0 l0.length c0, .slice Ao6 t590.length co6] rfl aE ?_; (with_reducible refine (bwt_Of.calls k _ _ l0 _ _ t590 t594 t595 t596 _ ?side1 ?side2 ?side3 ?side4 A4.out).mono ?_); (case side1 => exact uC (Kd.C_below HR0.out HB.out)); (case side2 => exact HC0.out); (case side3 => exact uC (Kd.R_reads' HO593.out).2.2); (case side4 => exact (Kd.R_reads' HO593.out).2.1); rintro e w7 ⟨v597, rfl, ho0, hb⟩; refine ⟨_, rfl, ?_⟩; have n0_ := Aside0.mk (Kd.R_below (uR HO593.out) hb); have n1_ := Aside0.mk (Kd.R_lower ho0 (below_size uB)); have n2_ := Aside0.mk (below_step uB hb); clear HO593 HB; have HO593 := n0_; have HO598 := n1_; have HB := n2_; clear n0_ n1_ n2_))
  go_ret3
  exact ⟨_, eR, uR HO598.out, uB⟩
 ·rw [if_neg c3] at H
  have c3b0 : (t591 == 0) = false := beq_eq_false_iff_ne.mpr c3
  have c3b1 : (t591 != 0) = true := bne_iff_ne.mpr c3
  simp only [Option.some.injEq, Prod.mk.injEq] at H
  obtain ⟨rfl, rfl, rfl⟩ := H
  go_enter Tryz.func12, Tryz.ntmps12
  go_wp2_with (first | ((with_reducible refine gate_callee (f := 38) rfl ?_); refine goesL_ (some 9) rfl rfl Tryz.func38 (by kernel_rfl) rfl #[.slice A0 l0.length c0] rfl aE ?_; (with_reducible refine (sais_Bytes.calls k _ _ l0 t590 t591 _ ?side1 ?side2 A2.out).mono ?_); (case side1 => exact uC HR0.out); (case side2 => exact HC0.out); rintro e w8 ⟨v592, rfl, ho0, hb⟩; refine ⟨_, rfl, ?_⟩; have n0_ := Aside0.mk (Kd.R_lower ho0 (below_size uB)); have n1_ := Aside0.mk (below_step uB hb); clear HB; have HO593 := n0_; have HB := n1_; clear n0_ n1_))
  go_ret3
  exact ⟨_, eR, nL, uB⟩
def bwt_firsts.l0 : Nat → List Int → List Int → List Int → Int → Int → Option (List Int)
  | 0, _, _, _, _, _ => none
  | k + 1, x3, x4, x15, x16, x17 => if x17 < x16 then (if 0 ≤ x17 then (if x17 < (x15.length : Int) then (if x17 < (x3.length : Int) then (if x17 < (x4.length : Int) then (bwt_firsts.l0 k (x3.set (x17 : Int).toNat x17) (x4.set (x17 : Int).toNat (wrap64 (rd x15 x17))) x15 x16 (wrap64 (x17 + 1))) else (none)) else (none)) else (none)) else (none)) else ((bucket_Pass.f k x3 x4 256).bind fun bt608 => ((rank_Inverse.f k bt608.1).bind fun bt612 => (some bt612.1)))
def bwt_firsts.f (k : Nat) (l0 : List Int) : Option (List Int) := if 0 ≤ (l0.length : Int) then (if ((l0.length : Int) : Int).toNat ≤ 35184372088832 then (bwt_firsts.l0 k (List.replicate ((l0.length : Int) : Int).toNat 0) (List.replicate ((l0.length : Int) : Int).toNat 0) l0 (l0.length : Int) 0) else (none)) else (none)
theorem bwt_firsts.calls (k : Nat) (A0 : Option Addr) (c0 : Nat) (l0 : List Int) (r : List Int) (w : World) (hr0 : Kd.C (Kd.int .u8) w A0 l0.length l0) (hc0 : l0.length ≤ c0) (h : bwt_firsts.f k l0 = some r) :
    Calls Tryz.prog 40 #[.slice A0 l0.length c0] w fun e w' => ∃ v0_ : Value, e = .returned (v0_) ∧ Kd.R (Kd.int .i64) 3 w' w.heap.size (fun _ => True) v0_ r ∧ Below w.heap.size w w' := by
 have HR0 := Aside0.mk hr0
 have HC0 := Aside0.mk hc0
 clear hr0 hc0
 have HB := Aside0.mk (Below.refl w.heap.size w)
 have H := h
 clear h
 unfold bwt_firsts.f at H
 obtain ⟨c2b0, c2b1, H⟩ := ifE H
 obtain ⟨c3b0, c3b1, H⟩ := ifE H
 obtain ⟨y599, hy599⟩ : ∃ y_ : List Int, y_ = (List.replicate ((l0.length : Int) : Int).toNat 0) := ⟨_, rfl⟩
 replace H : (bwt_firsts.l0 k y599 (List.replicate ((l0.length : Int) : Int).toNat 0) l0 (l0.length : Int) 0) = some r := by first | (rw [hy599]; with_reducible exact H) | (have H2_ := (Option.bind_some _ _).symm.trans H; rw [hy599]; with_reducible exact H2_) | (have H2_ := (Option.bind_some _ _).symm.trans H; with_reducible exact H2_) | with_reducible exact H | (rw [hy599]; exact H) | exact H
 have Ny599 := Aside0.mk hy599
 clear hy599
 generalize hy602 : (List.replicate ((l0.length : Int) : Int).toNat 0 : List Int) = y602 at H
 try simp only [Option.bind_some] at H
 have Ny602 := Aside0.mk hy602.symm
 clear hy602
 have H' := Aside0.mk H
 clear H
 go_enter Tryz.func40, Tryz.ntmps40
 go_wp2_with (first | ((with_reducible refine gate_dst (N := 11) rfl ?_); refine Kd.R_make (Kd.int .i64) _ 3 rfl (N := 11) rfl 29 _ _ rfl (l0.length : Int) rfl rfl Tryz.underlying29 (.int .i64 0) 8 info3 rfl (by decide) (by omega) 0 (ok := fun _ => True) (okp := fun _ => True) rfl (fun _ hk => hk) trivial dT (Nat.le_trans (Nat.mul_le_mul_right _ (dT : (l0.length : Int).toNat ≤ 35184372088832)) (by omega)) (Below.refl _ _) (Nat.le_refl _) ?_; intro v600 w4 ho5 hb hg_ hnew_; clear hg_ hnew_; (first | rw [← Ny599.out] at ho5 | (simp only [Int.reduceToNat] at ho5; rw [← Ny599.out] at ho5)); have n0_ := Aside0.mk (Kd.R_lower ho5 (below_size uB)); have n1_ := Aside0.mk (below_step uB hb); clear HB; have HO601 := n0_; have HB := n1_; clear n0_ n1_; clear hb ho5) | ((with_reducible refine gate_dst (N := 14) rfl ?_); refine Kd.R_make (Kd.int .i64) _ 3 rfl (N := 14) rfl 29 _ _ rfl (l0.length : Int) rfl rfl Tryz.underlying29 (.int .i64 0) 8 info3 rfl (by decide) (by omega) 0 (ok := fun _ => True) (okp := fun _ => True) rfl (fun _ hk => hk) trivial dT (Nat.le_trans (Nat.mul_le_mul_right _ (dT : (l0.length : Int).toNat ≤ 35184372088832)) (by omega)) (Below.refl _ _) (Nat.le_refl _) ?_; intro v603 w6 ho7 hb hg_ hnew_; clear hg_ hnew_; (first | rw [← Ny602.out] at ho7 | (simp only [Int.reduceToNat] at ho7; rw [← Ny602.out] at ho7)); have n0_ := Aside0.mk (Kd.R_elder' (uR HO601.out) (Kd.R_base ho7) hb); have n1_ := Aside0.mk (Kd.R_lower (Kd.R_new' ho7 (Kd.R_lt (uR HO601.out))) (below_size uB)); have n2_ := Aside0.mk (below_step uB hb); clear HO601 HB; have HO601 := n0_; have HO604 := n1_; have HB := n2_; clear n0_ n1_ n2_; clear hb ho7))
 go_loopg [17] k (fun kq v17 w' => ∃ (x3_1 : List Int) (x4_1 : List Int) (x17_1 : Int), v17 = .int .i64 x17_1 ∧ Aside0 (bwt_firsts.l0 kq x3_1 x4_1 l0 (l0.length : Int) x17_1 = some r) ∧ Aside0 (kq ≤ k) ∧ Aside0 (Kd.R (Kd.int .i64) 3 w' w.heap.size (fun k_ => some k_ ≠ (v603 : Value).ownBlock) v600 x3_1) ∧ Aside0 (Kd.R (Kd.int .i64) 3 w' w.heap.size (fun k_ => some k_ ≠ (v600 : Value).ownBlock) v603 x4_1) ∧ Aside0 (Below w.heap.size w w'))
 case atStart => exact ⟨(y599), (y602), (0), sD, H', ⟨Nat.le_refl _⟩, ⟨by (with_reducible repeat (first | apply Kd.R_alloc | apply Kd.R_drewN | apply Kd.R_drew)); exact Kd.R_mono HO601.out (fun _ hk => hk.2)⟩, ⟨by (with_reducible repeat (first | apply Kd.R_alloc | apply Kd.R_drewN | apply Kd.R_drew)); exact Kd.R_mono HO604.out (fun _ hk => hk.2)⟩, ⟨uB⟩⟩
 case round =>
  clear H'
  obtain ⟨x3_1, x4_1, x17_1, rfl, HA, HK1, HO_3, HO_4, HB⟩ := hrel
  cases gk with
  | zero => exact absurd HA.out (by simp [bwt_firsts.l0])
  | succ k1 =>
   have H := HA.out
   clear HA
   simp only [bwt_firsts.l0] at H
   rcases ifC H with ⟨c8b0, H⟩ | ⟨c8b0, H⟩
   ·obtain ⟨c9b0, H⟩ := ifD H
    obtain ⟨c10b0, c11b0, H⟩ := ifD2 H
    generalize hy606 : (x3_1.set (x17_1 : Int).toNat x17_1 : List Int) = y606 at H
    try simp only [Option.bind_some] at H
    have Ny606 := Aside0.mk hy606.symm
    clear hy606
    obtain ⟨c13b0, H⟩ := ifD H
    generalize hy607 : (x4_1.set (x17_1 : Int).toNat (wrap64 (rd l0 x17_1)) : List Int) = y607 at H
    try simp only [Option.bind_some] at H
    have Ny607 := Aside0.mk hy607.symm
    clear hy607
    have H' := Aside0.mk H
    clear H
    obtain ⟨ad605, e605, hx605_0, p605, q605⟩ := rIO HB.out HR0.out x17_1
    cases e605
    have p12 : 0 ≤ (x17_1 : Int) := dT
    have q12 : (x17_1 : Int) < ((x3_1.length : Int) : Int) := dT
    obtain ⟨go12, co12, eo12, gb12, gl12, cl12, HG12⟩ := Kd.R_form HO_3.out (by omega)
    (first | cases eo12 | (injection eo12 with ea_ en_ ec_; (first | subst ea_ | (injection ea_ with ea_; subst ea_)); subst ec_; clear en_))
    have GB12 := Aside0.mk gb12
    have GG12 := Aside0.mk HG12
    clear gb12 gl12 HG12
    obtain ⟨hx12_0, hf12_0⟩ := Kd.R_celln 0 HO_3.out (x17_1 : Int) p12 q12
    replace p12 := eq_true p12
    replace q12 := eq_true q12
    have HP15 := Kd.R_putg HO_3.out (x17_1 : Int) x17_1
    go_wp2_with (first | ((with_reducible refine gate_store (t := 3) (p := 29) rfl ?_); refine store_event (t := 3) (p := 29) (v := ?vo_w16) (w1 := (wr.setCell ⟨go12, (x17_1 : Int).toNat, none⟩ (.int .i64 x17_1))) ?hg ?ho ?hn ?hr ?_; (case ho => rfl); (case hg => rfl); (case hn => rfl); (case hr => first | (go_simp; done) | (go_simp; rfl)); intro w16 hw; have hg : wr.grownBy w16 (some go12) := (by rw [hw]; exact HP15.2); have hp_ : Kd.R (Kd.int .i64) 3 w16 w.heap.size (fun k_ => some k_ ≠ (v603 : Value).ownBlock) (.slice (some ⟨go12, 0, none⟩) x3_1.length co12) y606 := (by rw [hw, Ny606.out]; exact HP15.1); clear HP15; have n0_ := Aside0.mk (hp_); have n1_ := Aside0.mk (Kd.R_after (v := (.slice (some ⟨go12, 0, none⟩) x3_1.length co12)) (v1 := (.slice (some ⟨go12, 0, none⟩) x3_1.length co12)) (ok := (fun _ => True)) (by (with_reducible repeat (first | apply Kd.R_alloc | apply Kd.R_drewN | apply Kd.R_drew)); exact Kd.R_mono HO_4.out (fun _ hk => ⟨trivial, hk⟩)) hg (.inl rfl)); have n2_ := Aside0.mk ((by rw [hw]; exact below_set (HB.out) GB12.out : Below w.heap.size w w16)); clear HO_3 HO_4 HB; have HO_3 := n0_; have HO_4 := n1_; have HB := n2_; clear n0_ n1_ n2_; clear hg hw hp_; have p14 : 0 ≤ (x17_1 : Int) := dT; have q14 : (x17_1 : Int) < ((x4_1.length : Int) : Int) := dT; obtain ⟨go14, co14, eo14, gb14, gl14, cl14, HG14⟩ := Kd.R_form HO_4.out (by omega); (first | cases eo14 | (injection eo14 with ea_ en_ ec_; (first | subst ea_ | (injection ea_ with ea_; subst ea_)); subst ec_; clear en_)); have GB14 := Aside0.mk gb14; have GG14 := Aside0.mk HG14; clear gb14 gl14 HG14; obtain ⟨hx14_0, hf14_0⟩ := Kd.R_celln 0 HO_4.out (x17_1 : Int) p14 q14; replace p14 := eq_true p14; replace q14 := eq_true q14; have n_ := Aside0.mk (Kd.R_mono (ok' := (fun k_ => some k_ ≠ (.slice (some ⟨go12, 0, none⟩) x3_1.length co12 : Value).ownBlock)) HO_4.out (fun k_ hk => hk.2)); clear HO_4; have HO_4 := n_; clear n_; obtain ⟨hy17_, hz17_⟩ := Kd.R_celln 0 HO_4.out (x17_1 : Int) dT dT; have HP17 := Kd.R_putg HO_4.out (x17_1 : Int) (wrap64 (rd l0 x17_1))) | ((with_reducible refine gate_store (t := 3) (p := 30) rfl ?_); refine store_event (t := 3) (p := 30) (v := ?vo_w18) (w1 := (w16.setCell ⟨go14, (x17_1 : Int).toNat, none⟩ (.int .i64 (wrap64 (rd l0 x17_1))))) ?hg ?ho ?hn ?hr ?_; (case ho => rfl); (case hg => rfl); (case hn => rfl); (case hr => first | (go_simp; done) | (go_simp; rfl)); intro w18 hw; have hg : w16.grownBy w18 (some go14) := (by rw [hw]; exact HP17.2); have hp_ : Kd.R (Kd.int .i64) 3 w18 w.heap.size (fun k_ => some k_ ≠ (.slice (some ⟨go12, 0, none⟩) x3_1.length co12 : Value).ownBlock) (.slice (some ⟨go14, 0, none⟩) x4_1.length co14) y607 := (by rw [hw, Ny607.out]; exact HP17.1); clear HP17; have n0_ := Aside0.mk (Kd.R_after (v := (.slice (some ⟨go14, 0, none⟩) x4_1.length co14)) (v1 := (.slice (some ⟨go14, 0, none⟩) x4_1.length co14)) (ok := (fun _ => True)) (by (with_reducible repeat (first | apply Kd.R_alloc | apply Kd.R_drewN | apply Kd.R_drew)); exact Kd.R_mono HO_3.out (fun _ hk => ⟨trivial, hk⟩)) hg (.inl rfl)); have n1_ := Aside0.mk (hp_); have n2_ := Aside0.mk ((by rw [hw]; exact below_set (HB.out) GB14.out : Below w.heap.size w w18)); clear HO_3 HO_4 HB; have HO_3 := n0_; have HO_4 := n1_; have HB := n2_; clear n0_ n1_ n2_; clear hg hw hp_))
    go_roundg k1
    case measure => have := HK1.out; omega
    case rel => exact ⟨(y606), (y607), (wrap64 (x17_1 + 1)), sD, H', ⟨by have := HK1.out; omega⟩, ⟨by (with_reducible repeat (first | apply Kd.R_alloc | apply Kd.R_drewN | apply Kd.R_drew)); exact Kd.R_mono HO_3.out (fun _ hk => hk.2)⟩, ⟨uR HO_4.out⟩, ⟨uB⟩⟩
   ·obtain ⟨⟨t608, t609⟩, A19, H⟩ := bdS H
    try dsimp only at H
    obtain ⟨⟨t612, t613⟩, A20, H⟩ := bdS H
    try dsimp only at H
    obtain rfl := Option.some.inj H
    obtain ⟨Ao21, co21, eo21⟩ := Kd.R_slice HO_3.out
    subst eo21
    obtain ⟨Ao22, co22, eo22⟩ := Kd.R_slice HO_4.out
    subst eo22
    go_wp2_with (first | ((with_reducible refine gate_callee (f := 71) rfl ?_); refine goesL_ (some 35) rfl rfl Tryz.func71 (by kernel_rfl) rfl #[.slice Ao21 x3_1.length co21, .slice Ao22 x4_1.length co22, .int .i64 256] rfl aE ?_; (with_reducible refine (bucket_Pass.calls k1 _ _ x3_1 _ _ x4_1 256 t608 t609 _ ?side1 ?side2 ?side3 ?side4 A19.out).mono ?_); (case side1 => exact uC (Kd.R_reads' HO_3.out).2.2); (case side2 => exact (Kd.R_reads' HO_3.out).2.1); (case side3 => exact uC (Kd.R_reads' HO_4.out).2.2); (case side4 => exact (Kd.R_reads' HO_4.out).2.1); rintro e w23 ⟨v610, rfl, ho0, hb⟩; refine ⟨_, rfl, ?_⟩; have n0_ := Aside0.mk (Kd.R_elder' (uR HO_3.out) (Kd.R_base ho0) hb); have n1_ := Aside0.mk (Kd.R_elder' (uR HO_4.out) (Kd.R_base ho0) hb); have n2_ := Aside0.mk (Kd.R_lower (Kd.R_new' (Kd.R_new' ho0 (Kd.R_lt (uR HO_3.out))) (Kd.R_lt (uR HO_4.out))) (below_size uB)); have n3_ := Aside0.mk (below_step uB hb); clear HO_3 HO_4 HB; have HO_3 := n0_; have HO_4 := n1_; have HO611 := n2_; have HB := n3_; clear n0_ n1_ n2_ n3_; obtain ⟨Ao24, co24, eo24⟩ := Kd.R_slice HO611.out; subst eo24) | ((with_reducible refine gate_callee (f := 72) rfl ?_); refine goesL_ (some 40) rfl rfl Tryz.func72 (by kernel_rfl) rfl #[.slice Ao24 t608.length co24] rfl aE ?_; (with_reducible refine (rank_Inverse.calls k1 _ _ t608 t612 t613 _ ?side1 ?side2 A20.out).mono ?_); (case side1 => exact uC (Kd.R_reads' HO611.out).2.2); (case side2 => exact (Kd.R_reads' HO611.out).2.1); rintro e w25 ⟨v614, rfl, ho0, hb⟩; refine ⟨_, rfl, ?_⟩; have n0_ := Aside0.mk (Kd.R_elder' (uR HO_3.out) (Kd.R_base ho0) hb); have n1_ := Aside0.mk (Kd.R_elder' (uR HO_4.out) (Kd.R_base ho0) hb); have n2_ := Aside0.mk (Kd.R_elder' (uR HO611.out) (Kd.R_base ho0) hb); have n3_ := Aside0.mk (Kd.R_lower (Kd.R_new' (Kd.R_new' (Kd.R_new' ho0 (Kd.R_lt (uR HO_3.out))) (Kd.R_lt (uR HO_4.out))) (Kd.R_lt (uR HO611.out))) (below_size uB)); have n4_ := Aside0.mk (below_step uB hb); clear HO_3 HO_4 HO611 HB; have HO_3 := n0_; have HO_4 := n1_; have HO611 := n2_; have HO615 := n3_; have HB := n4_; clear n0_ n1_ n2_ n3_ n4_))
    go_ret
    exact ⟨_, eR, by (with_reducible repeat (first | apply Kd.R_alloc | apply Kd.R_drewN | apply Kd.R_drew)); exact Kd.R_mono HO615.out (fun _ hk => trivial), uB⟩
mutual
def bwt_Back.j0 : Nat → List Int → Int → Int → Bool → Option (List Int × Int)
  | 0, _, _, _, _ => none
  | k + 1, x0, x1, x6, x26 => if x26 = true then (some (([] : List Int), 5)) else ((bwt_firsts.f k x0).bind fun t616 => (if 0 ≤ x6 then (if (x6 : Int).toNat ≤ 281474976710656 then (bwt_Back.l0 k x0 x1 t616 (List.replicate (x6 : Int).toNat 0) 0 (wrap64 (x6 - 1))) else (none)) else (none)))
def bwt_Back.l0 : Nat → List Int → Int → List Int → List Int → Int → Int → Option (List Int × Int)
  | 0, _, _, _, _, _, _ => none
  | k + 1, x0, x1, x7, x8, x9, x10 => if x10 ≥ 0 then (if x9 = x1 then (some (([] : List Int), 5)) else (if x9 > x1 then (if 0 ≤ (wrap64 (x9 - 1)) then (if (wrap64 (x9 - 1)) < (x0.length : Int) then (if 0 ≤ x10 then (if x10 < (x8.length : Int) then (if (wrap64 (x9 - 1)) < (x7.length : Int) then (bwt_Back.l0 k x0 x1 x7 (x8.set (x10 : Int).toNat (rd x0 (wrap64 (x9 - 1)))) (wrap64 ((rd x7 (wrap64 (x9 - 1))) + 1)) (wrap64 (x10 - 1))) else (none)) else (none)) else (none)) else (none)) else (none)) else (if 0 ≤ x9 then (if x9 < (x0.length : Int) then (if 0 ≤ x10 then (if x10 < (x8.length : Int) then (if x9 < (x7.length : Int) then (bwt_Back.l0 k x0 x1 x7 (x8.set (x10 : Int).toNat (rd x0 x9)) (wrap64 ((rd x7 x9) + 1)) (wrap64 (x10 - 1))) else (none)) else (none)) else (none)) else (none)) else (none)))) else (if x9 = x1 then (some (x8, 0)) else (some (([] : List Int), 5)))
end
def bwt_Back.f (k : Nat) (l0 : List Int) (a1 : Int) : Option (List Int × Int) := if (l0.length : Int) > 100000 then (bwt_Back.j0 k l0 a1 (l0.length : Int) true) else (if a1 < (mn (l0.length : Int) 1) then (bwt_Back.j0 k l0 a1 (l0.length : Int) true) else (bwt_Back.j0 k l0 a1 (l0.length : Int) (decide (a1 > (l0.length : Int)))))
theorem bwt_Back.calls (k : Nat) (A0 : Option Addr) (c0 : Nat) (l0 : List Int) (a1 : Int) (r1 : List Int) (r2 : Int) (w : World) (hr0 : Kd.C (Kd.int .u8) w A0 l0.length l0) (hc0 : l0.length ≤ c0) (h : bwt_Back.f k l0 a1 = some (r1, r2)) :
    Calls Tryz.prog 13 #[.slice A0 l0.length c0, .int .i64 a1] w fun e w' => ∃ v0_ : Value, e = .returned (.tuple #[v0_, .int .i64 r2]) ∧ Kd.R (Kd.int .u8) 5 w' w.heap.size (fun _ => True) v0_ r1 ∧ Below w.heap.size w w' := by
 have HR0 := Aside0.mk hr0
 have HC0 := Aside0.mk hc0
 clear hr0 hc0
 have HB := Aside0.mk (Below.refl w.heap.size w)
 have H := h
 clear h
 unfold bwt_Back.f at H
 have HC3 := Aside0.mk H
 clear H
 go_enter Tryz.func13, Tryz.ntmps13
 go_upto_region 2 with (fail)
 go_cut [26] (fun v26 wc => ∃ (kq : Nat) (x26_2 : Bool), v26 = .bool x26_2 ∧ Aside0 (bwt_Back.j0 kq l0 a1 (l0.length : Int) x26_2 = some (r1, r2)) ∧ Aside0 (kq ≤ k) ∧ Aside0 (Below w.heap.size w wc))
 case first =>
  have H := HC3.out
  clear HC3
  by_cases c4 : (l0.length : Int) > 100000
  ·rw [if_pos c4] at H
   have c4b0 : decide (100000 < (l0.length : Int)) = true := decide_eq_true c4
   have c4b1 : decide (100000 < l0.length) = true := decide_eq_true (by omega)
   clear c4
   (first | rw [c4b0] | (simp only [i64_w, i32_w]; rw [c4b0]) | skip)
   have H' := Aside0.mk H
   clear H
   go_wp2
   go_meet
   case rel => exact ⟨_, (true), sD, H', ⟨by first | omega | exact Nat.le_refl _⟩, ⟨uB⟩⟩
  ·rw [if_neg c4] at H
   have c4b0 : decide (100000 < (l0.length : Int)) = false := decide_eq_false c4
   have c4b1 : decide (100000 < l0.length) = false := decide_eq_false (by omega)
   clear c4
   (first | rw [c4b0] | (simp only [i64_w, i32_w]; rw [c4b0]) | skip)
   obtain ⟨ji5, hji5⟩ : ∃ j_ : Int, (mn (l0.length : Int) 1) = j_ := ⟨_, rfl⟩
   first | rw [hji5] at H | simp only [hji5] at H
   (try (have hji5h : ji5 ≤ 1 := by (rw [← hji5]; unfold mn; (repeat' split) <;> omega)))
   (try (have hji5g : ji5 ≤ 64 := by omega))
   (try (have hji5l : 0 ≤ ji5 := by (rw [← hji5]; unfold mn; (repeat' split) <;> omega)))
   (try (have hji5m : 0 ≤ ji5 := by omega))
   have hji5_ : (if 1 < (l0.length : Int) then 1 else (l0.length : Int)) = ji5 := hji5
   rcases ifC H with ⟨c6b0, H⟩ | ⟨c6b0, H⟩
   ·have H' := Aside0.mk H
    clear H
    go_wp2
    go_meet
    case rel => exact ⟨_, (true), sD, H', ⟨by first | omega | exact Nat.le_refl _⟩, ⟨uB⟩⟩
   ·have H' := Aside0.mk H
    clear H
    go_wp2
    go_meet
    case rel => exact ⟨_, (decide (a1 > (l0.length : Int))), sD, H', ⟨by first | omega | exact Nat.le_refl _⟩, ⟨uB⟩⟩
 case rest =>
  clear HC3
  obtain ⟨kq, x26_2, rfl, HA, HJ2, HB⟩ := hcut
  cases kq with
  | zero => exact absurd HA.out (by simp [bwt_Back.j0])
  | succ kj2 =>
   have H := HA.out
   clear HA
   simp only [bwt_Back.j0] at H
   by_cases c7 : x26_2 = true
   ·subst c7
    rw [if_pos rfl] at H
    simp only [Option.some.injEq, Prod.mk.injEq] at H
    obtain ⟨rfl, rfl⟩ := H
    go_wp2
    go_ret2
    exact ⟨_, eR, nL, uB⟩
   ·replace c7 := Bool.eq_false_iff.mpr c7
    subst c7
    rw [if_neg (by decide)] at H
    obtain ⟨t616, A8, H⟩ := bdS H
    try dsimp only at H
    obtain ⟨c9b0, c9b1, H⟩ := ifE H
    obtain ⟨c10b0, c10b1, H⟩ := ifE H
    generalize hy619 : (List.replicate ((l0.length : Int) : Int).toNat 0 : List Int) = y619 at H
    try simp only [Option.bind_some] at H
    have Ny619 := Aside0.mk hy619.symm
    clear hy619
    have H' := Aside0.mk H
    clear H
    go_wp2_with (first | ((with_reducible refine gate_callee (f := 40) rfl ?_); refine goesL_ (some 28) rfl rfl Tryz.func40 (by kernel_rfl) rfl #[.slice A0 l0.length c0] rfl aE ?_; (with_reducible refine (bwt_firsts.calls kj2 _ _ l0 t616 _ ?side1 ?side2 A8.out).mono ?_); (case side1 => exact uC (Kd.C_below HR0.out HB.out)); (case side2 => exact HC0.out); rintro e w11 ⟨v617, rfl, ho0, hb⟩; refine ⟨_, rfl, ?_⟩; have n0_ := Aside0.mk (Kd.R_lower ho0 (below_size uB)); have n1_ := Aside0.mk (below_step uB hb); clear HB; have HO618 := n0_; have HB := n1_; clear n0_ n1_) | ((with_reducible refine gate_dst (N := 30) rfl ?_); (try (refine gate_guard (by rfl) ?_; dsimp only)); refine Kd.R_make (Kd.int .u8) _ 5 rfl (N := 30) rfl 22 _ _ rfl (l0.length : Int) rfl rfl Tryz.underlying22 (.int .u8 0) 1 info5 rfl (by decide) (by omega) 0 (ok := fun _ => True) (okp := fun _ => True) rfl (fun _ hk => hk) trivial dT (Nat.le_trans (Nat.mul_le_mul_right _ (dT : (l0.length : Int).toNat ≤ 281474976710656)) (by omega)) (Below.refl _ _) (Nat.le_refl _) ?_; intro v620 w12 ho13 hb hg_ hnew_; clear hg_ hnew_; (first | rw [← Ny619.out] at ho13 | (simp only [Int.reduceToNat] at ho13; rw [← Ny619.out] at ho13)); have n0_ := Aside0.mk (Kd.R_below (uR HO618.out) hb); have n1_ := Aside0.mk (Kd.R_lower ho13 (below_size uB)); have n2_ := Aside0.mk (below_step uB hb); clear HO618 HB; have HO618 := n0_; have HO621 := n1_; have HB := n2_; clear n0_ n1_ n2_; clear hb ho13))
    go_loopg [9, 10] kj2 (fun kq v9 v10 w' => ∃ (x8_2 : List Int) (x9_2 : Int) (x10_2 : Int), v9 = .int .i64 x9_2 ∧ v10 = .int .i64 x10_2 ∧ Aside0 (bwt_Back.l0 kq l0 a1 t616 x8_2 x9_2 x10_2 = some (r1, r2)) ∧ Aside0 (kq ≤ kj2) ∧ Aside0 (Kd.R (Kd.int .i64) 3 w' w.heap.size (fun _ => True) v617 t616) ∧ Aside0 (Kd.R (Kd.int .u8) 5 w' w.heap.size (fun _ => True) v620 x8_2) ∧ Aside0 (Below w.heap.size w w'))
    case atStart => exact ⟨(y619), (0), (wrap64 ((l0.length : Int) - 1)), sD, sD, H', ⟨Nat.le_refl _⟩, ⟨uR HO618.out⟩, ⟨uR HO621.out⟩, ⟨uB⟩⟩
    case round =>
     clear H'
     obtain ⟨x8_2, x9_2, x10_2, rfl, rfl, HA, HK2, HO_7, HO_8, HB⟩ := hrel
     cases gk with
     | zero => exact absurd HA.out (by simp [bwt_Back.l0])
     | succ k2 =>
      have H := HA.out
      clear HA
      simp only [bwt_Back.l0] at H
      rcases ifG H with ⟨c14b0, H⟩ | ⟨c14b0, H⟩
      ·by_cases c15 : x9_2 = a1
       ·rw [if_pos c15] at H
        have c15b0 : (x9_2 == a1) = true := beq_iff_eq.mpr c15
        have c15b1 : (x9_2 != a1) = false := bne_eq_false_iff_eq.mpr c15
        clear c15
        simp only [Option.some.injEq, Prod.mk.injEq] at H
        obtain ⟨rfl, rfl⟩ := H
        go_wp2
        go_ret2
        exact ⟨_, eR, nL, uB⟩
       ·rw [if_neg c15] at H
        have c15b0 : (x9_2 == a1) = false := beq_eq_false_iff_ne.mpr c15
        have c15b1 : (x9_2 != a1) = true := bne_iff_ne.mpr c15
        rcases ifK H with ⟨c16b0, H⟩ | ⟨c16b0, H⟩
        ·obtain ⟨ji17, hji17⟩ : ∃ j_ : Int, (wrap64 (x9_2 - 1)) = j_ := ⟨_, rfl⟩
         first | rw [hji17] at H | simp only [hji17] at H
         have hji17w : (IntKind.i64.wrap (x9_2 - 1)) = ji17 := (i64_w _).trans hji17
         obtain ⟨c18b0, c19b0, H⟩ := ifD2 H
         obtain ⟨c20b0, c21b0, H⟩ := ifD2 H
         generalize hy623 : (x8_2.set (x10_2 : Int).toNat (rd l0 (ji17)) : List Int) = y623 at H
         try simp only [Option.bind_some] at H
         have Ny623 := Aside0.mk hy623.symm
         clear hy623
         obtain ⟨c23b0, H⟩ := ifD H
         have H' := Aside0.mk H
         clear H
         obtain ⟨ad622, e622, hx622_0, p622, q622⟩ := rIO HB.out HR0.out (ji17)
         cases e622
         have p22 : 0 ≤ (x10_2 : Int) := dT
         have q22 : (x10_2 : Int) < ((x8_2.length : Int) : Int) := dT
         obtain ⟨go22, co22, eo22, gb22, gl22, cl22, HG22⟩ := Kd.R_form HO_8.out (by omega)
         (first | cases eo22 | (injection eo22 with ea_ en_ ec_; (first | subst ea_ | (injection ea_ with ea_; subst ea_)); subst ec_; clear en_))
         have GB22 := Aside0.mk gb22
         have GG22 := Aside0.mk HG22
         clear gb22 gl22 HG22
         obtain ⟨hx22_0, hf22_0⟩ := Kd.R_celln 0 HO_8.out (x10_2 : Int) p22 q22
         replace p22 := eq_true p22
         replace q22 := eq_true q22
         have HP24 := Kd.R_putg HO_8.out (x10_2 : Int) (rd l0 (ji17))
         go_wp2_with (first | ((with_reducible refine gate_store (t := 5) (p := 54) rfl ?_); refine store_event (t := 5) (p := 54) (v := ?vo_w25) (w1 := (wr.setCell ⟨go22, (x10_2 : Int).toNat, none⟩ (.int .u8 (rd l0 (ji17))))) ?hg ?ho ?hn ?hr ?_; (case ho => rfl); (case hg => rfl); (case hn => rfl); (case hr => first | (go_simp; done) | (go_simp; rfl)); intro w25 hw; have hg : wr.grownBy w25 (some go22) := (by rw [hw]; exact HP24.2); have hp_ : Kd.R (Kd.int .u8) 5 w25 w.heap.size (fun _ => True) (.slice (some ⟨go22, 0, none⟩) x8_2.length co22) y623 := (by rw [hw, Ny623.out]; exact HP24.1); clear HP24; have n0_ := Aside0.mk (Kd.R_over' (v := (.slice (some ⟨go22, 0, none⟩) x8_2.length co22)) (uR HO_7.out) (Kd.R_typed HO_8.out) (by decide) hg); have n1_ := Aside0.mk (hp_); have n2_ := Aside0.mk ((by rw [hw]; exact below_set (HB.out) GB22.out : Below w.heap.size w w25)); clear HO_7 HO_8 HB; have HO_7 := n0_; have HO_8 := n1_; have HB := n2_; clear n0_ n1_ n2_; clear hg hw hp_; obtain ⟨Ao26, co26, eo26⟩ := Kd.R_slice HO_7.out; subst eo26; have p624 : 0 ≤ ((ji17) : Int) := dT; have q624 : (ji17) < (t616.length : Int) := dT; obtain ⟨ad624, e624, hx624_0⟩ := Kd.at_int (Kd.R_reads' HO_7.out).2.2 (ji17) p624 q624; cases e624; replace p624 := eq_true p624; replace q624 := eq_true q624))
         go_roundg k2
         case measure => have := HJ2.out; have := HK2.out; omega
         case rel => exact ⟨(y623), (wrap64 ((rd t616 (ji17)) + 1)), (wrap64 (x10_2 - 1)), (by first | rfl | (simp; done) | (simp only [← hji17] <;> (first | rfl | simp)) | (simp [*]; done)), sD, H', ⟨by have := HJ2.out; have := HK2.out; omega⟩, ⟨uR HO_7.out⟩, ⟨uR HO_8.out⟩, ⟨uB⟩⟩
        ·obtain ⟨c27b0, c28b0, H⟩ := ifD2 H
         obtain ⟨c29b0, c30b0, H⟩ := ifD2 H
         generalize hy626 : (x8_2.set (x10_2 : Int).toNat (rd l0 x9_2) : List Int) = y626 at H
         try simp only [Option.bind_some] at H
         have Ny626 := Aside0.mk hy626.symm
         clear hy626
         obtain ⟨c32b0, H⟩ := ifD H
         have H' := Aside0.mk H
         clear H
         obtain ⟨ad625, e625, hx625_0, p625, q625⟩ := rIO HB.out HR0.out x9_2
         cases e625
         have p31 : 0 ≤ (x10_2 : Int) := dT
         have q31 : (x10_2 : Int) < ((x8_2.length : Int) : Int) := dT
         obtain ⟨go31, co31, eo31, gb31, gl31, cl31, HG31⟩ := Kd.R_form HO_8.out (by omega)
         (first | cases eo31 | (injection eo31 with ea_ en_ ec_; (first | subst ea_ | (injection ea_ with ea_; subst ea_)); subst ec_; clear en_))
         have GB31 := Aside0.mk gb31
         have GG31 := Aside0.mk HG31
         clear gb31 gl31 HG31
         obtain ⟨hx31_0, hf31_0⟩ := Kd.R_celln 0 HO_8.out (x10_2 : Int) p31 q31
         replace p31 := eq_true p31
         replace q31 := eq_true q31
         have HP33 := Kd.R_putg HO_8.out (x10_2 : Int) (rd l0 x9_2)
         go_wp2_with (first | ((with_reducible refine gate_store (t := 5) (p := 54) rfl ?_); refine store_event (t := 5) (p := 54) (v := ?vo_w34) (w1 := (wr.setCell ⟨go31, (x10_2 : Int).toNat, none⟩ (.int .u8 (rd l0 x9_2)))) ?hg ?ho ?hn ?hr ?_; (case ho => rfl); (case hg => rfl); (case hn => rfl); (case hr => first | (go_simp; done) | (go_simp; rfl)); intro w34 hw; have hg : wr.grownBy w34 (some go31) := (by rw [hw]; exact HP33.2); have hp_ : Kd.R (Kd.int .u8) 5 w34 w.heap.size (fun _ => True) (.slice (some ⟨go31, 0, none⟩) x8_2.length co31) y626 := (by rw [hw, Ny626.out]; exact HP33.1); clear HP33; have n0_ := Aside0.mk (Kd.R_over' (v := (.slice (some ⟨go31, 0, none⟩) x8_2.length co31)) (uR HO_7.out) (Kd.R_typed HO_8.out) (by decide) hg); have n1_ := Aside0.mk (hp_); have n2_ := Aside0.mk ((by rw [hw]; exact below_set (HB.out) GB31.out : Below w.heap.size w w34)); clear HO_7 HO_8 HB; have HO_7 := n0_; have HO_8 := n1_; have HB := n2_; clear n0_ n1_ n2_; clear hg hw hp_; obtain ⟨Ao35, co35, eo35⟩ := Kd.R_slice HO_7.out; subst eo35; have p627 : 0 ≤ (x9_2 : Int) := dT; have q627 : x9_2 < (t616.length : Int) := dT; obtain ⟨ad627, e627, hx627_0⟩ := Kd.at_int (Kd.R_reads' HO_7.out).2.2 x9_2 p627 q627; cases e627; replace p627 := eq_true p627; replace q627 := eq_true q627))
         go_roundg k2
         case measure => have := HJ2.out; have := HK2.out; omega
         case rel => exact ⟨(y626), (wrap64 ((rd t616 x9_2) + 1)), (wrap64 (x10_2 - 1)), sD, sD, H', ⟨by have := HJ2.out; have := HK2.out; omega⟩, ⟨uR HO_7.out⟩, ⟨uR HO_8.out⟩, ⟨uB⟩⟩
      ·by_cases c36 : x9_2 = a1
       ·rw [if_pos c36] at H
        have c36b0 : (x9_2 == a1) = true := beq_iff_eq.mpr c36
        have c36b1 : (x9_2 != a1) = false := bne_eq_false_iff_eq.mpr c36
        clear c36
        simp only [Option.some.injEq, Prod.mk.injEq] at H
        obtain ⟨rfl, rfl⟩ := H
        go_wp2
        go_ret2
        exact ⟨_, eR, uR HO_8.out, uB⟩
       ·rw [if_neg c36] at H
        have c36b0 : (x9_2 == a1) = false := beq_eq_false_iff_ne.mpr c36
        have c36b1 : (x9_2 != a1) = true := bne_iff_ne.mpr c36
        simp only [Option.some.injEq, Prod.mk.injEq] at H
        obtain ⟨rfl, rfl⟩ := H
        go_wp2
        go_ret2
        exact ⟨_, eR, nL, uB⟩
mutual
def lf_Cycles.l0 : Nat → List Int → List Bool → List (List Int) → Int → Int → Option ((List (List Int)) × Bool)
  | 0, _, _, _, _, _ => none
  | k + 1, x0, x4, x5, x17, x18 => if x18 < x17 then (lf_Cycles.l1 k x0 x4 x5 ([] : List Int) x18 x17 x18) else (some (x5, true))
def lf_Cycles.l1 : Nat → List Int → List Bool → List (List Int) → List Int → Int → Int → Int → Option ((List (List Int)) × Bool)
  | 0, _, _, _, _, _, _, _ => none
  | k + 1, x0, x4, x5, x7, x8, x17, x18 => if 0 ≤ x8 then (if x8 < (x4.length : Int) then (if rdOf false x4 x8 = true then (if (x7.length : Int) > 0 then (if x5.length < 5864062014805 then (lf_Cycles.l0 k x0 x4 (x5 ++ [x7]) x17 (wrap64 (x18 + 1))) else (none)) else (lf_Cycles.l0 k x0 x4 x5 x17 (wrap64 (x18 + 1)))) else (if x7.length < 17592186044416 then (if x8 < (x0.length : Int) then (lf_Cycles.l1 k x0 (x4.set (x8 : Int).toNat true) x5 (x7 ++ [x8]) (rd x0 x8) x17 x18) else (none)) else (none))) else (none)) else (none)
end
def lf_Cycles.f (k : Nat) (l0 : List Int) : Option ((List (List Int)) × Bool) := (rank_Is.f k l0).bind fun t628 => (if t628 = true then (if 0 ≤ (l0.length : Int) then (if ((l0.length : Int) : Int).toNat ≤ 281474976710656 then (lf_Cycles.l0 k l0 (List.replicate ((l0.length : Int) : Int).toNat false) (([] : List (List Int))) (l0.length : Int) 0) else (none)) else (none)) else (some (([] : List (List Int)), false)))
theorem lf_Cycles.calls (k : Nat) (A0 : Option Addr) (c0 : Nat) (l0 : List Int) (r1 : List (List Int)) (r2 : Bool) (w : World) (hr0 : Kd.C (Kd.int .i64) w A0 l0.length l0) (hc0 : l0.length ≤ c0) (h : lf_Cycles.f k l0 = some (r1, r2)) :
    Calls Tryz.prog 41 #[.slice A0 l0.length c0] w fun e w' => ∃ v0_ : Value, e = .returned (.tuple #[v0_, .bool r2]) ∧ Kd.S (Kd.slice 3 (Kd.int .i64)) 29 w' w.heap.size (fun _ => True) v0_ r1 ∧ Below w.heap.size w w' := by
 have HR0 := Aside0.mk hr0
 have HC0 := Aside0.mk hc0
 clear hr0 hc0
 have HB := Aside0.mk (Below.refl w.heap.size w)
 have H := h
 clear h
 unfold lf_Cycles.f at H
 obtain ⟨t628, A2, H⟩ := bdS H
 try dsimp only at H
 by_cases c3 : t628 = true
 ·subst c3
  rw [if_pos rfl] at H
  obtain ⟨c4b0, c4b1, H⟩ := ifE H
  obtain ⟨c5b0, c5b1, H⟩ := ifE H
  generalize hy629 : (List.replicate ((l0.length : Int) : Int).toNat false : List Bool) = y629 at H
  try simp only [Option.bind_some] at H
  have Ny629 := Aside0.mk hy629.symm
  clear hy629
  generalize hy632 : (([] : List (List Int)) : List (List Int)) = y632 at H
  try simp only [Option.bind_some] at H
  have Ny632 := Aside0.mk hy632.symm
  clear hy632
  have H' := Aside0.mk H
  clear H
  go_enter Tryz.func41, Tryz.ntmps41
  go_wp2_with (first | ((with_reducible refine gate_callee (f := 70) rfl ?_); refine goesL_ (some 10) rfl rfl Tryz.func70 (by kernel_rfl) rfl #[.slice A0 l0.length c0] rfl aE ?_; (with_reducible refine (rank_Is.calls k _ _ l0 true _ ?side1 ?side2 A2.out).mono ?_); (case side1 => exact uC HR0.out); (case side2 => exact HC0.out); rintro e w6 ⟨rfl, hb⟩; refine ⟨_, rfl, ?_⟩; have n0_ := Aside0.mk (below_step uB hb); clear HB; have HB := n0_; clear n0_) | ((with_reducible refine gate_dst (N := 14) rfl ?_); refine Kd.R_make Kd.bool _ 4 rfl (N := 14) rfl 122 _ _ rfl (l0.length : Int) rfl rfl Tryz.underlying122 (.bool false) 1 info4 rfl (by decide) (by omega) false (ok := fun _ => True) (okp := fun _ => True) rfl (fun _ hk => hk) trivial dT (Nat.le_trans (Nat.mul_le_mul_right _ (dT : (l0.length : Int).toNat ≤ 281474976710656)) (by omega)) (Below.refl _ _) (Nat.le_refl _) ?_; intro v630 w7 ho8 hb hg_ hnew_; clear hg_ hnew_; (first | rw [← Ny629.out] at ho8 | (simp only [Int.reduceToNat] at ho8; rw [← Ny629.out] at ho8)); have n0_ := Aside0.mk (Kd.R_lower ho8 (below_size uB)); have n1_ := Aside0.mk (below_step uB hb); clear HB; have HO631 := n0_; have HB := n1_; clear n0_ n1_; clear hb ho8) | ((with_reducible refine gate_dst (N := 15) rfl ?_); refine Kd.S_lit (Kd.slice 3 (Kd.int .i64)) _ 29 ?hg (N := 15) ?hd (xs := ([] : List (List Int))) (inner := []) (ok := fun _ => True) (okp := fun _ => True) ?hr ?hp (fun _ hk => hk) trivial (Below.refl _ _) (Nat.le_refl _) (by simp) ?_; (case hd => rfl); (case hg => rfl); (case hr => first | (go_simp; done) | (go_simp; rfl)); (case hp => exact (Reps.none _ _)); intro v633 w9 ho10 hb hg_ hnew_; clear hg_ hnew_; (first | rw [← Ny632.out] at ho10 | (simp only [Int.reduceToNat] at ho10; rw [← Ny632.out] at ho10)); have n0_ := Aside0.mk (Kd.R_below (uR HO631.out) hb); have n1_ := Aside0.mk (Kd.S_lower ho10 (below_size uB)); have n2_ := Aside0.mk (below_step uB hb); clear HO631 HB; have HO631 := n0_; have HO634 := n1_; have HB := n2_; clear n0_ n1_ n2_; clear hb ho10))
  go_loopg [5, 18] k (fun kq v5 v18 w' => ∃ (x4_1 : List Bool) (x5_1 : List (List Int)) (x18_1 : Int), v18 = .int .i64 x18_1 ∧ Aside0 (lf_Cycles.l0 kq l0 x4_1 x5_1 (l0.length : Int) x18_1 = some (r1, r2)) ∧ Aside0 (kq ≤ k) ∧ Aside0 (Kd.R Kd.bool 4 w' w.heap.size (fun _ => True) v630 x4_1) ∧ Aside0 (Kd.S (Kd.slice 3 (Kd.int .i64)) 29 w' w.heap.size (fun _ => True) v5 x5_1) ∧ Aside0 (Below w.heap.size w w'))
  case atStart => exact ⟨(y629), (y632), (0), sD, H', ⟨Nat.le_refl _⟩, ⟨uR HO631.out⟩, ⟨by (with_reducible repeat (first | apply Kd.S_alloc | apply Kd.S_drewN | apply Kd.S_drew)); exact HO634.out⟩, ⟨uB⟩⟩
  case round =>
   clear H'
   obtain ⟨x4_1, x5_1, x18_1, rfl, HA, HK1, HO_4, HO_5, HB⟩ := hrel
   cases gk with
   | zero => exact absurd HA.out (by simp [lf_Cycles.l0])
   | succ k1 =>
    have H := HA.out
    clear HA
    simp only [lf_Cycles.l0] at H
    rcases ifC H with ⟨c11b0, H⟩ | ⟨c11b0, H⟩
    ·have H' := Aside0.mk H
     clear H
     go_wp2
     go_loopg [7, 8] k1 (fun kq v7 v8 w' => ∃ (x4_2 : List Bool) (x7_2 : List Int) (x8_2 : Int), v8 = .int .i64 x8_2 ∧ Aside0 (lf_Cycles.l1 kq l0 x4_2 x5_1 x7_2 x8_2 (l0.length : Int) x18_1 = some (r1, r2)) ∧ Aside0 (kq ≤ k1) ∧ Aside0 (Kd.R Kd.bool 4 w' w.heap.size (fun _ => True) v630 x4_2) ∧ Aside0 (Kd.S (Kd.slice 3 (Kd.int .i64)) 29 w' w.heap.size (fun k_ => some k_ ≠ (v7 : Value).ownBlock) u5 x5_1) ∧ Aside0 (Kd.R (Kd.int .i64) 3 w' w.heap.size (fun _ => True) v7 x7_2) ∧ Aside0 (Below w.heap.size w w'))
     case atStart => exact ⟨(x4_1), (([] : List Int)), (x18_1), sD, H', ⟨Nat.le_refl _⟩, ⟨uR HO_4.out⟩, ⟨by (with_reducible repeat (first | apply Kd.S_alloc | apply Kd.S_drewN | apply Kd.S_drew)); exact Kd.S_mono HO_5.out (fun _ hk => (by simp [Value.ownBlock]))⟩, ⟨nL⟩, ⟨uB⟩⟩
     case round =>
      clear H'
      obtain ⟨x4_2, x7_2, x8_2, rfl, HA, HK2, HO_4, HO_5, HO_7, HB⟩ := hrel
      cases gk with
      | zero => exact absurd HA.out (by simp [lf_Cycles.l1])
      | succ k2 =>
       have H := HA.out
       clear HA
       simp only [lf_Cycles.l1] at H
       obtain ⟨c12b0, c13b0, H⟩ := ifD2 H
       obtain ⟨bq14, hbq14⟩ : ∃ b_ : Bool, b_ = (rdOf false x4_2 x8_2) := ⟨_, rfl⟩
       replace H : (if bq14 = true then (if (x7_2.length : Int) > 0 then (if x5_1.length < 5864062014805 then (lf_Cycles.l0 k2 l0 x4_2 (x5_1 ++ [x7_2]) (l0.length : Int) (wrap64 (x18_1 + 1))) else (none)) else (lf_Cycles.l0 k2 l0 x4_2 x5_1 (l0.length : Int) (wrap64 (x18_1 + 1)))) else (if x7_2.length < 17592186044416 then (if x8_2 < (l0.length : Int) then (lf_Cycles.l1 k2 l0 (x4_2.set (x8_2 : Int).toNat true) x5_1 (x7_2 ++ [x8_2]) (rd l0 x8_2) (l0.length : Int) x18_1) else (none)) else (none))) = some (r1, r2) := by rw [← hbq14] at H; exact H
       have Nbq14 := Aside0.mk hbq14
       clear hbq14
       by_cases c15 : bq14 = true
       ·subst c15
        rw [if_pos rfl] at H
        by_cases c16 : (x7_2.length : Int) > 0
        ·rw [if_pos c16] at H
         have c16b0 : decide (0 < (x7_2.length : Int)) = true := decide_eq_true c16
         have c16b1 : decide (0 < x7_2.length) = true := decide_eq_true (by omega)
         clear c16
         obtain ⟨c17, H⟩ := ifP H
         have LMc17 := Aside0.mk c17
         clear c17
         generalize hy636 : (x5_1 ++ [x7_2] : List (List Int)) = y636 at H
         try simp only [Option.bind_some] at H
         have Ny636 := Aside0.mk hy636.symm
         clear hy636
         have H' := Aside0.mk H
         clear H
         obtain ⟨Ao18, co18, eo18⟩ := Kd.R_slice HO_4.out
         subst eo18
         have p635 : 0 ≤ (x8_2 : Int) := dT
         have q635 : x8_2 < (x4_2.length : Int) := dT
         obtain ⟨ad635, e635, hx635_0⟩ := Kd.at_bool (Kd.R_reads' HO_4.out).2.2 x8_2 p635 q635
         (try rw [← Nbq14.out] at hx635_0)
         cases e635
         replace p635 := eq_true p635
         replace q635 := eq_true q635
         obtain ⟨Ao19, co19, eo19⟩ := Kd.R_slice HO_7.out
         subst eo19
         go_wp2_with (first | ((with_reducible refine gate_builtin (b := .append) (xs := #[.tmp 41, .tmp 43]) rfl ?_); at_builtin; refine Kd.S_append (Kd.slice 3 (Kd.int .i64)) (w0 := w) w.heap.size rfl (.tmp 41) (.tmp 43) 72 29 (.slice none 0 0) 24 rfl Tryz.underlying72 info29 rfl (by decide) (by omega) u5 x5_1 x7_2 [.slice Ao19 x7_2.length co19] (fun _ => True) (fun k_ => some k_ = (.slice Ao19 x7_2.length co19 : Value).ownBlock) rfl rfl ?aP (fun k_ hk_ => ((Kd.R_mono (ok' := fun k_ => ((fun _ => True)) k_ ∧ some k_ ≠ (u5 : Value).ownBlock) (Kd.R_apart' (HO_7.out) (Kd.S_typed HO_5.out) (by decide)) (fun k_ hk => ⟨trivial, hk.2⟩))).1 k_ hk_.symm) ?aF ?aO ?aB ?aS ?aL ?_; (case aP => exact Kd.M_row (Kd.R_mono (Kd.R_tight rfl (Kd.R_mono (ok' := fun k_ => ((fun _ => True)) k_ ∧ some k_ ≠ (u5 : Value).ownBlock) (Kd.R_apart' (HO_7.out) (Kd.S_typed HO_5.out) (by decide)) (fun k_ hk => ⟨trivial, hk.2⟩))) (fun _ h_ => h_))); (case aB => exact uB); (case aF => exact (fun _ _ => trivial)); (case aO => exact (by (with_reducible repeat (first | apply Kd.S_alloc | apply Kd.S_drewN | apply Kd.S_drew)); exact Kd.S_mono HO_5.out (fun k_ hk => ⟨trivial, fun e_ => hk e_⟩))); (case aS => exact (below_size uB)); (case aL => have := LMc17.out; omega); intro v637 w20 ho hb hg hat; rw [← Ny636.out] at ho; have n0_ := Aside0.mk (Kd.R_over' (uR HO_4.out) (Kd.S_typed (by (with_reducible repeat (first | apply Kd.S_alloc | apply Kd.S_drewN | apply Kd.S_drew)); exact HO_5.out)) (by decide) hg); have n1_ := Aside0.mk (hb); have n2_ := Aside0.mk (ho); clear HO_4 HB HO_5 HO_7; have HO_4 := n0_; have HB := n1_; have HO638 := n2_; clear n0_ n1_ n2_; clear ho hb hg hat))
         go_roundg k2
         case measure => have := HK1.out; have := HK2.out; omega
         case rel => exact ⟨(x4_2), (y636), (wrap64 (x18_1 + 1)), sD, H', ⟨by have := HK1.out; have := HK2.out; omega⟩, ⟨uR HO_4.out⟩, ⟨by (with_reducible repeat (first | apply Kd.S_alloc | apply Kd.S_drewN | apply Kd.S_drew)); exact HO638.out⟩, ⟨uB⟩⟩
        ·rw [if_neg c16] at H
         have c16b0 : decide (0 < (x7_2.length : Int)) = false := decide_eq_false c16
         have c16b1 : decide (0 < x7_2.length) = false := decide_eq_false (by omega)
         clear c16
         have H' := Aside0.mk H
         clear H
         obtain ⟨Ao21, co21, eo21⟩ := Kd.R_slice HO_4.out
         subst eo21
         have p635 : 0 ≤ (x8_2 : Int) := dT
         have q635 : x8_2 < (x4_2.length : Int) := dT
         obtain ⟨ad635, e635, hx635_0⟩ := Kd.at_bool (Kd.R_reads' HO_4.out).2.2 x8_2 p635 q635
         (try rw [← Nbq14.out] at hx635_0)
         cases e635
         replace p635 := eq_true p635
         replace q635 := eq_true q635
         obtain ⟨Ao22, co22, eo22⟩ := Kd.R_slice HO_7.out
         subst eo22
         go_wp2
         go_roundg k2
         case measure => have := HK1.out; have := HK2.out; omega
         case rel => exact ⟨(x4_2), (x5_1), (wrap64 (x18_1 + 1)), sD, H', ⟨by have := HK1.out; have := HK2.out; omega⟩, ⟨uR HO_4.out⟩, ⟨by (with_reducible repeat (first | apply Kd.S_alloc | apply Kd.S_drewN | apply Kd.S_drew)); exact Kd.S_mono HO_5.out (fun _ hk => trivial)⟩, ⟨uB⟩⟩
       ·replace c15 := Bool.eq_false_iff.mpr c15
        subst c15
        rw [if_neg (by decide)] at H
        generalize hy639 : (x4_2.set (x8_2 : Int).toNat true : List Bool) = y639 at H
        try simp only [Option.bind_some] at H
        have Ny639 := Aside0.mk hy639.symm
        clear hy639
        obtain ⟨c24, H⟩ := ifP H
        have LMc24 := Aside0.mk c24
        clear c24
        generalize hy640 : (x7_2 ++ [x8_2] : List Int) = y640 at H
        try simp only [Option.bind_some] at H
        have Ny640 := Aside0.mk hy640.symm
        clear hy640
        obtain ⟨c25b0, H⟩ := ifD H
        have H' := Aside0.mk H
        clear H
        obtain ⟨Ao26, co26, eo26⟩ := Kd.R_slice HO_4.out
        subst eo26
        have p635 : 0 ≤ (x8_2 : Int) := dT
        have q635 : x8_2 < (x4_2.length : Int) := dT
        obtain ⟨ad635, e635, hx635_0⟩ := Kd.at_bool (Kd.R_reads' HO_4.out).2.2 x8_2 p635 q635
        (try rw [← Nbq14.out] at hx635_0)
        cases e635
        replace p635 := eq_true p635
        replace q635 := eq_true q635
        have p23 : 0 ≤ (x8_2 : Int) := dT
        have q23 : (x8_2 : Int) < ((x4_2.length : Int) : Int) := dT
        obtain ⟨go23, co23, eo23, gb23, gl23, cl23, HG23⟩ := Kd.R_form HO_4.out (by omega)
        (first | cases eo23 | (injection eo23 with ea_ en_ ec_; (first | subst ea_ | (injection ea_ with ea_; subst ea_)); subst ec_; clear en_))
        have GB23 := Aside0.mk gb23
        have GG23 := Aside0.mk HG23
        clear gb23 gl23 HG23
        (first | simp only [add_plain] at hx635_0 | skip)
        obtain ⟨hx23_0, hf23_0⟩ := Kd.R_celln false HO_4.out (x8_2 : Int) p23 q23
        replace p23 := eq_true p23
        replace q23 := eq_true q23
        have HP27 := Kd.R_putg HO_4.out (x8_2 : Int) true
        go_wp2_with (first | ((with_reducible refine gate_store (t := 4) (p := 33) rfl ?_); refine store_event (t := 4) (p := 33) (v := ?vo_w28) (w1 := (wr.setCell ⟨go23, (x8_2 : Int).toNat, none⟩ (.bool true))) ?hg ?ho ?hn ?hr ?_; (case ho => rfl); (case hg => rfl); (case hn => rfl); (case hr => first | (go_simp; done) | (go_simp; rfl)); intro w28 hw; have hg : wr.grownBy w28 (some go23) := (by rw [hw]; exact HP27.2); have hp_ : Kd.R Kd.bool 4 w28 w.heap.size (fun _ => True) (.slice (some ⟨go23, 0, none⟩) x4_2.length co26) y639 := (by rw [hw, Ny639.out]; exact HP27.1); clear HP27; have n0_ := Aside0.mk (hp_); have n1_ := Aside0.mk (Kd.S_over' (v := (.slice (some ⟨go23, 0, none⟩) x4_2.length co26)) (by (with_reducible repeat (first | apply Kd.S_alloc | apply Kd.S_drewN | apply Kd.S_drew)); exact HO_5.out) (Kd.R_typed HO_4.out) (by decide) hg); have n2_ := Aside0.mk (Kd.R_over' (v := (.slice (some ⟨go23, 0, none⟩) x4_2.length co26)) (uR HO_7.out) (Kd.R_typed HO_4.out) (by decide) hg); have n3_ := Aside0.mk ((by rw [hw]; exact below_set (HB.out) GB23.out : Below w.heap.size w w28)); clear HO_4 HO_5 HO_7 HB; have HO_4 := n0_; have HO_5 := n1_; have HO_7 := n2_; have HB := n3_; clear n0_ n1_ n2_ n3_; clear hg hw hp_) | ((with_reducible refine gate_builtin (b := .append) (xs := #[.tmp 34, .tmp 36]) rfl ?_); at_builtin; refine Kd.R_append (Kd.int .i64) (w0 := w) w.heap.size rfl (.tmp 34) (.tmp 36) 29 3 (.int .i64 0) 8 rfl Tryz.underlying29 info3 rfl (by decide) (by omega) u7 x7_2 x8_2 [.int .i64 x8_2] (fun _ => True) (fun _ => False) rfl rfl ?aP (fun _ hk => hk.elim) ?aF ?aO ?aB ?aS ?aL ?_; (case aP => exact rfl); (case aB => exact uB); (case aF => exact (fun _ _ => trivial)); (case aO => exact (uR HO_7.out)); (case aS => exact (below_size uB)); (case aL => have := LMc24.out; omega); intro v641 w29 ho hb hg hat; rw [← Ny640.out] at ho; have n0_ := Aside0.mk (Kd.R_over' (uR HO_4.out) (Kd.R_typed (uR HO_7.out)) (by decide) hg); have n1_ := Aside0.mk (Kd.S_after (ok := (fun _ => True)) (by (with_reducible repeat (first | apply Kd.S_alloc | apply Kd.S_drewN | apply Kd.S_drew)); exact Kd.S_mono HO_5.out (fun _ hk => ⟨trivial, hk⟩)) hg hat); have n2_ := Aside0.mk (hb); have n3_ := Aside0.mk (ho); clear HO_4 HO_5 HB HO_7; have HO_4 := n0_; have HO_5 := n1_; have HB := n2_; have HO642 := n3_; clear n0_ n1_ n2_ n3_; clear ho hb hg hat; have p643 : 0 ≤ (x8_2 : Int) := dT; have q643 : x8_2 < (l0.length : Int) := dT; obtain ⟨ad643, e643, hx643_0⟩ := Kd.at_int HR0.out x8_2 p643 q643; cases e643; replace hx643_0 := (HB.out.cell (World.block_lt_of_cell? w _ hx643_0)).trans hx643_0; replace p643 := eq_true p643; replace q643 := eq_true q643))
        go_roundg k2
        case measure => have := HK1.out; have := HK2.out; omega
        case rel => exact ⟨(y639), (y640), (rd l0 x8_2), sD, H', ⟨by have := HK1.out; have := HK2.out; omega⟩, ⟨uR HO_4.out⟩, ⟨by (with_reducible repeat (first | apply Kd.S_alloc | apply Kd.S_drewN | apply Kd.S_drew)); exact Kd.S_mono HO_5.out (fun _ hk => hk.2)⟩, ⟨uR HO642.out⟩, ⟨uB⟩⟩
    ·simp only [Option.some.injEq, Prod.mk.injEq] at H
     obtain ⟨rfl, rfl⟩ := H
     go_wp2
     go_ret2
     exact ⟨_, eR, by (with_reducible repeat (first | apply Kd.S_alloc | apply Kd.S_drewN | apply Kd.S_drew)); exact HO_5.out, uB⟩
 ·replace c3 := Bool.eq_false_iff.mpr c3
  subst c3
  rw [if_neg (by decide)] at H
  simp only [Option.some.injEq, Prod.mk.injEq] at H
  obtain ⟨rfl, rfl⟩ := H
  go_enter Tryz.func41, Tryz.ntmps41
  go_wp2_with (first | ((with_reducible refine gate_callee (f := 70) rfl ?_); refine goesL_ (some 10) rfl rfl Tryz.func70 (by kernel_rfl) rfl #[.slice A0 l0.length c0] rfl aE ?_; (with_reducible refine (rank_Is.calls k _ _ l0 false _ ?side1 ?side2 A2.out).mono ?_); (case side1 => exact uC HR0.out); (case side2 => exact HC0.out); rintro e w30 ⟨rfl, hb⟩; refine ⟨_, rfl, ?_⟩; have n0_ := Aside0.mk (below_step uB hb); clear HB; have HB := n0_; clear n0_))
  go_ret2
  exact ⟨_, eR, by first | exact Kd.S_nil _ _ _ _ _ | exact Kd.N_nil _ _ _ _ _ | exact Kd.V_nil _ _ _ _ _ | exact Kd.Q_nil _ _ _ _ _ | exact Kd.R_nil _ _ _ _ _, uB⟩
def lf_Of.l0 : Nat → List Int → List Int → List Int → Int → Int → Option (List Int)
  | 0, _, _, _, _, _ => none
  | k + 1, x3, x4, x15, x16, x17 => if x17 < x16 then (if 0 ≤ x17 then (if x17 < (x15.length : Int) then (if x17 < (x3.length : Int) then (if x17 < (x4.length : Int) then (lf_Of.l0 k (x3.set (x17 : Int).toNat x17) (x4.set (x17 : Int).toNat (wrap64 (rd x15 x17))) x15 x16 (wrap64 (x17 + 1))) else (none)) else (none)) else (none)) else (none)) else ((bucket_Pass.f k x3 x4 256).bind fun bt653 => ((rank_Inverse.f k bt653.1).bind fun bt657 => (some bt657.1)))
def lf_Of.f (k : Nat) (l0 : List Int) : Option (List Int) := if 0 ≤ (l0.length : Int) then (if ((l0.length : Int) : Int).toNat ≤ 35184372088832 then (lf_Of.l0 k (List.replicate ((l0.length : Int) : Int).toNat 0) (List.replicate ((l0.length : Int) : Int).toNat 0) l0 (l0.length : Int) 0) else (none)) else (none)
theorem lf_Of.calls (k : Nat) (A0 : Option Addr) (c0 : Nat) (l0 : List Int) (r : List Int) (w : World) (hr0 : Kd.C (Kd.int .u8) w A0 l0.length l0) (hc0 : l0.length ≤ c0) (h : lf_Of.f k l0 = some r) :
    Calls Tryz.prog 42 #[.slice A0 l0.length c0] w fun e w' => ∃ v0_ : Value, e = .returned (v0_) ∧ Kd.R (Kd.int .i64) 3 w' w.heap.size (fun _ => True) v0_ r ∧ Below w.heap.size w w' := by
 have HR0 := Aside0.mk hr0
 have HC0 := Aside0.mk hc0
 clear hr0 hc0
 have HB := Aside0.mk (Below.refl w.heap.size w)
 have H := h
 clear h
 unfold lf_Of.f at H
 obtain ⟨c2b0, c2b1, H⟩ := ifE H
 obtain ⟨c3b0, c3b1, H⟩ := ifE H
 obtain ⟨y644, hy644⟩ : ∃ y_ : List Int, y_ = (List.replicate ((l0.length : Int) : Int).toNat 0) := ⟨_, rfl⟩
 replace H : (lf_Of.l0 k y644 (List.replicate ((l0.length : Int) : Int).toNat 0) l0 (l0.length : Int) 0) = some r := by first | (rw [hy644]; with_reducible exact H) | (have H2_ := (Option.bind_some _ _).symm.trans H; rw [hy644]; with_reducible exact H2_) | (have H2_ := (Option.bind_some _ _).symm.trans H; with_reducible exact H2_) | with_reducible exact H | (rw [hy644]; exact H) | exact H
 have Ny644 := Aside0.mk hy644
 clear hy644
 generalize hy647 : (List.replicate ((l0.length : Int) : Int).toNat 0 : List Int) = y647 at H
 try simp only [Option.bind_some] at H
 have Ny647 := Aside0.mk hy647.symm
 clear hy647
 have H' := Aside0.mk H
 clear H
 go_enter Tryz.func42, Tryz.ntmps42
 go_wp2_with (first | ((with_reducible refine gate_dst (N := 11) rfl ?_); refine Kd.R_make (Kd.int .i64) _ 3 rfl (N := 11) rfl 29 _ _ rfl (l0.length : Int) rfl rfl Tryz.underlying29 (.int .i64 0) 8 info3 rfl (by decide) (by omega) 0 (ok := fun _ => True) (okp := fun _ => True) rfl (fun _ hk => hk) trivial dT (Nat.le_trans (Nat.mul_le_mul_right _ (dT : (l0.length : Int).toNat ≤ 35184372088832)) (by omega)) (Below.refl _ _) (Nat.le_refl _) ?_; intro v645 w4 ho5 hb hg_ hnew_; clear hg_ hnew_; (first | rw [← Ny644.out] at ho5 | (simp only [Int.reduceToNat] at ho5; rw [← Ny644.out] at ho5)); have n0_ := Aside0.mk (Kd.R_lower ho5 (below_size uB)); have n1_ := Aside0.mk (below_step uB hb); clear HB; have HO646 := n0_; have HB := n1_; clear n0_ n1_; clear hb ho5) | ((with_reducible refine gate_dst (N := 14) rfl ?_); refine Kd.R_make (Kd.int .i64) _ 3 rfl (N := 14) rfl 29 _ _ rfl (l0.length : Int) rfl rfl Tryz.underlying29 (.int .i64 0) 8 info3 rfl (by decide) (by omega) 0 (ok := fun _ => True) (okp := fun _ => True) rfl (fun _ hk => hk) trivial dT (Nat.le_trans (Nat.mul_le_mul_right _ (dT : (l0.length : Int).toNat ≤ 35184372088832)) (by omega)) (Below.refl _ _) (Nat.le_refl _) ?_; intro v648 w6 ho7 hb hg_ hnew_; clear hg_ hnew_; (first | rw [← Ny647.out] at ho7 | (simp only [Int.reduceToNat] at ho7; rw [← Ny647.out] at ho7)); have n0_ := Aside0.mk (Kd.R_elder' (uR HO646.out) (Kd.R_base ho7) hb); have n1_ := Aside0.mk (Kd.R_lower (Kd.R_new' ho7 (Kd.R_lt (uR HO646.out))) (below_size uB)); have n2_ := Aside0.mk (below_step uB hb); clear HO646 HB; have HO646 := n0_; have HO649 := n1_; have HB := n2_; clear n0_ n1_ n2_; clear hb ho7))
 go_loopg [17] k (fun kq v17 w' => ∃ (x3_1 : List Int) (x4_1 : List Int) (x17_1 : Int), v17 = .int .i64 x17_1 ∧ Aside0 (lf_Of.l0 kq x3_1 x4_1 l0 (l0.length : Int) x17_1 = some r) ∧ Aside0 (kq ≤ k) ∧ Aside0 (Kd.R (Kd.int .i64) 3 w' w.heap.size (fun k_ => some k_ ≠ (v648 : Value).ownBlock) v645 x3_1) ∧ Aside0 (Kd.R (Kd.int .i64) 3 w' w.heap.size (fun k_ => some k_ ≠ (v645 : Value).ownBlock) v648 x4_1) ∧ Aside0 (Below w.heap.size w w'))
 case atStart => exact ⟨(y644), (y647), (0), sD, H', ⟨Nat.le_refl _⟩, ⟨by (with_reducible repeat (first | apply Kd.R_alloc | apply Kd.R_drewN | apply Kd.R_drew)); exact Kd.R_mono HO646.out (fun _ hk => hk.2)⟩, ⟨by (with_reducible repeat (first | apply Kd.R_alloc | apply Kd.R_drewN | apply Kd.R_drew)); exact Kd.R_mono HO649.out (fun _ hk => hk.2)⟩, ⟨uB⟩⟩
 case round =>
  clear H'
  obtain ⟨x3_1, x4_1, x17_1, rfl, HA, HK1, HO_3, HO_4, HB⟩ := hrel
  cases gk with
  | zero => exact absurd HA.out (by simp [lf_Of.l0])
  | succ k1 =>
   have H := HA.out
   clear HA
   simp only [lf_Of.l0] at H
   rcases ifC H with ⟨c8b0, H⟩ | ⟨c8b0, H⟩
   ·obtain ⟨c9b0, H⟩ := ifD H
    obtain ⟨c10b0, c11b0, H⟩ := ifD2 H
    generalize hy651 : (x3_1.set (x17_1 : Int).toNat x17_1 : List Int) = y651 at H
    try simp only [Option.bind_some] at H
    have Ny651 := Aside0.mk hy651.symm
    clear hy651
    obtain ⟨c13b0, H⟩ := ifD H
    generalize hy652 : (x4_1.set (x17_1 : Int).toNat (wrap64 (rd l0 x17_1)) : List Int) = y652 at H
    try simp only [Option.bind_some] at H
    have Ny652 := Aside0.mk hy652.symm
    clear hy652
    have H' := Aside0.mk H
    clear H
    obtain ⟨ad650, e650, hx650_0, p650, q650⟩ := rIO HB.out HR0.out x17_1
    cases e650
    have p12 : 0 ≤ (x17_1 : Int) := dT
    have q12 : (x17_1 : Int) < ((x3_1.length : Int) : Int) := dT
    obtain ⟨go12, co12, eo12, gb12, gl12, cl12, HG12⟩ := Kd.R_form HO_3.out (by omega)
    (first | cases eo12 | (injection eo12 with ea_ en_ ec_; (first | subst ea_ | (injection ea_ with ea_; subst ea_)); subst ec_; clear en_))
    have GB12 := Aside0.mk gb12
    have GG12 := Aside0.mk HG12
    clear gb12 gl12 HG12
    obtain ⟨hx12_0, hf12_0⟩ := Kd.R_celln 0 HO_3.out (x17_1 : Int) p12 q12
    replace p12 := eq_true p12
    replace q12 := eq_true q12
    have HP15 := Kd.R_putg HO_3.out (x17_1 : Int) x17_1
    go_wp2_with (first | ((with_reducible refine gate_store (t := 3) (p := 29) rfl ?_); refine store_event (t := 3) (p := 29) (v := ?vo_w16) (w1 := (wr.setCell ⟨go12, (x17_1 : Int).toNat, none⟩ (.int .i64 x17_1))) ?hg ?ho ?hn ?hr ?_; (case ho => rfl); (case hg => rfl); (case hn => rfl); (case hr => first | (go_simp; done) | (go_simp; rfl)); intro w16 hw; have hg : wr.grownBy w16 (some go12) := (by rw [hw]; exact HP15.2); have hp_ : Kd.R (Kd.int .i64) 3 w16 w.heap.size (fun k_ => some k_ ≠ (v648 : Value).ownBlock) (.slice (some ⟨go12, 0, none⟩) x3_1.length co12) y651 := (by rw [hw, Ny651.out]; exact HP15.1); clear HP15; have n0_ := Aside0.mk (hp_); have n1_ := Aside0.mk (Kd.R_after (v := (.slice (some ⟨go12, 0, none⟩) x3_1.length co12)) (v1 := (.slice (some ⟨go12, 0, none⟩) x3_1.length co12)) (ok := (fun _ => True)) (by (with_reducible repeat (first | apply Kd.R_alloc | apply Kd.R_drewN | apply Kd.R_drew)); exact Kd.R_mono HO_4.out (fun _ hk => ⟨trivial, hk⟩)) hg (.inl rfl)); have n2_ := Aside0.mk ((by rw [hw]; exact below_set (HB.out) GB12.out : Below w.heap.size w w16)); clear HO_3 HO_4 HB; have HO_3 := n0_; have HO_4 := n1_; have HB := n2_; clear n0_ n1_ n2_; clear hg hw hp_; have p14 : 0 ≤ (x17_1 : Int) := dT; have q14 : (x17_1 : Int) < ((x4_1.length : Int) : Int) := dT; obtain ⟨go14, co14, eo14, gb14, gl14, cl14, HG14⟩ := Kd.R_form HO_4.out (by omega); (first | cases eo14 | (injection eo14 with ea_ en_ ec_; (first | subst ea_ | (injection ea_ with ea_; subst ea_)); subst ec_; clear en_)); have GB14 := Aside0.mk gb14; have GG14 := Aside0.mk HG14; clear gb14 gl14 HG14; obtain ⟨hx14_0, hf14_0⟩ := Kd.R_celln 0 HO_4.out (x17_1 : Int) p14 q14; replace p14 := eq_true p14; replace q14 := eq_true q14; have n_ := Aside0.mk (Kd.R_mono (ok' := (fun k_ => some k_ ≠ (.slice (some ⟨go12, 0, none⟩) x3_1.length co12 : Value).ownBlock)) HO_4.out (fun k_ hk => hk.2)); clear HO_4; have HO_4 := n_; clear n_; obtain ⟨hy17_, hz17_⟩ := Kd.R_celln 0 HO_4.out (x17_1 : Int) dT dT; have HP17 := Kd.R_putg HO_4.out (x17_1 : Int) (wrap64 (rd l0 x17_1))) | ((with_reducible refine gate_store (t := 3) (p := 30) rfl ?_); refine store_event (t := 3) (p := 30) (v := ?vo_w18) (w1 := (w16.setCell ⟨go14, (x17_1 : Int).toNat, none⟩ (.int .i64 (wrap64 (rd l0 x17_1))))) ?hg ?ho ?hn ?hr ?_; (case ho => rfl); (case hg => rfl); (case hn => rfl); (case hr => first | (go_simp; done) | (go_simp; rfl)); intro w18 hw; have hg : w16.grownBy w18 (some go14) := (by rw [hw]; exact HP17.2); have hp_ : Kd.R (Kd.int .i64) 3 w18 w.heap.size (fun k_ => some k_ ≠ (.slice (some ⟨go12, 0, none⟩) x3_1.length co12 : Value).ownBlock) (.slice (some ⟨go14, 0, none⟩) x4_1.length co14) y652 := (by rw [hw, Ny652.out]; exact HP17.1); clear HP17; have n0_ := Aside0.mk (Kd.R_after (v := (.slice (some ⟨go14, 0, none⟩) x4_1.length co14)) (v1 := (.slice (some ⟨go14, 0, none⟩) x4_1.length co14)) (ok := (fun _ => True)) (by (with_reducible repeat (first | apply Kd.R_alloc | apply Kd.R_drewN | apply Kd.R_drew)); exact Kd.R_mono HO_3.out (fun _ hk => ⟨trivial, hk⟩)) hg (.inl rfl)); have n1_ := Aside0.mk (hp_); have n2_ := Aside0.mk ((by rw [hw]; exact below_set (HB.out) GB14.out : Below w.heap.size w w18)); clear HO_3 HO_4 HB; have HO_3 := n0_; have HO_4 := n1_; have HB := n2_; clear n0_ n1_ n2_; clear hg hw hp_))
    go_roundg k1
    case measure => have := HK1.out; omega
    case rel => exact ⟨(y651), (y652), (wrap64 (x17_1 + 1)), sD, H', ⟨by have := HK1.out; omega⟩, ⟨by (with_reducible repeat (first | apply Kd.R_alloc | apply Kd.R_drewN | apply Kd.R_drew)); exact Kd.R_mono HO_3.out (fun _ hk => hk.2)⟩, ⟨uR HO_4.out⟩, ⟨uB⟩⟩
   ·obtain ⟨⟨t653, t654⟩, A19, H⟩ := bdS H
    try dsimp only at H
    obtain ⟨⟨t657, t658⟩, A20, H⟩ := bdS H
    try dsimp only at H
    obtain rfl := Option.some.inj H
    obtain ⟨Ao21, co21, eo21⟩ := Kd.R_slice HO_3.out
    subst eo21
    obtain ⟨Ao22, co22, eo22⟩ := Kd.R_slice HO_4.out
    subst eo22
    go_wp2_with (first | ((with_reducible refine gate_callee (f := 71) rfl ?_); refine goesL_ (some 35) rfl rfl Tryz.func71 (by kernel_rfl) rfl #[.slice Ao21 x3_1.length co21, .slice Ao22 x4_1.length co22, .int .i64 256] rfl aE ?_; (with_reducible refine (bucket_Pass.calls k1 _ _ x3_1 _ _ x4_1 256 t653 t654 _ ?side1 ?side2 ?side3 ?side4 A19.out).mono ?_); (case side1 => exact uC (Kd.R_reads' HO_3.out).2.2); (case side2 => exact (Kd.R_reads' HO_3.out).2.1); (case side3 => exact uC (Kd.R_reads' HO_4.out).2.2); (case side4 => exact (Kd.R_reads' HO_4.out).2.1); rintro e w23 ⟨v655, rfl, ho0, hb⟩; refine ⟨_, rfl, ?_⟩; have n0_ := Aside0.mk (Kd.R_elder' (uR HO_3.out) (Kd.R_base ho0) hb); have n1_ := Aside0.mk (Kd.R_elder' (uR HO_4.out) (Kd.R_base ho0) hb); have n2_ := Aside0.mk (Kd.R_lower (Kd.R_new' (Kd.R_new' ho0 (Kd.R_lt (uR HO_3.out))) (Kd.R_lt (uR HO_4.out))) (below_size uB)); have n3_ := Aside0.mk (below_step uB hb); clear HO_3 HO_4 HB; have HO_3 := n0_; have HO_4 := n1_; have HO656 := n2_; have HB := n3_; clear n0_ n1_ n2_ n3_; obtain ⟨Ao24, co24, eo24⟩ := Kd.R_slice HO656.out; subst eo24) | ((with_reducible refine gate_callee (f := 72) rfl ?_); refine goesL_ (some 40) rfl rfl Tryz.func72 (by kernel_rfl) rfl #[.slice Ao24 t653.length co24] rfl aE ?_; (with_reducible refine (rank_Inverse.calls k1 _ _ t653 t657 t658 _ ?side1 ?side2 A20.out).mono ?_); (case side1 => exact uC (Kd.R_reads' HO656.out).2.2); (case side2 => exact (Kd.R_reads' HO656.out).2.1); rintro e w25 ⟨v659, rfl, ho0, hb⟩; refine ⟨_, rfl, ?_⟩; have n0_ := Aside0.mk (Kd.R_elder' (uR HO_3.out) (Kd.R_base ho0) hb); have n1_ := Aside0.mk (Kd.R_elder' (uR HO_4.out) (Kd.R_base ho0) hb); have n2_ := Aside0.mk (Kd.R_elder' (uR HO656.out) (Kd.R_base ho0) hb); have n3_ := Aside0.mk (Kd.R_lower (Kd.R_new' (Kd.R_new' (Kd.R_new' ho0 (Kd.R_lt (uR HO_3.out))) (Kd.R_lt (uR HO_4.out))) (Kd.R_lt (uR HO656.out))) (below_size uB)); have n4_ := Aside0.mk (below_step uB hb); clear HO_3 HO_4 HO656 HB; have HO_3 := n0_; have HO_4 := n1_; have HO656 := n2_; have HO660 := n3_; have HB := n4_; clear n0_ n1_ n2_ n3_ n4_))
    go_ret
    exact ⟨_, eR, by (with_reducible repeat (first | apply Kd.R_alloc | apply Kd.R_drewN | apply Kd.R_drew)); exact Kd.R_mono HO660.out (fun _ hk => trivial), uB⟩
def bij_Back.f (k : Nat) (l0 : List Int) : Option (List Int × Int) :=
  if l0.length ≤ 100000 then
    (lf_Of.f k l0).bind fun p => (lf_Cycles.f k p).bind fun y =>
      if y.2 = true ∧ (∀ c ∈ y.1, ∀ x ∈ c, 0 ≤ x ∧ x < l0.length) ∧ y.1.length ≤ 100000 ∧ (∀ c ∈ y.1, c.length ≤ 100000) ∧ (Go.Proofs.YtbbpplnnegdenaaGreat.Bc.backL l0 y.1).length ≤ 100000 then
        some (Go.Proofs.YtbbpplnnegdenaaGreat.Bc.backL l0 y.1, 0)
      else none
  else none
theorem bij_Back.calls (k : Nat) (A0 : Option Addr) (c0 : Nat) (l0 : List Int) (r1 : List Int) (r2 : Int) (w : World) (hr0 : Kd.C (Kd.int .u8) w A0 l0.length l0) (hc0 : l0.length ≤ c0) (h : bij_Back.f k l0 = some (r1, r2)) :
    Calls Tryz.prog 14 #[.slice A0 l0.length c0] w fun e w' => ∃ v0_ : Value, e = .returned (.tuple #[v0_, .int .i64 r2]) ∧ Kd.R (Kd.int .u8) 5 w' w.heap.size (fun _ => True) v0_ r1 ∧ Below w.heap.size w w' := by
 unfold bij_Back.f at h
 by_cases c1 : l0.length ≤ 100000
 case neg => rw [if_neg c1] at h; exact absurd h (by simp)
 rw [if_pos c1] at h
 obtain ⟨p, hp, h⟩ := Option.bind_eq_some_iff.1 h
 obtain ⟨⟨cs, ok⟩, hy, h⟩ := Option.bind_eq_some_iff.1 h
 dsimp only at h
 by_cases c2 : ok = true ∧ (∀ c ∈ cs, ∀ x ∈ c, 0 ≤ x ∧ x < l0.length) ∧ cs.length ≤ 100000 ∧ (∀ c ∈ cs, c.length ≤ 100000) ∧ (Go.Proofs.YtbbpplnnegdenaaGreat.Bc.backL l0 cs).length ≤ 100000
 case neg => rw [if_neg c2] at h; exact absurd h (by simp)
 rw [if_pos c2] at h
 injection h with h
 injection h with h1 h2
 subst h1 h2
 obtain ⟨c20, c21, c22, c23, c24⟩ := c2
 subst c20
 exact Go.Proofs.YtbbpplnnegdenaaGreat.Bd.back_calls hr0 c1 hc0 c21 c22 c23 c24 (fun W1 hC => lf_Of.calls k A0 c0 l0 p W1 hC hc0 hp)
  (fun W1 A1 d1 hd hC => (lf_Cycles.calls k A1 d1 p cs true W1 hC hd hy).mono (fun e W' ⟨v, h1, h2, h3⟩ => ⟨v, h1, Kd.S_R h2, h3⟩))
def whorltop_TopTurns.f (k : Nat) (l0 : List Int) : Option (Bool) := if (l0.length : Int) > 200 then (some true) else ((bwt_Turn.f k l0).bind fun bt661 => ((bwt_Back.f k bt661.1 bt661.2.1).bind fun bt666 => ((bij_Turn.f k l0).bind fun bt670 => ((bij_Back.f k bt670.1).bind fun bt674 => ((bij_Back.f k l0).bind fun bt678 => ((bij_Turn.f k bt678.1).bind fun bt682 => (if bt661.2.2 = 0 then (if bt666.2 = 0 then (if bt670.2 = 0 then (if bt674.2 = 0 then (if bt678.2 = 0 then (if bt682.2 = 0 then (if (strOfNums bt666.1).toList = (strOfNums l0).toList then (if (strOfNums bt674.1).toList = (strOfNums l0).toList then (if (strOfNums bt682.1).toList = (strOfNums l0).toList then ((whorltop_known.f k).bind fun t686 => (some t686)) else (none)) else (none)) else (none)) else (none)) else (none)) else (none)) else (none)) else (none)) else (none))))))))
theorem whorltop_TopTurns.calls (k : Nat) (A0 : Option Addr) (c0 : Nat) (l0 : List Int) (r : Bool) (w : World) (hr0 : Kd.C (Kd.int .u8) w A0 l0.length l0) (hc0 : l0.length ≤ c0) (h : whorltop_TopTurns.f k l0 = some r) :
    Calls Tryz.prog 5 #[.slice A0 l0.length c0] w fun e w' => e = .returned (.bool r) ∧ Below w.heap.size w w' := by
 have HR0 := Aside0.mk hr0
 have HC0 := Aside0.mk hc0
 clear hr0 hc0
 have HB := Aside0.mk (Below.refl w.heap.size w)
 have H := h
 clear h
 unfold whorltop_TopTurns.f at H
 by_cases c2 : (l0.length : Int) > 200
 ·rw [if_pos c2] at H
  have c2b0 : decide (200 < (l0.length : Int)) = true := decide_eq_true c2
  have c2b1 : decide (200 < l0.length) = true := decide_eq_true (by omega)
  clear c2
  obtain rfl := Option.some.inj H
  go_enter Tryz.func5, Tryz.ntmps5
  go_wp2
  go_ret
  exact ⟨eR, uB⟩
 ·rw [if_neg c2] at H
  have c2b0 : decide (200 < (l0.length : Int)) = false := decide_eq_false c2
  have c2b1 : decide (200 < l0.length) = false := decide_eq_false (by omega)
  clear c2
  obtain ⟨⟨t661, t662, t663⟩, A3, H⟩ := bdS H
  try dsimp only at H
  obtain ⟨⟨t666, t667⟩, A4, H⟩ := bdS H
  try dsimp only at H
  obtain ⟨⟨t670, t671⟩, A5, H⟩ := bdS H
  try dsimp only at H
  obtain ⟨⟨t674, t675⟩, A6, H⟩ := bdS H
  try dsimp only at H
  obtain ⟨⟨t678, t679⟩, A7, H⟩ := bdS H
  try dsimp only at H
  obtain ⟨⟨t682, t683⟩, A8, H⟩ := bdS H
  try dsimp only at H
  obtain ⟨c9, H⟩ := ifP H
  have c9b0 : (t663 == 0) = true := beq_iff_eq.mpr c9
  have c9b1 : (t663 != 0) = false := bne_eq_false_iff_eq.mpr c9
  clear c9
  obtain ⟨c10, H⟩ := ifP H
  have c10b0 : (t667 == 0) = true := beq_iff_eq.mpr c10
  have c10b1 : (t667 != 0) = false := bne_eq_false_iff_eq.mpr c10
  clear c10
  obtain ⟨c11, H⟩ := ifP H
  have c11b0 : (t671 == 0) = true := beq_iff_eq.mpr c11
  have c11b1 : (t671 != 0) = false := bne_eq_false_iff_eq.mpr c11
  clear c11
  obtain ⟨c12, H⟩ := ifP H
  have c12b0 : (t675 == 0) = true := beq_iff_eq.mpr c12
  have c12b1 : (t675 != 0) = false := bne_eq_false_iff_eq.mpr c12
  clear c12
  obtain ⟨c13, H⟩ := ifP H
  have c13b0 : (t679 == 0) = true := beq_iff_eq.mpr c13
  have c13b1 : (t679 != 0) = false := bne_eq_false_iff_eq.mpr c13
  clear c13
  obtain ⟨c14, H⟩ := ifP H
  have c14b0 : (t683 == 0) = true := beq_iff_eq.mpr c14
  have c14b1 : (t683 != 0) = false := bne_eq_false_iff_eq.mpr c14
  clear c14
  obtain ⟨c15, H⟩ := ifP H
  have c15b0 : ((strOfNums t666).toList == (strOfNums l0).toList) = true := beq_iff_eq.mpr c15
  have c15b1 : ((strOfNums t666).toList != (strOfNums l0).toList) = false := bne_eq_false_iff_eq.mpr c15
  clear c15
  obtain ⟨c16, H⟩ := ifP H
  have c16b0 : ((strOfNums t674).toList == (strOfNums l0).toList) = true := beq_iff_eq.mpr c16
  have c16b1 : ((strOfNums t674).toList != (strOfNums l0).toList) = false := bne_eq_false_iff_eq.mpr c16
  clear c16
  obtain ⟨c17, H⟩ := ifP H
  have c17b0 : ((strOfNums t682).toList == (strOfNums l0).toList) = true := beq_iff_eq.mpr c17
  have c17b1 : ((strOfNums t682).toList != (strOfNums l0).toList) = false := bne_eq_false_iff_eq.mpr c17
  clear c17
  obtain ⟨t686, A18, H⟩ := bdS H
  try dsimp only at H
  obtain rfl := Option.some.inj H
  go_enter Tryz.func5, Tryz.ntmps5
  go_wp2_with (first | ((with_reducible refine gate_callee (f := 12) rfl ?_); refine goesL_ (some 21) rfl rfl Tryz.func12 (by kernel_rfl) rfl #[.slice A0 l0.length c0] rfl aE ?_; (with_reducible refine (bwt_Turn.calls k _ _ l0 t661 t662 t663 _ ?side1 ?side2 A3.out).mono ?_); (case side1 => exact uC HR0.out); (case side2 => exact HC0.out); rintro e w19 ⟨v664, rfl, ho0, hb⟩; refine ⟨_, rfl, ?_⟩; have n0_ := Aside0.mk (Kd.R_lower ho0 (below_size uB)); have n1_ := Aside0.mk (below_step uB hb); clear HB; have HO665 := n0_; have HB := n1_; clear n0_ n1_; obtain ⟨Ao20, co20, eo20⟩ := Kd.R_slice HO665.out; subst eo20) | ((with_reducible refine gate_callee (f := 13) rfl ?_); refine goesL_ (some 28) rfl rfl Tryz.func13 (by kernel_rfl) rfl #[.slice Ao20 t661.length co20, .int .i64 t662] rfl aE ?_; (with_reducible refine (bwt_Back.calls k _ _ t661 t662 t666 t667 _ ?side1 ?side2 A4.out).mono ?_); (case side1 => exact uC (Kd.R_reads' HO665.out).2.2); (case side2 => exact (Kd.R_reads' HO665.out).2.1); rintro e w21 ⟨v668, rfl, ho0, hb⟩; refine ⟨_, rfl, ?_⟩; have n0_ := Aside0.mk (Kd.R_elder' (uR HO665.out) (Kd.R_base ho0) hb); have n1_ := Aside0.mk (Kd.R_lower (Kd.R_new' ho0 (Kd.R_lt (uR HO665.out))) (below_size uB)); have n2_ := Aside0.mk (below_step uB hb); clear HO665 HB; have HO665 := n0_; have HO669 := n1_; have HB := n2_; clear n0_ n1_ n2_) | ((with_reducible refine gate_callee (f := 11) rfl ?_); refine goesL_ (some 33) rfl rfl Tryz.func11 (by kernel_rfl) rfl #[.slice A0 l0.length c0] rfl aE ?_; (with_reducible refine (bij_Turn.calls k _ _ l0 t670 t671 _ ?side1 ?side2 A5.out).mono ?_); (case side1 => exact uC (Kd.C_below HR0.out HB.out)); (case side2 => exact HC0.out); rintro e w22 ⟨v672, rfl, ho0, hb⟩; refine ⟨_, rfl, ?_⟩; have n0_ := Aside0.mk (Kd.R_elder' (uR HO665.out) (Kd.R_base ho0) hb); have n1_ := Aside0.mk (Kd.R_elder' (uR HO669.out) (Kd.R_base ho0) hb); have n2_ := Aside0.mk (Kd.R_lower (Kd.R_new' (Kd.R_new' ho0 (Kd.R_lt (uR HO665.out))) (Kd.R_lt (uR HO669.out))) (below_size uB)); have n3_ := Aside0.mk (below_step uB hb); clear HO665 HO669 HB; have HO665 := n0_; have HO669 := n1_; have HO673 := n2_; have HB := n3_; clear n0_ n1_ n2_ n3_; obtain ⟨Ao23, co23, eo23⟩ := Kd.R_slice HO673.out; subst eo23) | ((with_reducible refine gate_callee (f := 14) rfl ?_); refine goesL_ (some 38) rfl rfl Tryz.func14 (by kernel_rfl) rfl #[.slice Ao23 t670.length co23] rfl aE ?_; (with_reducible refine (bij_Back.calls k _ _ t670 t674 t675 _ ?side1 ?side2 A6.out).mono ?_); (case side1 => exact uC (Kd.R_reads' HO673.out).2.2); (case side2 => exact (Kd.R_reads' HO673.out).2.1); rintro e w24 ⟨v676, rfl, ho0, hb⟩; refine ⟨_, rfl, ?_⟩; have n0_ := Aside0.mk (Kd.R_elder' (uR HO665.out) (Kd.R_base ho0) hb); have n1_ := Aside0.mk (Kd.R_elder' (uR HO669.out) (Kd.R_base ho0) hb); have n2_ := Aside0.mk (Kd.R_elder' (uR HO673.out) (Kd.R_base ho0) hb); have n3_ := Aside0.mk (Kd.R_lower (Kd.R_new' (Kd.R_new' (Kd.R_new' ho0 (Kd.R_lt (uR HO665.out))) (Kd.R_lt (uR HO669.out))) (Kd.R_lt (uR HO673.out))) (below_size uB)); have n4_ := Aside0.mk (below_step uB hb); clear HO665 HO669 HO673 HB; have HO665 := n0_; have HO669 := n1_; have HO673 := n2_; have HO677 := n3_; have HB := n4_; clear n0_ n1_ n2_ n3_ n4_) | ((with_reducible refine gate_callee (f := 14) rfl ?_); refine goesL_ (some 43) rfl rfl Tryz.func14 (by kernel_rfl) rfl #[.slice A0 l0.length c0] rfl aE ?_; (with_reducible refine (bij_Back.calls k _ _ l0 t678 t679 _ ?side1 ?side2 A7.out).mono ?_); (case side1 => exact uC (Kd.C_below HR0.out HB.out)); (case side2 => exact HC0.out); rintro e w25 ⟨v680, rfl, ho0, hb⟩; refine ⟨_, rfl, ?_⟩; have n0_ := Aside0.mk (Kd.R_elder' (uR HO665.out) (Kd.R_base ho0) hb); have n1_ := Aside0.mk (Kd.R_elder' (uR HO669.out) (Kd.R_base ho0) hb); have n2_ := Aside0.mk (Kd.R_elder' (uR HO673.out) (Kd.R_base ho0) hb); have n3_ := Aside0.mk (Kd.R_elder' (uR HO677.out) (Kd.R_base ho0) hb); have n4_ := Aside0.mk (Kd.R_lower (Kd.R_new' (Kd.R_new' (Kd.R_new' (Kd.R_new' ho0 (Kd.R_lt (uR HO665.out))) (Kd.R_lt (uR HO669.out))) (Kd.R_lt (uR HO673.out))) (Kd.R_lt (uR HO677.out))) (below_size uB)); have n5_ := Aside0.mk (below_step uB hb); clear HO665 HO669 HO673 HO677 HB; have HO665 := n0_; have HO669 := n1_; have HO673 := n2_; have HO677 := n3_; have HO681 := n4_; have HB := n5_; clear n0_ n1_ n2_ n3_ n4_ n5_; obtain ⟨Ao26, co26, eo26⟩ := Kd.R_slice HO681.out; subst eo26) | ((with_reducible refine gate_callee (f := 11) rfl ?_); refine goesL_ (some 48) rfl rfl Tryz.func11 (by kernel_rfl) rfl #[.slice Ao26 t678.length co26] rfl aE ?_; (with_reducible refine (bij_Turn.calls k _ _ t678 t682 t683 _ ?side1 ?side2 A8.out).mono ?_); (case side1 => exact uC (Kd.R_reads' HO681.out).2.2); (case side2 => exact (Kd.R_reads' HO681.out).2.1); rintro e w27 ⟨v684, rfl, ho0, hb⟩; refine ⟨_, rfl, ?_⟩; have n0_ := Aside0.mk (Kd.R_elder' (uR HO665.out) (Kd.R_base ho0) hb); have n1_ := Aside0.mk (Kd.R_elder' (uR HO669.out) (Kd.R_base ho0) hb); have n2_ := Aside0.mk (Kd.R_elder' (uR HO673.out) (Kd.R_base ho0) hb); have n3_ := Aside0.mk (Kd.R_elder' (uR HO677.out) (Kd.R_base ho0) hb); have n4_ := Aside0.mk (Kd.R_elder' (uR HO681.out) (Kd.R_base ho0) hb); have n5_ := Aside0.mk (Kd.R_lower (Kd.R_new' (Kd.R_new' (Kd.R_new' (Kd.R_new' (Kd.R_new' ho0 (Kd.R_lt (uR HO665.out))) (Kd.R_lt (uR HO669.out))) (Kd.R_lt (uR HO673.out))) (Kd.R_lt (uR HO677.out))) (Kd.R_lt (uR HO681.out))) (below_size uB)); have n6_ := Aside0.mk (below_step uB hb); clear HO665 HO669 HO673 HO677 HO681 HB; have HO665 := n0_; have HO669 := n1_; have HO673 := n2_; have HO677 := n3_; have HO681 := n4_; have HO685 := n5_; have HB := n6_; clear n0_ n1_ n2_ n3_ n4_ n5_ n6_; have hcv28 := own_string (P := Tryz.prog) Tryz.underlying22 Tryz.underlying5 Tryz.underlying9 (Kd.own_of_R HO669.out); have hcv29 := Kd.C_string (P := Tryz.prog) (A := A0) (c := c0) Tryz.underlying22 Tryz.underlying5 Tryz.underlying9 (Kd.C_below HR0.out HB.out); have hcv30 := own_string (P := Tryz.prog) Tryz.underlying22 Tryz.underlying5 Tryz.underlying9 (Kd.own_of_R HO677.out); have hcv31 := Kd.C_string (P := Tryz.prog) (A := A0) (c := c0) Tryz.underlying22 Tryz.underlying5 Tryz.underlying9 (Kd.C_below HR0.out HB.out); have hcv32 := own_string (P := Tryz.prog) Tryz.underlying22 Tryz.underlying5 Tryz.underlying9 (Kd.own_of_R HO685.out); have hcv33 := Kd.C_string (P := Tryz.prog) (A := A0) (c := c0) Tryz.underlying22 Tryz.underlying5 Tryz.underlying9 (Kd.C_below HR0.out HB.out)) | (go_at_call 8; (with_reducible refine (whorltop_known.calls k  t686 _ A18.out).mono ?_); rintro e w34 ⟨rfl, hb⟩; have n0_ := Aside0.mk (Kd.R_below (uR HO665.out) hb); have n1_ := Aside0.mk (Kd.R_below (uR HO669.out) hb); have n2_ := Aside0.mk (Kd.R_below (uR HO673.out) hb); have n3_ := Aside0.mk (Kd.R_below (uR HO677.out) hb); have n4_ := Aside0.mk (Kd.R_below (uR HO681.out) hb); have n5_ := Aside0.mk (Kd.R_below (uR HO685.out) hb); have n6_ := Aside0.mk (below_step uB hb); clear HO665 HO669 HO673 HO677 HO681 HO685 HB; have HO665 := n0_; have HO669 := n1_; have HO673 := n2_; have HO677 := n3_; have HO681 := n4_; have HO685 := n5_; have HB := n6_; clear n0_ n1_ n2_ n3_ n4_ n5_ n6_))
  go_ret
  exact ⟨eR, uB⟩
def whorltop_TopTurns.Pure : Prop := ∀ (l0 : List Int), l0.length ≤ maxLen → l0.length * 1 ≤ 140737488351232 → (∀ x ∈ l0, (Lit.int .u8 x).wf = true) → ∃ k, whorltop_TopTurns.f k l0 = some true
theorem whorltop_TopTurns.walk (P : whorltop_TopTurns.Pure) (a0 : Option Addr) (len0 cap0 : Nat) (z0 : List Int) (w : World) (w0 : (a0 = none ∧ len0 = 0 ∧ cap0 = 0 ∧ z0 = []) ∨ ∃ x, a0 = some x ∧ len0 ≤ cap0 ∧ cap0 ≤ maxLen ∧ z0.length = cap0 ∧ (∀ i, i < z0.length → w.cell? (x.add i) = some (.int .u8 (z0.getD i 0))) ∧ ∀ n ∈ z0, (Lit.int .u8 n).wf = true) (y0 : len0 * 1 ≤ 140737488351232) :
    Calls Tryz.prog 5 #[.slice a0 len0 cap0] w fun e w' => e = .returned (.bool true) ∧ Below w.heap.size w w' := by
  obtain ⟨l0, rfl, hr0, hm0, hw0, hc0⟩ := ReadsInt.ofRowC w0
  obtain ⟨k, h⟩ := P l0 hm0 y0 hw0
  refine (whorltop_TopTurns.calls k _ _ l0 true w (Kd.C_of_reads (d := (0 : Int)) (h1 := fun _ => rfl) hr0) hc0 h).mono ?_
  rintro e w' ⟨rfl, hd⟩
  exact ⟨rfl, hd⟩
end Go.Proofs.YtbbpplnnegdenaaGreat.PTopTurns
end
section
namespace Go.Proofs.YtbbpplnnegdenaaGreat.Pure
open Go Go.RowKit Go.Proofs.YtbbpplnnegdenaaGreat.PTopTurns Go.Proofs.YtbbpplnnegdenaaGreatW.PrintWords Go.Proofs.YtbbpplnnegdenaaGreatW.PrintLast Go.Proofs.YtbbpplnnegdenaaGreat.MM
def okKeys (keys : List Int) (k : Int) : Prop := 0 ≤ k ∧ k ≤ 1048576 ∧ ∀ x ∈ keys, 0 ≤ x ∧ x < k
instance (keys : List Int) (k : Int) : Decidable (okKeys keys k) := by unfold okKeys; infer_instance
def countsR (keys : List Int) (k : Int) : List Int × Bool := if okKeys keys k then (cntsOf id keys k.toNat, true) else ([], false)
theorem bucket_Counts_l0 (keys : List Int) (k : Int) (h0 : 0 ≤ k) (hk : k ≤ 1048576) (hn : keys.length ≤ 140737488355328) : ∀ (d i : Nat) (l : List Int), i + d = keys.length → l.length = k.toNat → (∀ c, c < k.toNat → l.getD c 0 = (kcnt id (keys.take i) c : Int)) →
  (∀ x ∈ keys.take i, 0 ≤ x ∧ x < k) → Ev (fun j => bucket_Counts.l0 j k l keys (keys.length : Int) (i : Int)) (countsR keys k) := by
 intro d
 induction d with
 | zero =>
   intro i l hd hl h hr
   refine Ev.step (fun k => by rw [bucket_Counts.l0]) ?_
   rw [List.take_of_length_le (by omega)] at h hr
   simp only [if_neg (show ¬ (i : Int) < keys.length by omega)]
   rw [countsR, if_pos ⟨h0, hk, hr⟩, ext_getD (a := l) (b := cntsOf id keys k.toNat) (by rw [hl, cntsOf_length]) (fun c hc => by rw [cntsOf_get (by omega), h c (by omega)])]
   exact Ev.now _
 | succ d ih =>
   intro i l hd hl h hr
   have hi : i < keys.length := by omega
   refine Ev.step (fun k => by rw [bucket_Counts.l0]) ?_
   simp only [if_pos (show (i : Int) < keys.length by omega), if_pos (show 0 ≤ (i : Int) by omega), rd_nat, wrap_nat hi hn]
   by_cases h1 : keys.getD i 0 < 0
   ·simp only [if_pos h1]
    rw [countsR, if_neg (fun hq => by have := hq.2.2 _ (getD_mem hi); omega)]
    exact Ev.now _
   by_cases h2 : keys.getD i 0 ≥ k
   ·simp only [if_neg h1, if_pos h2]
    rw [countsR, if_neg (fun hq => by have := hq.2.2 _ (getD_mem hi); omega)]
    exact Ev.now _
   have h3 := h (keys.getD i 0).toNat (by omega)
   have hle : kcnt id (keys.take i) (keys.getD i 0).toNat ≤ keys.length := Nat.le_trans kcnt_le (by rw [List.length_take]; omega)
   simp only [if_neg h1, if_neg h2, if_pos (show 0 ≤ keys.getD i 0 by omega), if_pos (show keys.getD i 0 < l.length by omega), rd, h3]
   rw [wrap64_id (by omega) (by omega)]
   refine ih (i + 1) _ (by omega) (by rw [List.length_set, hl]) (fun c hc => ?_) (fun x hx => ?_)
   ·rw [lset (by omega), kcnt_next hi, id]
    by_cases e : (keys.getD i 0).toNat = c
    ·rw [if_pos e, if_pos (by omega), ← e]; rfl
    ·rw [if_neg e, if_neg (by omega)]; exact h c hc
   ·rw [take_next hi, List.mem_append, List.mem_singleton] at hx
    rcases hx with hx | hx
    ·exact hr x hx
    ·omega
theorem bucket_Counts_ev (keys : List Int) (k : Int) (hn : keys.length ≤ 140737488355328) : Ev (fun j => bucket_Counts.f j keys k) (countsR keys k) := by
 have hno : ¬ (0 ≤ k ∧ k ≤ 1048576) → Ev (fun j => bucket_Counts.j0 j keys k true) (countsR keys k) := fun hno => by
  rw [countsR, if_neg (fun hq => hno ⟨hq.1, hq.2.1⟩)]
  refine Ev.step (fun k => by rw [bucket_Counts.j0]) ?_
  simp only [if_true]
  exact Ev.now _
 refine Ev.congr (fun k => by rw [bucket_Counts.f]) ?_
 by_cases h1 : k < 0
 ·simp only [if_pos h1]; exact hno (by omega)
 by_cases h2 : k > 1048576
 ·simp only [if_neg h1, h2, decide_true]; exact hno (by omega)
 simp only [if_neg h1, h2, decide_false]
 refine Ev.step (fun k => by rw [bucket_Counts.j0]) ?_
 simp only [if_neg (show ¬ false = true by decide), if_pos (show 0 ≤ k by omega), if_pos (show k.toNat ≤ 35184372088832 by omega)]
 exact bucket_Counts_l0 keys k (by omega) (by omega) hn keys.length 0 _ (by omega) (by simp) (fun c hc => by rw [getD_replicate]; simp [kcnt]) (by simp)
def sumsOk (l : List Int) : Prop := ∀ i, i ≤ l.length → -9223372036854775808 ≤ (l.take i).sum ∧ (l.take i).sum < 9223372036854775808
theorem bucket_Starts_l0 (c : List Int) (hn : c.length ≤ 140737488355328) (hs : sumsOk c) : ∀ (d i : Nat) (l : List Int), i + d = c.length → l.length = c.length → (∀ j, j < i → l.getD j 0 = (c.take j).sum) →
  Ev (fun j => bucket_Starts.l0 j l (c.take i).sum c (c.length : Int) (i : Int)) (startsOf c) := by
 intro d
 induction d with
 | zero =>
   intro i l hd hl h
   refine Ev.step (fun k => by rw [bucket_Starts.l0]) ?_
   simp only [if_neg (show ¬ (i : Int) < c.length by omega)]
   rw [ext_getD (a := l) (b := startsOf c) (by rw [hl, startsOf_length]) (fun j hj => by rw [startsOf_get (by omega), h j (by omega)])]
   exact Ev.now _
 | succ d ih =>
   intro i l hd hl h
   have hi : i < c.length := by omega
   refine Ev.step (fun k => by rw [bucket_Starts.l0]) ?_
   have hw := hs (i + 1) (by omega)
   rw [sum_next hi] at hw
   simp only [if_pos (show (i : Int) < c.length by omega), if_pos (show 0 ≤ (i : Int) by omega), if_pos (show (i : Int) < l.length by omega), rd_nat, wrap_nat hi hn, Int.toNat_natCast]
   rw [wrap64_id hw.1 hw.2, ← sum_next hi]
   refine ih (i + 1) _ (by omega) (by rw [List.length_set, hl]) (fun j hj => ?_)
   rw [lset (by omega)]
   by_cases e : i = j
   ·rw [if_pos e, e]
   ·rw [if_neg e]; exact h j (by omega)
theorem bucket_Starts_ev (c : List Int) (hn : c.length ≤ 35184372088832) (hs : sumsOk c) : Ev (fun j => bucket_Starts.f j c) (startsOf c) := by
 refine Ev.congr (fun k => by rw [bucket_Starts.f]) ?_
 simp only [Int.toNat_natCast]
 simp only [if_pos (show 0 ≤ (c.length : Int) by omega), if_pos hn]
 exact bucket_Starts_l0 c (by omega) hs c.length 0 _ (by omega) (by simp) (fun j hj => by omega)
theorem cnts_sumsOk {kf : Int → Int} {o : List Int} {k : Nat} (hr : ∀ x ∈ o, 0 ≤ kf x ∧ kf x < (k : Int)) (hn : o.length ≤ 140737488355328) : sumsOk (cntsOf kf o k) := by
 intro i hi
 rw [cntsOf_length] at hi
 rw [cnts_sum hi]
 have h2 := stab_all hr
 have h3 : (stab kf o i).length ≤ (stab kf o k).length := by
  rcases Nat.lt_or_ge i k with h | h
  ·have := stab_mono (kf := kf) (o := o) h; omega
  ·rw [show i = k by omega]; omega
 omega
def keyOf (keys : List Int) (i : Int) : Int := keys.getD i.toNat 0
def okPass (o keys : List Int) (k : Int) : Prop := okKeys keys k ∧ ∀ x ∈ o, 0 ≤ x ∧ x < (keys.length : Int)
instance (o keys : List Int) (k : Int) : Decidable (okPass o keys k) := by unfold okPass; infer_instance
def passR (o keys : List Int) (k : Int) : List Int × Bool := if okPass o keys k then (stab (keyOf keys) o k.toNat, true) else ([], false)
theorem key_ok {keys : List Int} {k : Int} (h : okKeys keys k) {x : Int} (h0 : 0 ≤ x) (h1 : x < keys.length) : 0 ≤ keyOf keys x ∧ keyOf keys x < k := h.2.2 _ (getD_mem (by omega))
theorem bucket_Pass_l1 (o keys : List Int) (k : Int) (hok : okPass o keys k) (hn : o.length ≤ 140737488355328) : ∀ (d i : Nat) (at_ l : List Int), i + d = o.length → at_.length = k.toNat → l.length = o.length →
  (∀ c, c < k.toNat → at_.getD c 0 = ((stab (keyOf keys) o c).length + kcnt (keyOf keys) (o.take i) c : Nat)) →
  (∀ c r, c < k.toNat → r < kcnt (keyOf keys) (o.take i) c → l.getD ((stab (keyOf keys) o c).length + r) 0 = (o.filter (fun i => keyOf keys i == (c : Int))).getD r 0) →
  Ev (fun j => bucket_Pass.l1 j keys at_ l o (o.length : Int) (i : Int)) (stab (keyOf keys) o k.toNat, true) := by
 have h0k : 0 ≤ k := hok.1.1
 have hko : ∀ x ∈ o, 0 ≤ keyOf keys x ∧ keyOf keys x < (k.toNat : Int) := fun x hx => by
  have h1 := hok.2 x hx
  have := key_ok hok.1 h1.1 h1.2
  omega
 intro d
 induction d with
 | zero =>
   intro i at_ l hd ha hl hat h
   refine Ev.step (fun k => by rw [bucket_Pass.l1]) ?_
   rw [List.take_of_length_le (by omega)] at h
   simp only [if_neg (show ¬ (i : Int) < o.length by omega)]
   rw [stab_ext (l := l) (by rw [hl, stab_all hko]) (fun c r hc hr => h c r hc hr)]
   exact Ev.now _
 | succ d ih =>
   intro i at_ l hd ha hl hat h
   have hi : i < o.length := by omega
   have hx := hok.2 _ (getD_mem hi)
   have hk := key_ok hok.1 hx.1 hx.2
   obtain ⟨c, hc⟩ : ∃ c : Nat, keyOf keys (o.getD i 0) = c := ⟨(keyOf keys (o.getD i 0)).toNat, by omega⟩
   have hck : c < k.toNat := by omega
   have hcl := kcnt_lt hi hc
   have hmo := stab_mono (kf := keyOf keys) (o := o) hck
   rw [stab_all hko] at hmo
   have h3 := hat c hck
   have e1 : rd keys (o.getD i 0) = (c : Int) := hc
   refine Ev.step (fun k => by rw [bucket_Pass.l1]) ?_
   simp only [if_pos (show (i : Int) < o.length by omega), if_pos (show 0 ≤ (i : Int) by omega), rd_nat, wrap_nat hi hn, if_pos hx.1, if_pos hx.2, e1, if_pos (show (0 : Int) ≤ (c : Int) by omega), if_pos (show (c : Int) < at_.length by omega), h3, Int.toNat_natCast]
   simp only [if_pos (show (0 : Int) ≤ (((stab (keyOf keys) o c).length + kcnt (keyOf keys) (o.take i) c : Nat) : Int) by omega), if_pos (show (((stab (keyOf keys) o c).length + kcnt (keyOf keys) (o.take i) c : Nat) : Int) < l.length by omega)]
   rw [wrap64_id (by omega) (by omega)]
   refine ih (i + 1) _ _ (by omega) (by rw [List.length_set, ha]) (by rw [List.length_set, hl]) (fun c' hc' => ?_) (fun c' r hc' hr => ?_)
   ·rw [lset (by omega), kcnt_next hi, hc]
    by_cases e : c = c'
    ·rw [if_pos e, if_pos (by omega), e]; omega
    ·rw [if_neg e, if_neg (by omega)]; exact hat c' hc'
   ·rw [lset (by omega)]
    rw [kcnt_next hi, hc] at hr
    by_cases e : c = c'
    ·subst e
     rw [if_pos rfl] at hr
     by_cases e2 : r = kcnt (keyOf keys) (o.take i) c
     ·rw [if_pos (by omega), e2, filter_at hi hc]
     ·rw [if_neg (by omega)]; exact h c r hck (by omega)
    ·rw [if_neg (by omega)] at hr
     have hr' : r < kcnt (keyOf keys) o c' := Nat.lt_of_lt_of_le (by omega) (kcnt_take i)
     rw [if_neg ?_]
     ·exact h c' r hc' (by omega)
     ·intro he
      rcases Nat.lt_or_ge c c' with hlt | hge
      ·have := stab_mono (kf := keyOf keys) (o := o) hlt; omega
      ·have := stab_mono (kf := keyOf keys) (o := o) (show c' < c by omega); omega
theorem bucket_Pass_l0 (o keys : List Int) (k : Int) (hok : okKeys keys k) (hn : o.length ≤ 35184372088832) : ∀ (d i : Nat) (l : List Int), i + d = o.length → l.length = k.toNat → (∀ c, c < k.toNat → l.getD c 0 = (kcnt (keyOf keys) (o.take i) c : Int)) →
  (∀ x ∈ o.take i, 0 ≤ x ∧ x < (keys.length : Int)) → Ev (fun j => bucket_Pass.l0 j o keys l o (o.length : Int) (i : Int)) (passR o keys k) := by
 have h0k : 0 ≤ k := hok.1
 have hkm : k ≤ 1048576 := hok.2.1
 intro d
 induction d with
 | zero =>
   intro i l hd hl h hr
   rw [List.take_of_length_le (by omega)] at h hr
   have hp : okPass o keys k := ⟨hok, hr⟩
   have hko : ∀ x ∈ o, 0 ≤ keyOf keys x ∧ keyOf keys x < (k.toNat : Int) := fun x hx => by
    have h1 := hr x hx
    have := key_ok hok h1.1 h1.2
    omega
   have hle : l = cntsOf (keyOf keys) o k.toNat := ext_getD (by rw [hl, cntsOf_length]) (fun c hc => by rw [cntsOf_get (by omega), h c (by omega)])
   refine Ev.step (fun k => by rw [bucket_Pass.l0]) ?_
   simp only [if_neg (show ¬ (i : Int) < o.length by omega)]
   refine Ev.bind (bucket_Starts_ev l (by omega) (by rw [hle]; exact cnts_sumsOk hko (by omega))) ?_
   simp only [Int.toNat_natCast]
   simp only [if_pos (show 0 ≤ (o.length : Int) by omega), if_pos hn]
   rw [passR, if_pos hp]
   refine bucket_Pass_l1 o keys k hp (by omega) o.length 0 _ _ (by omega) (by rw [startsOf_length, hl]) (by simp) (fun c hc => ?_) (fun c r hc hr2 => ?_)
   ·rw [startsOf_get (by omega), hle, cnts_sum (by omega)]; simp [kcnt]
   ·simp [kcnt] at hr2
 | succ d ih =>
   intro i l hd hl h hr
   have hi : i < o.length := by omega
   refine Ev.step (fun k => by rw [bucket_Pass.l0]) ?_
   simp only [if_pos (show (i : Int) < o.length by omega), if_pos (show 0 ≤ (i : Int) by omega), rd_nat, wrap_nat hi (show o.length ≤ 140737488355328 by omega)]
   by_cases h1 : o.getD i 0 < 0
   ·simp only [if_pos h1]
    rw [passR, if_neg (fun hq => by have := hq.2 _ (getD_mem hi); omega)]
    exact Ev.now _
   by_cases h2 : o.getD i 0 ≥ keys.length
   ·simp only [if_neg h1, if_pos h2]
    rw [passR, if_neg (fun hq => by have := hq.2 _ (getD_mem hi); omega)]
    exact Ev.now _
   have hk := key_ok hok (x := o.getD i 0) (by omega) (by omega)
   obtain ⟨c, hc⟩ : ∃ c : Nat, keyOf keys (o.getD i 0) = c := ⟨(keyOf keys (o.getD i 0)).toNat, by omega⟩
   have e1 : rd keys (o.getD i 0) = (c : Int) := hc
   have h3 := h c (by omega)
   have hle : kcnt (keyOf keys) (o.take i) c ≤ o.length := Nat.le_trans kcnt_le (by rw [List.length_take]; omega)
   simp only [if_neg h1, if_neg h2, if_pos (show 0 ≤ o.getD i 0 by omega), if_pos (show o.getD i 0 < keys.length by omega), e1, if_pos (show (0 : Int) ≤ (c : Int) by omega), if_pos (show (c : Int) < l.length by omega), rd_nat, h3, Int.toNat_natCast]
   rw [wrap64_id (by omega) (by omega)]
   refine ih (i + 1) _ (by omega) (by rw [List.length_set, hl]) (fun c' hc' => ?_) (fun x hx => ?_)
   ·rw [lset (by omega), kcnt_next hi, hc]
    by_cases e : c = c'
    ·rw [if_pos e, if_pos (by omega), ← e]; rfl
    ·rw [if_neg e, if_neg (by omega)]; exact h c' hc'
   ·rw [take_next hi, List.mem_append, List.mem_singleton] at hx
    rcases hx with hx | hx
    ·exact hr x hx
    ·omega
theorem bucket_Pass_ev (o keys : List Int) (k : Int) (hn : o.length ≤ 35184372088832) (hm : keys.length ≤ 140737488355328) : Ev (fun j => bucket_Pass.f j o keys k) (passR o keys k) := by
 refine Ev.congr (fun k => by rw [bucket_Pass.f]) ?_
 refine Ev.bind (bucket_Counts_ev keys k hm) ?_
 by_cases hok : okKeys keys k
 ·rw [countsR, if_pos hok]
  have h1 := hok.1
  have h2 := hok.2.1
  simp only [if_true, if_pos h1, if_pos (show k.toNat ≤ 35184372088832 by omega)]
  exact bucket_Pass_l0 o keys k hok hn o.length 0 _ (by omega) (by simp) (fun c hc => by rw [getD_replicate]; simp [kcnt]) (by simp)
 ·rw [countsR, if_neg hok]
  simp only [if_neg (show ¬ false = true by decide)]
  rw [passR, if_neg (fun hq => hok hq.1)]
  exact Ev.now _
def invR (a : List Int) : List Int × Bool := if isPerm a then (inv a, true) else ([], false)
theorem not_perm_out {a : List Int} {i : Nat} (hi : i < a.length) (h : a.getD i 0 < 0 ∨ (a.length : Int) ≤ a.getD i 0) : ¬ isPerm a := fun hp => by
 have := hp.1 _ (getD_mem hi)
 omega
theorem not_perm_twice {a : List Int} {i : Nat} (hi : i < a.length) (h : a.getD i 0 ∈ a.take i) : ¬ isPerm a := fun hp => by
 obtain ⟨j, hj, e⟩ := List.mem_iff_getElem.1 h
 rw [List.length_take] at hj
 rw [List.getElem_take] at e
 have e2 : a.getD j 0 = a.getD i 0 := by rw [← e, List.getD_eq_getElem?_getD, List.getElem?_eq_getElem (by omega)]; rfl
 have := getD_inj hp.2 (by omega) hi e2
 omega
theorem perm_full {a : List Int} {i : Nat} (hi : a.length ≤ i) (h1 : ∀ x ∈ a.take i, 0 ≤ x ∧ x < (a.length : Int)) (h2 : (a.take i).Nodup) : isPerm a := by
 rw [List.take_of_length_le hi] at h1 h2
 exact ⟨h1, h2⟩
theorem nodup_next {a : List Int} {i : Nat} (hi : i < a.length) (h2 : (a.take i).Nodup) (h : a.getD i 0 ∉ a.take i) : (a.take (i + 1)).Nodup := by
 rw [take_next hi, List.nodup_append]
 exact ⟨h2, by simp, fun x hx y hy => by rintro rfl; simp only [List.mem_singleton] at hy; subst hy; exact h hx⟩
theorem out_next {a out : List Int} {i : Nat} (hi : i < a.length) (hol : out.length = a.length) (hx0 : 0 ≤ a.getD i 0) (hx1 : a.getD i 0 < a.length) (hn : a.getD i 0 ∉ a.take i)
  (ho : ∀ v, v < a.length → (v : Int) ∈ a.take i → out.getD v 0 = ((a.idxOf (v : Int) : Nat) : Int)) :
  ∀ v, v < a.length → (v : Int) ∈ a.take (i + 1) → (out.set (a.getD i 0).toNat (i : Int)).getD v 0 = ((a.idxOf (v : Int) : Nat) : Int) := by
 intro v hv hm
 rw [lset (by omega)]
 by_cases e : (a.getD i 0).toNat = v
 ·rw [if_pos e]
  have e2 : (v : Int) = a.getD i 0 := by omega
  have h1 : a.idxOf (v : Int) = i := by
   have hs : a = a.take i ++ (a.getD i 0 :: a.drop (i + 1)) := by
    conv => lhs; rw [← List.take_append_drop i a]
    rw [List.drop_eq_getElem_cons hi, List.getD_eq_getElem?_getD, List.getElem?_eq_getElem hi]; rfl
   rw [e2]
   conv => lhs; arg 2; rw [hs]
   rw [List.idxOf_append, if_neg hn, List.idxOf_cons_self, List.length_take]
   omega
  rw [h1]
 ·rw [if_neg e]
  rw [take_next hi, List.mem_append, List.mem_singleton] at hm
  rcases hm with hm | hm
  ·exact ho v hv hm
  ·omega
theorem inv_done {a out : List Int} (hp : isPerm a) (hol : out.length = a.length) (ho : ∀ v, v < a.length → (v : Int) ∈ a → out.getD v 0 = ((a.idxOf (v : Int) : Nat) : Int)) : out = inv a := by
 refine ext_getD (by rw [hol, inv_length]) (fun v hv => ?_)
 rw [hol] at hv
 rw [inv_get hv, ho v hv (hp.mem (by omega) (by omega))]
theorem rank_Inverse_l0 (a : List Int) (hn : a.length ≤ 140737488355328) : ∀ (d i : Nat) (out : List Int) (seen : List Bool), i + d = a.length → out.length = a.length → seen.length = a.length →
  (∀ x ∈ a.take i, 0 ≤ x ∧ x < (a.length : Int)) → (a.take i).Nodup → (∀ v, v < a.length → seen.getD v false = decide ((v : Int) ∈ a.take i)) →
  (∀ v, v < a.length → (v : Int) ∈ a.take i → out.getD v 0 = ((a.idxOf (v : Int) : Nat) : Int)) → Ev (fun k => rank_Inverse.l0 k a out seen a (a.length : Int) (i : Int)) (invR a) := by
 intro d
 induction d with
 | zero =>
   intro i out seen hd hol hsl hr hnd hs ho
   have hp := perm_full (i := i) (by omega) hr hnd
   refine Ev.step (fun k => by rw [rank_Inverse.l0]) ?_
   simp only [if_neg (show ¬ (i : Int) < a.length by omega)]
   rw [invR, if_pos hp]
   rw [List.take_of_length_le (by omega)] at ho
   rw [inv_done hp hol ho]
   exact Ev.now _
 | succ d ih =>
   intro i out seen hd hol hsl hr hnd hs ho
   have hi : i < a.length := by omega
   refine Ev.step (fun k => by rw [rank_Inverse.l0]) ?_
   simp only [if_pos (show (i : Int) < a.length by omega), if_pos (show 0 ≤ (i : Int) by omega), rd_nat]
   by_cases h1 : a.getD i 0 < 0
   ·simp only [if_pos h1]
    rw [invR, if_neg (not_perm_out hi (.inl h1))]
    exact Ev.now _
   simp only [if_neg h1]
   by_cases h2 : a.getD i 0 ≥ (a.length : Int)
   ·simp only [if_pos h2]
    rw [invR, if_neg (not_perm_out hi (.inr h2))]
    exact Ev.now _
   have e : ((a.getD i 0).toNat : Int) = a.getD i 0 := by omega
   have h3 := hs (a.getD i 0).toNat (by omega)
   rw [e] at h3
   simp only [if_neg h2, if_pos (show 0 ≤ a.getD i 0 by omega), if_pos (show a.getD i 0 < (seen.length : Int) by omega), if_pos (show a.getD i 0 < (out.length : Int) by omega), rdOf, h3]
   by_cases h4 : a.getD i 0 ∈ a.take i
   ·simp only [h4, decide_true, if_true]
    rw [invR, if_neg (not_perm_twice hi h4)]
    exact Ev.now _
   ·simp only [h4, decide_false, if_neg (show ¬ false = true by decide), wrap_nat hi hn]
    refine ih (i + 1) _ _ (by omega) (by rw [List.length_set, hol]) (by rw [List.length_set, hsl]) (fun x hx => ?_) (nodup_next hi hnd h4) (fun v hv => ?_) (out_next hi hol (by omega) (by omega) h4 ho)
    ·rw [take_next hi, List.mem_append, List.mem_singleton] at hx
     rcases hx with hx | hx
     ·exact hr x hx
     ·omega
    ·rw [lset (by omega), take_next hi]
     by_cases e2 : (a.getD i 0).toNat = v
     ·rw [if_pos e2]; symm; rw [decide_eq_true_eq, List.mem_append, List.mem_singleton]; right; omega
     ·rw [if_neg e2, hs v hv]
      have : (v : Int) ≠ a.getD i 0 := by omega
      simp only [List.mem_append, List.mem_singleton, this, or_false]
theorem rank_Inverse_ev (a : List Int) (hn : a.length ≤ 35184372088832) : Ev (fun k => rank_Inverse.f k a) (invR a) := by
 refine Ev.congr (fun k => by rw [rank_Inverse.f]) ?_
 simp only [Int.toNat_natCast]
 simp only [if_pos (show 0 ≤ (a.length : Int) by omega), if_pos hn, if_pos (show a.length ≤ 281474976710656 by omega)]
 refine rank_Inverse_l0 a (by omega) a.length 0 _ _ (by omega) (by simp) (by simp) (by simp) (by simp) (fun v hv => ?_) (by simp)
 rw [getD_replicate]; simp
theorem rank_Is_ev (a : List Int) (hn : a.length ≤ 35184372088832) : Ev (fun k => rank_Is.f k a) (decide (isPerm a)) := by
 refine Ev.congr (fun k => by rw [rank_Is.f]) ?_
 refine Ev.bind (rank_Inverse_ev a hn) ?_
 by_cases h : isPerm a
 ·simp only [invR, h, if_true, decide_true]; exact Ev.now _
 ·simp only [invR, h, if_false, decide_false]; exact Ev.now _
def byK (l : List Int) (x y : Int) : Prop := keyOf l x < keyOf l y ∨ (keyOf l x = keyOf l y ∧ x < y)
instance (l : List Int) : DecidableRel (byK l) := fun x y => by unfold byK; infer_instance
def lfS (l : List Int) : List Int := stab (keyOf l) (iota l.length) 256
def isB (l : List Int) : Prop := ∀ x ∈ l, 0 ≤ x ∧ x ≤ 255
theorem lfS_key {l : List Int} (hb : isB l) : ∀ x ∈ iota l.length, 0 ≤ keyOf l x ∧ keyOf l x < ((256 : Nat) : Int) := fun x hx => by
 rw [iota_mem] at hx
 have := hb _ (getD_mem (a := l) (i := x.toNat) (by omega))
 unfold keyOf; omega
theorem lfS_length {l : List Int} (hb : isB l) : (lfS l).length = l.length := by unfold lfS; rw [stab_all (lfS_key hb), iota_length]
theorem lfS_pw (l : List Int) : (lfS l).Pairwise (byK l) := stab_pairwise (iota_rises _) _
theorem lfS_perm {l : List Int} (hb : isB l) : isPerm (lfS l) := ⟨fun x hx => by
  rw [lfS_length hb]
  have := (stab_mem.1 hx).1; rw [iota_mem] at this; exact this, by
  refine List.Pairwise.imp (fun {x y} h => ?_) (lfS_pw l)
  rintro rfl
  unfold byK at h
  omega⟩
def lfOf (l : List Int) : List Int := inv (lfS l)
theorem lfOf_length {l : List Int} (hb : isB l) : (lfOf l).length = l.length := by unfold lfOf; rw [inv_length, lfS_length hb]
theorem lf_Of_l0 (l : List Int) (hn : l.length ≤ 35184372088832) (hb : isB l) : ∀ (d i : Nat) (o ks : List Int), i + d = l.length → o.length = l.length → ks.length = l.length → (∀ j, j < i → o.getD j 0 = j) → (∀ j, j < i → ks.getD j 0 = l.getD j 0) →
  Ev (fun k => lf_Of.l0 k o ks l (l.length : Int) (i : Int)) (lfOf l) := by
 intro d
 induction d with
 | zero =>
   intro i o ks hd ho hk h1 h2
   have eo : o = iota l.length := ext_getD (by rw [ho, iota_length]) (fun j hj => by
    rw [h1 j (by omega)]
    unfold iota
    rw [List.getD_eq_getElem?_getD, List.getElem?_map, List.getElem?_range (by omega)]; rfl)
   have ek : ks = l := ext_getD hk (fun j hj => h2 j (by omega))
   subst eo
   subst ek
   refine Ev.step (fun k => by rw [lf_Of.l0]) ?_
   simp only [if_neg (show ¬ (i : Int) < ks.length by omega)]
   refine Ev.bind (bucket_Pass_ev _ _ _ (by rw [iota_length]; omega) (by omega)) ?_
   have ok : okPass (iota ks.length) ks 256 := ⟨⟨by decide, by decide, fun x hx => by have := hb x hx; omega⟩, fun x hx => by rw [iota_mem] at hx; omega⟩
   rw [passR, if_pos ok]
   have e : stab (keyOf ks) (iota ks.length) (256 : Int).toNat = lfS ks := rfl
   rw [e]
   refine Ev.bind (rank_Inverse_ev (lfS ks) (by rw [lfS_length hb]; omega)) ?_
   rw [invR, if_pos (lfS_perm hb)]
   simp only
   rw [← lfOf]
   exact Ev.now (lfOf ks)
 | succ d ih =>
   intro i o ks hd ho hk h1 h2
   have hi : i < l.length := by omega
   have hm := hb _ (getD_mem hi)
   refine Ev.step (fun k => by rw [lf_Of.l0]) ?_
   rw [rd_nat, wrap64_id (x := l.getD i 0) (by omega) (by omega)]
   simp only [if_pos (show (i : Int) < l.length by omega), if_pos (show 0 ≤ (i : Int) by omega), if_pos (show (i : Int) < o.length by omega), if_pos (show (i : Int) < ks.length by omega), wrap_nat hi (show l.length ≤ 140737488355328 by omega), Int.toNat_natCast]
   refine ih (i + 1) _ _ (by omega) (by rw [List.length_set, ho]) (by rw [List.length_set, hk]) (fun j hj => ?_) (fun j hj => ?_)
   ·rw [lset (by omega)]
    by_cases e : i = j
    ·rw [if_pos e, e]
    ·rw [if_neg e]; exact h1 j (by omega)
   ·rw [lset (by omega)]
    by_cases e : i = j
    ·rw [if_pos e, e]
    ·rw [if_neg e]; exact h2 j (by omega)
theorem lf_Of_ev (l : List Int) (hn : l.length ≤ 35184372088832) (hb : isB l) : Ev (fun k => lf_Of.f k l) (lfOf l) := by
 refine Ev.congr (fun k => by rw [lf_Of.f]) ?_
 simp only [Int.toNat_natCast]
 simp only [if_pos (show 0 ≤ (l.length : Int) by omega), if_pos hn]
 exact lf_Of_l0 l hn hb l.length 0 _ _ (by omega) (by simp) (by simp) (fun j hj => by omega) (fun j hj => by omega)
theorem lfOf_lt {l : List Int} (hb : isB l) {i k : Nat} (hi : i < l.length) (hk : k < l.length) : (lfOf l).getD i 0 < (lfOf l).getD k 0 ↔ byK l i k := by
 have hp := lfS_perm hb
 have hl := lfS_length hb
 have fwd : ∀ {u v : Nat}, u < l.length → v < l.length → (lfOf l).getD u 0 < (lfOf l).getD v 0 → byK l u v := fun {u v} hu hv h => by
  have h1 := at_inv hp (v := u) (by omega)
  have h2 := at_inv hp (v := v) (by omega)
  unfold lfOf at h
  have := pair_getD (lfS_pw l) (i := ((inv (lfS l)).getD u 0).toNat) (j := ((inv (lfS l)).getD v 0).toNat) (by omega) (by omega)
  rwa [h1.1, h2.1] at this
 constructor
 ·exact fwd hi hk
 ·intro h
  rcases Int.lt_trichotomy ((lfOf l).getD i 0) ((lfOf l).getD k 0) with c | c | c
  ·exact c
  ·exfalso
   have h1 := at_inv hp (v := i) (by omega)
   have h2 := at_inv hp (v := k) (by omega)
   unfold lfOf at c
   rw [c, h2.1] at h1
   have : k = i := by have := h1.1; omega
   subst this
   unfold byK at h; omega
  ·exfalso
   have := fwd hk hi c
   unfold byK at h this; omega
def cycR (p : List Int) : List (List Int) × Bool := if isPerm p then (cycOf p, true) else ([], false)
theorem lf_Cycles_l1 (p : List Int) (hn : p.length ≤ 5864062014804) (hp : isPerm p) (out : List (List Int)) (ho : out.length ≤ p.length) (i : Nat) (hi : i < p.length) (R : List (List Int) × Bool) : ∀ (f : Nat) (seen : List Bool) (k : Int) (acc : List Int),
  seen.length = p.length → unseen seen < f → 0 ≤ k → k < p.length → acc.length + unseen seen ≤ p.length →
  Ev (fun j => lf_Cycles.l0 j p (ringF p f seen k acc).1 (if (ringF p f seen k acc).2.length > 0 then out ++ [(ringF p f seen k acc).2] else out) (p.length : Int) ((i + 1 : Nat) : Int)) R →
  Ev (fun j => lf_Cycles.l1 j p seen out acc k (p.length : Int) (i : Int)) R := by
 intro f
 induction f with
 | zero => intro seen k acc _ h; omega
 | succ f ih =>
   intro seen k acc hs hf h0 h1 ha hK
   obtain ⟨m, rfl⟩ : ∃ m : Nat, k = m := ⟨k.toNat, by omega⟩
   refine Ev.step (fun j => by rw [lf_Cycles.l1]) ?_
   simp only [if_pos (show 0 ≤ (m : Int) by omega), if_pos (show (m : Int) < seen.length by omega), rdB_nat, wrap_nat hi (show p.length ≤ 140737488355328 by omega)]
   by_cases hse : seen.getD m false = true
   ·rw [ringF, Int.toNat_natCast, if_pos hse] at hK
    simp only [hse, if_true]
    by_cases hl : acc.length > 0
    ·simp only [if_pos (show (acc.length : Int) > 0 by omega), if_pos (show out.length < 5864062014805 by omega)]
     rw [if_pos hl] at hK
     exact hK
    ·simp only [if_neg (show ¬ (acc.length : Int) > 0 by omega)]
     rw [if_neg hl] at hK
     exact hK
   ·have hse' : seen.getD m false = false := by simpa using hse
    have hcs := unseen_set (seen := seen) (k := m) (by omega) hse'
    have hpk := hp.1 _ (getD_mem (a := p) (i := m) (by omega))
    rw [ringF, Int.toNat_natCast, if_neg hse] at hK
    simp only [hse', if_neg (show ¬ false = true by decide), if_pos (show acc.length < 17592186044416 by omega), if_pos (show (m : Int) < p.length by omega), rd_nat, Int.toNat_natCast]
    exact ih _ _ _ (by rw [List.length_set, hs]) (by omega) hpk.1 hpk.2 (by rw [List.length_append, List.length_singleton]; omega) hK
theorem ringF_len {p : List Int} (hp : isPerm p) : ∀ (f : Nat) (seen : List Bool) (k : Int) (acc : List Int), seen.length = p.length → 0 ≤ k → k < p.length → (ringF p f seen k acc).1.length = p.length := by
 intro f
 induction f with
 | zero => intro seen k acc hs _ _; exact hs
 | succ f ih =>
   intro seen k acc hs h0 h1
   rw [ringF]
   by_cases h : seen.getD k.toNat false = true
   ·rw [if_pos h]; exact hs
   ·rw [if_neg h]
    have hpk := hp.1 _ (getD_mem (a := p) (i := k.toNat) (by omega))
    exact ih _ _ _ (by rw [List.length_set, hs]) hpk.1 hpk.2
theorem lf_Cycles_l0 (p : List Int) (hn : p.length ≤ 5864062014804) (hp : isPerm p) : ∀ (d i : Nat) (seen : List Bool) (out : List (List Int)), i + d = p.length → seen.length = p.length → out.length ≤ i →
  Ev (fun j => lf_Cycles.l0 j p seen out (p.length : Int) (i : Int)) (ringsF p d i seen out, true) := by
 intro d
 induction d with
 | zero =>
   intro i seen out hd hs ho
   refine Ev.step (fun k => by rw [lf_Cycles.l0]) ?_
   simp only [if_neg (show ¬ (i : Int) < p.length by omega)]
   exact Ev.now _
 | succ d ih =>
   intro i seen out hd hs ho
   have hi : i < p.length := by omega
   have := unseen_le seen
   refine Ev.step (fun k => by rw [lf_Cycles.l0]) ?_
   simp only [if_pos (show (i : Int) < p.length by omega)]
   refine lf_Cycles_l1 p hn hp out (by omega) i hi _ (p.length + 1) seen i [] hs (by omega) (by omega) (by omega) (by simp; omega) ?_
   refine ih (i + 1) _ _ (by omega) (ringF_len hp _ _ _ _ hs (by omega) (by omega)) ?_
   split
   ·rw [List.length_append, List.length_singleton]; omega
   ·omega
theorem lf_Cycles_ev (p : List Int) (hn : p.length ≤ 5864062014804) : Ev (fun j => lf_Cycles.f j p) (cycR p) := by
 refine Ev.congr (fun k => by rw [lf_Cycles.f]) ?_
 refine Ev.bind (rank_Is_ev p (by omega)) ?_
 by_cases hp : isPerm p
 ·simp only [hp, decide_true, if_true, Int.toNat_natCast]
  simp only [if_pos (show 0 ≤ (p.length : Int) by omega), if_pos (show p.length ≤ 281474976710656 by omega)]
  rw [cycR, if_pos hp]
  exact lf_Cycles_l0 p hn hp p.length 0 _ [] (by omega) (by simp) (by simp)
 ·simp only [hp, decide_false, if_neg (show ¬ false = true by decide)]
  rw [cycR, if_neg hp]
  exact Ev.now _
theorem fac_l2 (s : List Int) (hn : s.length ≤ 17592186044416) (a0 : Nat)
  (IH : ∀ a, a0 < a → a ≤ s.length → ∃ l, Facts (s.drop a) l ∧ ∀ acc : List Int, acc.length ≤ a → Ev (fun k => lyndon_Factors.l0 k s acc (a : Int)) (acc ++ l)) (p j : Nat) (hp : 0 < p) (hpj : p ≤ j) (hj : j ≤ s.length) (hend : j = s.length ∨ s.getD j 0 < s.getD (j - p) 0) :
  ∀ (d a : Nat), j - a ≤ d → a0 ≤ a → a ≤ j → (a0 < a ∨ p ≤ j - a) → (p ≤ j - a → (∀ x, x < j - a → s.getD (a + x) 0 = s.getD (a + x % p) 0) ∧ isLyn ((s.drop a).take p)) →
  ∃ l, Facts (s.drop a) l ∧ ∀ acc : List Int, acc.length ≤ a → Ev (fun k => lyndon_Factors.l2 k s acc (a : Int) ((j : Int) - p) (j : Int)) (acc ++ l) := by
 intro d
 induction d with
 | zero =>
   intro a hd ha haj ho hinv
   obtain ⟨l, hf, hev⟩ := IH a (by omega) (by omega)
   refine ⟨l, hf, fun acc hacc => ?_⟩
   refine Ev.step (fun k => by rw [lyndon_Factors.l2]) ?_
   simp only [if_neg (show ¬ (a : Int) ≤ (j : Int) - p by omega)]
   exact hev acc hacc
 | succ d ih =>
   intro a hd ha haj ho hinv
   by_cases hpa : p ≤ j - a
   ·obtain ⟨hper, hlyn⟩ := hinv hpa
    obtain ⟨l, hf, hev⟩ := ih (a + p) (by omega) (by omega) (by omega) (by omega) (fun hpa2 => by
     refine ⟨fun x hx => ?_, ?_⟩
     ·have h1 := hper (p + x) (by omega)
      have h2 := hper (p + x % p) (by have := Nat.mod_lt x hp; omega)
      rw [Nat.add_mod_left] at h1 h2
      rw [Nat.mod_mod] at h2
      rw [Nat.add_assoc, h1, Nat.add_assoc, h2]
     ·have e : (s.drop (a + p)).take p = (s.drop a).take p := by
       refine ext_getD (by rw [List.length_take, List.length_take, List.length_drop, List.length_drop]; omega) (fun x hx => ?_)
       rw [List.length_take] at hx
       rw [getD_take _ _ _ (by omega), getD_take _ _ _ (by omega), getD_drop, getD_drop]
       have h1 := hper (p + x) (by omega)
       rw [Nat.add_mod_left, Nat.mod_eq_of_lt (by omega)] at h1
       rw [Nat.add_assoc, h1]
      rw [e]; exact hlyn)
    have hdl : (s.drop a).length = s.length - a := List.length_drop ..
    have hmost : ∀ m', p < m' → m' ≤ (s.drop a).length → ¬ isLyn ((s.drop a).take m') := fun m' h1 h2 =>
     lyn_most (j := j - a) hp hpa (by omega) (fun x hx => by rw [getD_drop, getD_drop]; exact hper x hx) (by
      rcases hend with h | h
      ·left; omega
      ·right; rw [getD_drop, getD_drop, show a + (j - a) = j by omega, show a + (j - a - p) = j - p by omega]; exact h) h1 h2
    refine ⟨(p : Int) :: l, .cons (by omega) hlyn hmost (by rw [List.drop_drop]; exact hf), fun acc hacc => ?_⟩
    refine Ev.step (fun k => by rw [lyndon_Factors.l2]) ?_
    have hx := hev (acc ++ [(p : Int)]) (by rw [List.length_append, List.length_singleton]; omega)
    have c1 : (a : Int) ≤ (j : Int) - p := by omega
    have c2 : acc.length < 17592186044416 := by omega
    have w1 : wrap64 ((j : Int) - ((j : Int) - p)) = (p : Int) := by rw [wrap64_id (by omega) (by omega)]; omega
    have w2 : wrap64 ((a : Int) + (p : Int)) = ((a + p : Nat) : Int) := by clear w1; rw [wrap64_id (by omega) (by omega)]; omega
    simp only [if_pos c1, if_pos c2, w1, w2]
    rw [List.append_assoc] at hx
    exact hx
   ·obtain ⟨l, hf, hev⟩ := IH a (by omega) (by omega)
    refine ⟨l, hf, fun acc hacc => ?_⟩
    refine Ev.step (fun k => by rw [lyndon_Factors.l2]) ?_
    simp only [if_neg (show ¬ (a : Int) ≤ (j : Int) - p by omega)]
    exact hev acc hacc
theorem fac_l1 (s : List Int) (hn : s.length ≤ 17592186044416) (a : Nat)
  (IH : ∀ a', a < a' → a' ≤ s.length → ∃ l, Facts (s.drop a') l ∧ ∀ acc : List Int, acc.length ≤ a' → Ev (fun k => lyndon_Factors.l0 k s acc (a' : Int)) (acc ++ l)) :
  ∀ (d p j : Nat), j + d = s.length → 0 < p → a + p ≤ j → j ≤ s.length → (∀ x, x < j - a → s.getD (a + x) 0 = s.getD (a + x % p) 0) → isLyn ((s.drop a).take p) →
  ∃ l, Facts (s.drop a) l ∧ ∀ acc : List Int, acc.length ≤ a → Ev (fun k => lyndon_Factors.l1 k s acc (a : Int) ((j : Int) - p) (j : Int)) (acc ++ l) := by
 intro d
 induction d with
 | zero =>
   intro p j hd hp hpj hj hper hlyn
   obtain ⟨l, hf, hev⟩ := fac_l2 s hn a IH p j hp (by omega) hj (.inl (by omega)) (j - a) a (by omega) (Nat.le_refl _) (by omega) (.inr (by omega)) (fun _ => ⟨hper, hlyn⟩)
   refine ⟨l, hf, fun acc hacc => ?_⟩
   refine Ev.step (fun k => by rw [lyndon_Factors.l1]) ?_
   simp only [if_neg (show ¬ (j : Int) < s.length by omega)]
   refine Ev.step (fun k => by rw [lyndon_Factors.j2]) ?_
   simp only [if_neg (show ¬ false = true by decide)]
   exact hev acc hacc
 | succ d ih =>
   intro p j hd hp hpj hj hper hlyn
   have hjl : j < s.length := by omega
   have hi : ((j : Int) - p) = ((j - p : Nat) : Int) := by omega
   have hdl : (s.drop a).length = s.length - a := List.length_drop ..
   by_cases hlt : s.getD (j - p) 0 < s.getD j 0
   ·
    have hg := lyn_grow (t := s.drop a) (p := p) (j := j - a) hp (by omega) (by omega) (fun x hx => by rw [getD_drop, getD_drop]; exact hper x hx) hlyn (by
     rw [getD_drop, getD_drop, show a + (j - a) = j by omega, show a + (j - a - p) = j - p by omega]; exact hlt)
    obtain ⟨l, hf, hev⟩ := ih (j - a + 1) (j + 1) (by omega) (by omega) (by omega) (by omega) (fun x hx => by rw [Nat.mod_eq_of_lt (by omega)]) hg
    refine ⟨l, hf, fun acc hacc => ?_⟩
    refine Ev.step (fun k => by rw [lyndon_Factors.l1]) ?_
    simp only [hi, rd_nat]
    simp only [if_pos (show (j : Int) < s.length by omega), if_pos (show (0 : Int) ≤ ((j - p : Nat) : Int) by omega), if_pos (show ((j - p : Nat) : Int) < s.length by omega), if_pos (show 0 ≤ (j : Int) by omega), decide_eq_true (show s.getD (j - p) 0 ≤ s.getD j 0 by omega)]
    refine Ev.step (fun k => by rw [lyndon_Factors.j2]) ?_
    simp only [rd_nat, if_true, if_pos hlt, wrap_nat hjl (show s.length ≤ 140737488355328 by omega)]
    simp only [if_pos (show (j : Int) < s.length by omega), if_pos (show (0 : Int) ≤ ((j - p : Nat) : Int) by omega), if_pos (show ((j - p : Nat) : Int) < s.length by omega), if_pos (show 0 ≤ (j : Int) by omega)]
    have := hev acc hacc
    rw [show ((j + 1 : Nat) : Int) - ((j - a + 1 : Nat) : Int) = (a : Int) by omega] at this
    exact this
   ·by_cases heq : s.getD (j - p) 0 = s.getD j 0
    ·obtain ⟨l, hf, hev⟩ := ih p (j + 1) (by omega) hp (by omega) (by omega) (fun x hx => by
      by_cases hxj : x = j - a
      ·subst hxj
       rw [show a + (j - a) = j by omega, ← heq]
       have h1 := hper (j - a - p) (by omega)
       rw [show a + (j - a - p) = j - p by omega] at h1
       rw [h1, ← Nat.mod_eq_sub_mod (by omega)]
      ·exact hper x (by omega)) hlyn
     refine ⟨l, hf, fun acc hacc => ?_⟩
     refine Ev.step (fun k => by rw [lyndon_Factors.l1]) ?_
     simp only [hi, rd_nat]
     simp only [if_pos (show (j : Int) < s.length by omega), if_pos (show (0 : Int) ≤ ((j - p : Nat) : Int) by omega), if_pos (show ((j - p : Nat) : Int) < s.length by omega), if_pos (show 0 ≤ (j : Int) by omega), decide_eq_true (show s.getD (j - p) 0 ≤ s.getD j 0 by omega)]
     refine Ev.step (fun k => by rw [lyndon_Factors.j2]) ?_
     simp only [rd_nat, if_true, if_neg hlt, wrap_nat hjl (show s.length ≤ 140737488355328 by omega), wrap_nat (show j - p < s.length by omega) (show s.length ≤ 140737488355328 by omega)]
     simp only [if_pos (show (j : Int) < s.length by omega), if_pos (show (0 : Int) ≤ ((j - p : Nat) : Int) by omega), if_pos (show ((j - p : Nat) : Int) < s.length by omega), if_pos (show 0 ≤ (j : Int) by omega)]
     have := hev acc hacc
     rw [show ((j + 1 : Nat) : Int) - (p : Int) = ((j - p + 1 : Nat) : Int) by omega] at this
     exact this
    ·obtain ⟨l, hf, hev⟩ := fac_l2 s hn a IH p j hp (by omega) hj (.inr (by omega)) (j - a) a (by omega) (Nat.le_refl _) (by omega) (.inr (by omega)) (fun _ => ⟨hper, hlyn⟩)
     refine ⟨l, hf, fun acc hacc => ?_⟩
     refine Ev.step (fun k => by rw [lyndon_Factors.l1]) ?_
     rw [hi]
     simp only [rd_nat]
     simp only [if_pos (show (j : Int) < s.length by omega), if_pos (show (0 : Int) ≤ ((j - p : Nat) : Int) by omega), if_pos (show ((j - p : Nat) : Int) < s.length by omega), if_pos (show 0 ≤ (j : Int) by omega), decide_eq_false (show ¬ s.getD (j - p) 0 ≤ s.getD j 0 by omega)]
     refine Ev.step (fun k => by rw [lyndon_Factors.j2]) ?_
     simp only [if_neg (show ¬ false = true by decide)]
     rw [← hi]
     exact hev acc hacc
theorem fac_l0 (s : List Int) (hn : s.length ≤ 17592186044416) : ∀ (d a : Nat), s.length - a ≤ d → a ≤ s.length → ∃ l, Facts (s.drop a) l ∧ ∀ acc : List Int, acc.length ≤ a → Ev (fun k => lyndon_Factors.l0 k s acc (a : Int)) (acc ++ l) := by
 intro d
 induction d with
 | zero =>
   intro a hd ha
   refine ⟨[], by rw [List.drop_of_length_le (by omega)]; exact .nil, fun acc hacc => ?_⟩
   refine Ev.step (fun k => by rw [lyndon_Factors.l0]) ?_
   simp only [if_neg (show ¬ (a : Int) < s.length by omega), List.append_nil]
   exact Ev.now _
 | succ d ih =>
   intro a hd ha
   by_cases hlt : a < s.length
   ·obtain ⟨l, hf, hev⟩ := fac_l1 s hn a (fun a' h1 h2 => ih a' (by omega) h2) (s.length - (a + 1)) 1 (a + 1) (by omega) (by omega) (by omega) (by omega) (fun x hx => by rw [show x = 0 by omega]) (by
     rw [List.drop_eq_getElem_cons hlt]; exact lyn_one _)
    refine ⟨l, hf, fun acc hacc => ?_⟩
    refine Ev.step (fun k => by rw [lyndon_Factors.l0]) ?_
    simp only [if_pos (show (a : Int) < s.length by omega), wrap_nat hlt (show s.length ≤ 140737488355328 by omega)]
    have := hev acc hacc
    rw [show ((a + 1 : Nat) : Int) - ((1 : Nat) : Int) = (a : Int) by omega] at this
    exact this
   ·exact ih a (by omega) ha
theorem lyndon_Factors_ev (s : List Int) (hn : s.length ≤ 17592186044416) : ∃ l, Facts s l ∧ Ev (fun k => lyndon_Factors.f k s) l := by
 obtain ⟨l, hf, hev⟩ := fac_l0 s hn s.length 0 (by omega) (by omega)
 refine ⟨l, hf, ?_⟩
 have := hev [] (by simp)
 rw [List.nil_append] at this
 exact Ev.congr (fun k => rfl) this
open Go.Proofs.YtbbpplnnegdenaaGreat.Om (wd chr isT ltT ixL ltS eqN Omega onT at_ onT_is chr_on chr_per ltS_congr ltS_congl ltS_irrefl ltS_asymm ltS_trans ltT_asymm ltT_tri ltS_shift at_mem at_pw at_of_mem)
open Go.Proofs.YtbbpplnnegdenaaGreat.Oy (omegaT omegaT_is rots mem_rots rots_nodup)
open Go.Proofs.YtbbpplnnegdenaaGreat.Bt (cutW smN lastC cutW_length)
open Go.Proofs.YtbbpplnnegdenaaGreat.Bc (backL rowL)
structure Fallen (t : List Int) (ws : List (List Int)) : Prop where
 lyn : ∀ w, w ∈ ws → isLyn w
 all : ws.flatten = t
 falls : ws.Pairwise (fun u v => ¬ ltL u v)
theorem not_lt_trans {u v w : List Int} (h : ¬ ltL u v) (k : ¬ ltL v w) : ¬ ltL u w := by
 rw [not_ltL] at *
 rcases h with rfl | h
 ·exact k
 ·rcases k with rfl | k
  ·exact .inr h
  ·exact .inr (ltL_trans k h)
theorem facts_form {t l : List Int} (h : Facts t l) : l = [] ∨ ∃ (m : Nat) (l' : List Int), l = (m : Int) :: l' := by
 cases h with
 | nil => exact .inl rfl
 | @cons _ l2 m2 _ _ _ _ => exact .inr ⟨m2, l2, rfl⟩
theorem fallen_of {t l : List Int} (h : Facts t l) : Fallen t (cutW t l) := by
 induction h with
 | nil => exact ⟨fun w hw => by simp [cutW] at hw, rfl, List.Pairwise.nil⟩
 | @cons t l m a b c d ih =>
   obtain ⟨h1, h2, h3⟩ := ih
   have hc : cutW t ((m : Int) :: l) = t.take m :: cutW (t.drop m) l := by rw [cutW, Int.toNat_natCast]
   rw [hc]
   refine ⟨fun w hw => ?_, ?_, ?_⟩
   ·rcases List.mem_cons.1 hw with rfl | hw
    ·exact b
    ·exact h1 w hw
   ·rw [List.flatten_cons, h2, List.take_append_drop]
   ·rw [List.pairwise_cons]
    refine ⟨fun v hv => ?_, h3⟩
    have hF : Facts t ((m : Int) :: l) := .cons a b c d
    rcases facts_form d with e | ⟨m2, l2, e⟩
    ·subst e; simp [cutW] at hv
    ·subst e
     have hc2 : cutW (t.drop m) ((m2 : Int) :: l2) = (t.drop m).take m2 :: cutW ((t.drop m).drop m2) l2 := by rw [cutW, Int.toNat_natCast]
     rw [hc2] at hv h3
     have hf := hF.falls
     rcases List.mem_cons.1 hv with rfl | hv
     ·exact hf
     ·exact not_lt_trans hf ((List.pairwise_cons.1 h3).1 v hv)
section
variable {ws : List (List Int)}
theorem chr_at {i k j : Nat} : chr ws (i, k) j = (wd ws i).getD ((k + j) % (wd ws i).length) 0 := rfl
theorem lyn_first {i k : Nat} (hl : isLyn (wd ws i)) (h0 : 0 < k) (hk : k < (wd ws i).length) : ltS (chr ws (i, 0)) (chr ws (i, k)) := by
 obtain ⟨x, h1, h2, h3, h4⟩ := ltL_iff.1 (hl.2 k h0 hk)
 rw [List.length_drop] at h2
 have hx : x < (wd ws i).length := by omega
 rcases h4 with h4 | ⟨_, h4⟩
 ·omega
 ·have e : ∀ y, y ≤ x → chr ws (i, 0) y = (wd ws i).getD y 0 ∧ chr ws (i, k) y = ((wd ws i).drop k).getD y 0 := fun y hy => by
   rw [chr_at, chr_at, Nat.zero_add, Nat.mod_eq_of_lt (show y < _ by omega), Nat.mod_eq_of_lt (show k + y < _ by omega), getD_drop]
   exact ⟨rfl, rfl⟩
  refine ⟨x, fun j hj => ?_, ?_⟩
  ·rw [(e j (by omega)).1, (e j (by omega)).2, List.getD_eq_getElem?_getD, List.getD_eq_getElem?_getD, h3 j hj]
  ·rw [(e x (Nat.le_refl _)).1, (e x (Nat.le_refl _)).2]; exact h4
theorem lyn_prim {i k k' : Nat} (hl : isLyn (wd ws i)) (hk : k < (wd ws i).length) (hk' : k' < (wd ws i).length) (h : ∀ j, chr ws (i, k) j = chr ws (i, k') j) : k = k' := by
 have key : ∀ {a b : Nat}, a < b → b < (wd ws i).length → ¬ ∀ j, chr ws (i, a) j = chr ws (i, b) j := by
  intro a b hab hb h
  refine ltS_irrefl (chr ws (i, 0)) (ltS_congr (lyn_first hl (show 0 < b - a by omega) (show b - a < _ by omega)) (fun j => ?_))
  have := h ((wd ws i).length - a + j)
  rw [chr_at, chr_at] at this
  rw [chr_at, chr_at]
  rw [show a + ((wd ws i).length - a + j) = j + (wd ws i).length by omega, Nat.add_mod_right, show b + ((wd ws i).length - a + j) = b - a + j + (wd ws i).length by omega, Nat.add_mod_right] at this
  rw [Nat.zero_add]; exact this.symm
 rcases Nat.lt_trichotomy k k' with c | c | c
 ·exact absurd h (key c hk')
 ·exact c
 ·exact absurd (fun j => (h j).symm) (key c hk)
theorem lyn_omega {i i' : Nat} (hu : isLyn (wd ws i)) (hv : isLyn (wd ws i')) (h : ltL (wd ws i) (wd ws i')) : ltS (chr ws (i, 0)) (chr ws (i', 0)) := by
 obtain ⟨u, hue⟩ : ∃ u, wd ws i = u := ⟨_, rfl⟩
 obtain ⟨v, hve⟩ : ∃ v, wd ws i' = v := ⟨_, rfl⟩
 have cu : ∀ j, chr ws (i, 0) j = u.getD (j % u.length) 0 := fun j => by rw [chr_at, hue, Nat.zero_add]
 have cv : ∀ j, j < v.length → chr ws (i', 0) j = v.getD j 0 := fun j hj => by rw [chr_at, hve, Nat.zero_add, Nat.mod_eq_of_lt hj]
 rw [hue] at hu h
 rw [hve] at hv h
 have hup := List.length_pos_iff.2 hu.1
 obtain ⟨x, h1, h2, h3, h4⟩ := ltL_iff.1 h
 have h3' : ∀ y, y < x → u.getD y 0 = v.getD y 0 := fun y hy => by rw [List.getD_eq_getElem?_getD, List.getD_eq_getElem?_getD, h3 y hy]
 rcases h4 with h4 | ⟨h4, h5⟩
 ·subst h4
  have step : ∀ (d m : Nat), v.length - m ≤ d → 0 < m → m < v.length → m % u.length = 0 → u.length ≤ m → (∀ j, j < m → u.getD (j % u.length) 0 = v.getD j 0) → ltS (chr ws (i, 0)) (chr ws (i', 0)) := by
   intro d
   induction d with
   | zero => intro m hd h0 hm; omega
   | succ d ih =>
     intro m hd h0 hm hmu hum hag
     obtain ⟨x, g1, g2, g3, g4⟩ := ltL_iff.1 (hv.2 m h0 hm)
     rw [List.length_drop] at g2
     rcases g4 with g4 | ⟨_, g4⟩
     ·omega
     ·rw [getD_drop] at g4
      have g3' : ∀ y, y < x → v.getD y 0 = v.getD (m + y) 0 := fun y hy => by rw [← getD_drop, List.getD_eq_getElem?_getD, List.getD_eq_getElem?_getD, g3 y hy]
      have hmod : ∀ y, y < u.length → (m + y) % u.length = y := fun y hy => by rw [Nat.add_mod, hmu, Nat.zero_add, Nat.mod_mod, Nat.mod_eq_of_lt hy]
      have hnext : ∀ y, y < x → y < u.length → u.getD ((m + y) % u.length) 0 = v.getD (m + y) 0 := fun y hy hyu => by
       rw [hmod y hyu, ← g3' y hy]
       exact h3' y hyu
      by_cases hxu : x < u.length
      ·refine ⟨m + x, fun j hj => ?_, ?_⟩
       ·rw [cu, cv j (by omega)]
        rcases Nat.lt_or_ge j m with c | c
        ·exact hag j c
        ·have := hnext (j - m) (by omega) (by omega)
         rwa [show m + (j - m) = j by omega] at this
       ·rw [cu, cv (m + x) (by omega), hmod x hxu, h3' x hxu]; exact g4
      ·refine ih (m + u.length) (by omega) (by omega) (by omega) (by rw [Nat.add_mod_right]; exact hmu) (by omega) (fun j hj => ?_)
       rcases Nat.lt_or_ge j m with c | c
       ·exact hag j c
       ·have := hnext (j - m) (by omega) (by omega)
        rwa [show m + (j - m) = j by omega] at this
  exact step v.length u.length (by omega) hup h2 (Nat.mod_self _) (Nat.le_refl _) (fun j hj => by rw [Nat.mod_eq_of_lt hj]; exact h3' j hj)
 ·refine ⟨x, fun j hj => ?_, ?_⟩
  ·rw [cu, cv j (by omega), Nat.mod_eq_of_lt (by omega)]; exact h3' j hj
  ·rw [cu, cv x h2, Nat.mod_eq_of_lt h4]; exact h5
end
theorem order_uniq {p g : List Int} (hp : isPerm p) (hg : isPerm g) (hl : p.length = g.length) (h : ∀ i k, i < p.length → k < p.length → p.getD i 0 < p.getD k 0 → g.getD i 0 < g.getD k 0) : p = g := by
 have inj : ∀ {a : List Int}, isPerm a → ∀ v : Nat, v < a.length → ∃ i, i < a.length ∧ a.getD i 0 = v := fun ha v hv => by
  obtain ⟨i, hi, e⟩ := List.mem_iff_getElem.1 (ha.mem (show (0 : Int) ≤ v by omega) (by omega))
  exact ⟨i, hi, by rw [List.getD_eq_getElem?_getD, List.getElem?_eq_getElem hi]; exact e⟩
 have key : ∀ (v i : Nat), i < p.length → p.getD i 0 = v → g.getD i 0 = v := by
  intro v
  induction v using Nat.strongRecOn with
  | _ v ih =>
    intro i hi hpi
    have hgr := hg.1 _ (getD_mem (a := g) (i := i) (by omega))
    have hpr := hp.1 _ (getD_mem (a := p) (i := i) hi)
    rcases Int.lt_trichotomy (g.getD i 0) v with c | c | c
    ·obtain ⟨k, hk, hpk⟩ := inj hp (g.getD i 0).toNat (by omega)
     have hgk := ih (g.getD i 0).toNat (by omega) k hk hpk
     have := getD_inj hg.2 (i := k) (j := i) (by omega) (by omega) (by omega)
     subst this
     omega
    ·exact c
    ·obtain ⟨k, hk, hgk⟩ := inj hg v (by omega)
     have hpr2 := hp.1 _ (getD_mem (a := p) (i := k) (by omega))
     rcases Int.lt_trichotomy (p.getD k 0) v with e | e | e
     ·have := ih (p.getD k 0).toNat (by omega) k (by omega) (by omega)
      omega
     ·have := getD_inj hp.2 (i := k) (j := i) (by omega) hi (by omega)
      subst this
      omega
     ·have := h i k hi (by omega) (by omega)
      omega
 refine ext_getD hl (fun i hi => ?_)
 have hpr := hp.1 _ (getD_mem (a := p) (i := i) hi)
 have := key (p.getD i 0).toNat i hi (by omega)
 omega
section
variable {ws : List (List Int)} {T : List (Nat × Nat)}
def pre (ws : List (List Int)) (t : Nat × Nat) : Nat × Nat := onT ws t ((wd ws t.1).length - 1)
def omp (T : List (Nat × Nat)) (t : Nat × Nat) : Nat := T.idxOf t
theorem pre_is {t : Nat × Nat} (h : isT ws t) : isT ws (pre ws t) := onT_is h _
theorem omp_lt {t : Nat × Nat} (h : t ∈ T) : omp T t < T.length := List.idxOf_lt_length_iff.2 h
theorem at_omp {t : Nat × Nat} (h : t ∈ T) : at_ T (omp T t) = t := by
 unfold at_
 rw [List.getD_eq_getElem?_getD, List.getElem?_eq_getElem (omp_lt h)]
 exact List.getElem_idxOf (omp_lt h)
theorem omp_inj {t t' : Nat × Nat} (h : t ∈ T) (h' : t' ∈ T) (e : omp T t = omp T t') : t = t' := by
 rw [← at_omp h, ← at_omp h', e]
theorem omp_rises (hO : Omega ws T) {t t' : Nat × Nat} (h : isT ws t) (h' : isT ws t') (hl : ltT ws t t') : omp T t < omp T t' := by
 have m := (hO.all t).2 h
 have m' := (hO.all t').2 h'
 rcases Nat.lt_trichotomy (omp T t) (omp T t') with c | c | c
 ·exact c
 ·have := omp_inj m m' c
  subst this
  exact absurd hl (ltT_asymm hl)
 ·have := at_pw hO.rises c (omp_lt m)
  rw [at_omp m, at_omp m'] at this
  exact absurd hl (ltT_asymm this)
theorem om_nodup (hO : Omega ws T) : T.Nodup := hO.rises.imp (fun {a b} h e => by subst e; exact ltT_asymm h h)
theorem omp_at (hO : Omega ws T) {i : Nat} (hi : i < T.length) : omp T (at_ T i) = i := by
 have m := at_mem hi
 have h1 := at_omp m
 have h2 := omp_lt m
 rcases Nat.lt_trichotomy (omp T (at_ T i)) i with c | c | c
 ·have := at_pw (r := fun a b => a ≠ b) (om_nodup hO) c hi
  exact absurd h1 this
 ·exact c
 ·have := at_pw (r := fun a b => a ≠ b) (om_nodup hO) c h2
  exact absurd h1.symm this
def lastL (ws : List (List Int)) (T : List (Nat × Nat)) : List Int := T.map (lastC ws)
theorem lastL_length : (lastL ws T).length = T.length := by unfold lastL; rw [List.length_map]
theorem lastL_get {i : Nat} (hi : i < T.length) : (lastL ws T).getD i 0 = lastC ws (at_ T i) := by
 unfold lastL at_
 rw [List.getD_eq_getElem?_getD, List.getD_eq_getElem?_getD, List.getElem?_map, List.getElem?_eq_getElem hi]; rfl
theorem last_chr {t : Nat × Nat} (h : isT ws t) : lastC ws t = chr ws (pre ws t) 0 := by
 unfold pre
 rw [chr_on]
 have := h.2
 unfold lastC chr
 rw [show t.2 + ((wd ws t.1).length - 1 + 0) = t.2 + (wd ws t.1).length - 1 by omega]
theorem pre_chr {t : Nat × Nat} (h : isT ws t) (j : Nat) : chr ws (pre ws t) (1 + j) = chr ws t j := by
 unfold pre
 have := h.2
 rw [chr_on, show (wd ws t.1).length - 1 + (1 + j) = j + (wd ws t.1).length by omega, chr_per]
theorem pre_lt (hl : ∀ w, w ∈ ws → isLyn w) {t t' : Nat × Nat} (h : isT ws t) (h' : isT ws t') (hlt : lastC ws t < lastC ws t' ∨ (lastC ws t = lastC ws t' ∧ ltT ws t t')) : ltT ws (pre ws t) (pre ws t') := by
 rw [last_chr h, last_chr h'] at hlt
 rcases hlt with hlt | ⟨he, hlt | ⟨ha, hi⟩⟩
 ·exact .inl ⟨0, fun j hj => by omega, hlt⟩
 ·refine .inl ((ltS_shift (h := 1) (fun j hj => ?_)).2 ?_)
  ·obtain rfl : j = 0 := by omega
   exact he
  ·exact ltS_congl (ltS_congr hlt (fun j => (pre_chr h' j).symm)) (fun j => pre_chr h j)
 ·refine .inr ⟨fun j => ?_, ?_⟩
  ·cases j with
   | zero => exact he
   | succ j => rw [Nat.add_comm, pre_chr h, pre_chr h']; exact ha j
  ·rcases hi with hi | ⟨hi, hk⟩
   ·exact .inl hi
   ·obtain ⟨a, b⟩ := t
    obtain ⟨c, d⟩ := t'
    dsimp only at hi hk
    subst hi
    have hw : isLyn (wd ws a) := by
     refine hl _ ?_
     unfold wd
     rw [List.getD_eq_getElem?_getD, List.getElem?_eq_getElem h.1]; exact List.getElem_mem _
    have := lyn_prim hw h.2 h'.2 ha
    omega
def preG (ws : List (List Int)) (T : List (Nat × Nat)) : List Int := (List.range T.length).map (fun i => ((omp T (pre ws (at_ T i)) : Nat) : Int))
theorem preG_length : (preG ws T).length = T.length := by unfold preG; simp
theorem preG_get {i : Nat} (hi : i < T.length) : (preG ws T).getD i 0 = ((omp T (pre ws (at_ T i)) : Nat) : Int) := by
 unfold preG
 rw [List.getD_eq_getElem?_getD, List.getElem?_map, List.getElem?_range hi]; rfl
theorem pre_inj {t t' : Nat × Nat} (h : isT ws t) (h' : isT ws t') (e : pre ws t = pre ws t') : t = t' := by
 obtain ⟨a, b⟩ := t
 obtain ⟨c, d⟩ := t'
 unfold pre onT at e
 dsimp only at e
 injection e with e1 e2
 subst e1
 have h1 := h.2
 have h2 := h'.2
 dsimp only at h1 h2
 obtain ⟨n, hn⟩ : ∃ n, (wd ws a).length = n := ⟨_, rfl⟩
 rw [hn] at h1 h2 e2
 have key : ∀ x, x < n → (x + (n - 1)) % n = if x = 0 then n - 1 else x - 1 := by
  intro x hx
  by_cases hx0 : x = 0
  ·rw [if_pos hx0, hx0, Nat.zero_add, Nat.mod_eq_of_lt (by omega)]
  ·rw [if_neg hx0, show x + (n - 1) = x - 1 + n by omega, Nat.add_mod_right, Nat.mod_eq_of_lt (by omega)]
 rw [key b h1, key d h2] at e2
 have : b = d := by
  by_cases c1 : b = 0
  ·rw [if_pos c1] at e2
   by_cases c2 : d = 0
   ·omega
   ·rw [if_neg c2] at e2; omega
  ·rw [if_neg c1] at e2
   by_cases c2 : d = 0
   ·rw [if_pos c2] at e2; omega
   ·rw [if_neg c2] at e2; omega
 rw [this]
theorem preG_perm (hO : Omega ws T) : isPerm (preG ws T) := by
 have hm : ∀ i, i < T.length → pre ws (at_ T i) ∈ T := fun i hi => (hO.all _).2 (pre_is ((hO.all _).1 (at_mem hi)))
 refine ⟨fun x hx => ?_, ?_⟩
 ·rw [preG_length]
  unfold preG at hx
  obtain ⟨i, hi, rfl⟩ := List.mem_map.1 hx
  have := omp_lt (hm i (List.mem_range.1 hi))
  omega
 ·unfold preG
  rw [List.Nodup, List.pairwise_map]
  refine List.Pairwise.imp_of_mem (fun {a b} ha hb hab e => ?_) List.pairwise_lt_range
  have ha := List.mem_range.1 ha
  have hb := List.mem_range.1 hb
  have e1 := omp_inj (hm a ha) (hm b hb) (by omega)
  have e2 := pre_inj ((hO.all _).1 (at_mem ha)) ((hO.all _).1 (at_mem hb)) e1
  have h1 := omp_at hO ha
  have h2 := omp_at hO hb
  rw [e2] at h1
  omega
theorem lf_turn (hl : ∀ w, w ∈ ws → isLyn w) (hO : Omega ws T) (hb : isB (lastL ws T)) : lfOf (lastL ws T) = preG ws T := by
 have hlen : (lfOf (lastL ws T)).length = T.length := by rw [lfOf_length hb, lastL_length]
 refine order_uniq (inv_perm (lfS_perm hb)) (preG_perm hO) (by rw [preG_length]; exact hlen) (fun i k hi hk h => ?_)
 have hi' : i < T.length := hlen ▸ hi
 have hk' : k < T.length := hlen ▸ hk
 have hbk := (lfOf_lt hb (i := i) (k := k) (by rw [lastL_length]; exact hi') (by rw [lastL_length]; exact hk')).1 h
 rw [preG_get hi', preG_get hk']
 have ti := (hO.all _).1 (at_mem hi')
 have tk := (hO.all _).1 (at_mem hk')
 have := omp_rises hO (pre_is ti) (pre_is tk) (pre_lt hl ti tk (by
  unfold byK keyOf at hbk
  rw [Int.toNat_natCast, Int.toNat_natCast, lastL_get hi', lastL_get hk'] at hbk
  rcases hbk with h | ⟨h1, h2⟩
  ·exact .inl h
  ·exact .inr ⟨h1, at_pw hO.rises (by omega) hk'⟩))
 omega
end
section
variable {ws : List (List Int)} {T : List (Nat × Nat)}
theorem wd_mem {i : Nat} (h : i < ws.length) : wd ws i ∈ ws := by
 unfold wd
 rw [List.getD_eq_getElem?_getD, List.getElem?_eq_getElem h]; exact List.getElem_mem _
theorem preG_pos (hO : Omega ws T) {t : Nat × Nat} (h : isT ws t) : (preG ws T).getD (omp T t) 0 = ((omp T (pre ws t) : Nat) : Int) := by
 have m := (hO.all t).2 h
 rw [preG_get (omp_lt m), at_omp m]
def backT (ws : List (List Int)) (i k j : Nat) : Nat × Nat := (i, (k + j * ((wd ws i).length - 1)) % (wd ws i).length)
theorem backT_is {i k : Nat} (h : isT ws (i, k)) (j : Nat) : isT ws (backT ws i k j) := ⟨h.1, Nat.mod_lt _ (by have := h.2; dsimp only at this; show 0 < (wd ws i).length; omega)⟩
theorem backT_succ {i k j : Nat} : pre ws (backT ws i k j) = backT ws i k (j + 1) := by
 unfold pre onT backT
 dsimp only
 rw [Nat.add_mod, Nat.mod_mod, ← Nat.add_mod, Nat.add_assoc, Nat.add_mul, Nat.one_mul]
theorem backT_zero {i k : Nat} (h : isT ws (i, k)) : backT ws i k 0 = (i, k) := by
 unfold backT
 rw [Nat.zero_mul, Nat.add_zero, Nat.mod_eq_of_lt h.2]
theorem mod_back {n k j : Nat} (hn : 0 < n) (hj : j ≤ n) (hk : k < n) : (k + j * (n - 1)) % n = (k + (n - j)) % n := by
 obtain ⟨d, hd⟩ : ∃ d, n - j = d := ⟨_, rfl⟩
 have h : k + j * (n - 1) + n = k + (n - j) + j * n := by
  have : j * n = j * (n - 1) + j := by
   rw [← Nat.mul_succ, show (n - 1).succ = n by omega]
  omega
 have h2 : (k + j * (n - 1) + n) % n = (k + (n - j) + j * n) % n := by rw [h]
 rwa [Nat.add_mod_right, Nat.add_mul_mod_self_right] at h2
theorem ring_word (hl : ∀ w, w ∈ ws → isLyn w) (hO : Omega ws T) {c : List Int} (hr : isRing (preG ws T) c) (hmin : ∀ x ∈ c, c.getD 0 0 ≤ x) :
  ∃ i, i < ws.length ∧ c.getD 0 0 = ((omp T (i, 0) : Nat) : Int) ∧ c.length = (wd ws i).length ∧ rowL (lastL ws T) c = wd ws i := by
 obtain ⟨hne, hnd, hrg, hnx⟩ := hr
 have hpos := List.length_pos_iff.2 hne
 have h0 := hrg _ (getD_mem (a := c) (i := 0) hpos)
 rw [preG_length] at h0
 obtain ⟨⟨i, k⟩, ht⟩ : ∃ t, at_ T (c.getD 0 0).toNat = t := ⟨_, rfl⟩
 have hit : isT ws (i, k) := by rw [← ht]; exact (hO.all _).1 (at_mem (by omega))
 have hp0 : omp T (i, k) = (c.getD 0 0).toNat := by rw [← ht]; exact omp_at hO (by omega)
 have hik := hit.2
 dsimp only at hik
 have hlw := hl _ (wd_mem hit.1)
 have along : ∀ j, c.getD (j % c.length) 0 = ((omp T (backT ws i k j) : Nat) : Int) := by
  intro j
  induction j with
  | zero => rw [Nat.zero_mod, backT_zero hit, hp0]; omega
  | succ j ih =>
    have hj : j % c.length < c.length := Nat.mod_lt _ hpos
    have := hnx (j % c.length) hj
    rw [ih, Int.toNat_natCast, preG_pos hO (backT_is hit j), backT_succ] at this
    rw [this, Nat.add_mod j 1, Nat.add_mod (j % c.length) 1, Nat.mod_mod]
 obtain ⟨n, hn⟩ : ∃ n, (wd ws i).length = n := ⟨_, rfl⟩
 have hbk : ∀ j, j ≤ n → backT ws i k j = (i, (k + (n - j)) % n) := fun j hj => by
  unfold backT
  rw [hn, mod_back (by omega) hj (by omega)]
 have hk0 : k = 0 := by
  rcases Nat.eq_zero_or_pos k with h | h
  ·exact h
  ·exfalso
   have e := along k
   rw [hbk k (by omega), show k + (n - k) = n by omega, Nat.mod_self] at e
   have hm := getD_mem (a := c) (i := k % c.length) (Nat.mod_lt _ hpos)
   rw [e] at hm
   have h1 := hmin _ hm
   have h2 := omp_rises hO (t := (i, 0)) (t' := (i, k)) ⟨hit.1, by show 0 < (wd ws i).length; omega⟩ hit (.inl (lyn_first hlw h hit.2))
   omega
 subst hk0
 have hbk0 : ∀ j, j ≤ n → backT ws i 0 j = (i, (n - j) % n) := fun j hj => by rw [hbk j hj, Nat.zero_add]
 have hlen : c.length = n := by
  rcases Nat.lt_trichotomy c.length n with h | h | h
  ·exfalso
   have e := along c.length
   rw [Nat.mod_self, hbk0 _ (by omega), Nat.mod_eq_of_lt (by omega)] at e
   have e0 := along 0
   rw [Nat.zero_mod, backT_zero hit] at e0
   have := omp_inj ((hO.all (i, n - c.length)).2 ⟨hit.1, by show n - c.length < (wd ws i).length; omega⟩) ((hO.all (i, 0)).2 hit) (by omega)
   injection this with _ this
   omega
  ·exact h
  ·exfalso
   have e := along n
   rw [Nat.mod_eq_of_lt h, hbk0 n (Nat.le_refl _), Nat.sub_self, Nat.zero_mod] at e
   have e0 := along 0
   rw [Nat.zero_mod, backT_zero hit] at e0
   have := getD_inj hnd (i := n) (j := 0) h hpos (by omega)
   omega
 refine ⟨i, hit.1, by rw [hp0]; omega, by rw [hlen, hn], ?_⟩
 unfold rowL
 refine ext_getD (by rw [List.length_map, List.length_reverse, hlen, hn]) (fun j hj => ?_)
 rw [List.length_map, List.length_reverse, hlen] at hj
 have e1 : (c.reverse.map fun i => (lastL ws T).getD i.toNat 0).getD j 0 = (lastL ws T).getD (c.getD (n - 1 - j) 0).toNat 0 := by
  rw [List.getD_eq_getElem?_getD, List.getElem?_map, List.getElem?_reverse (by omega), hlen, List.getD_eq_getElem?_getD (l := c), List.getElem?_eq_getElem (show n - 1 - j < c.length by omega)]
  rfl
 have e2 := along (n - 1 - j)
 rw [Nat.mod_eq_of_lt (by omega), hbk0 _ (by omega), show n - (n - 1 - j) = j + 1 by omega] at e2
 have hit2 : isT ws (i, (j + 1) % n) := ⟨hit.1, by show (j + 1) % n < (wd ws i).length; rw [hn]; exact Nat.mod_lt _ (by omega)⟩
 have hm := (hO.all _).2 hit2
 rw [e1, e2, Int.toNat_natCast, lastL_get (omp_lt hm), at_omp hm]
 unfold lastC
 dsimp only
 rw [hn]
 congr 1
 by_cases hj1 : j + 1 = n
 ·rw [hj1, Nat.mod_self, Nat.zero_add, Nat.mod_eq_of_lt (by omega)]; omega
 ·rw [Nat.mod_eq_of_lt (show j + 1 < n by omega), show j + 1 + n - 1 = j + n by omega, Nat.add_mod_right, Nat.mod_eq_of_lt hj]
end
theorem weigh_all (f : Nat → Nat) : ∀ (m : Nat) (l : List Nat), l.Nodup → (∀ x ∈ l, x < m) → (∀ x, x < m → 0 < f x) → (l.map f).sum = ((List.range m).map f).sum → l.Perm (List.range m) := by
 intro m l hn hlt hpos hs
 have hmem : ∀ x, x < m → x ∈ l := by
  intro x hx
  refine Classical.byContradiction fun hnx => ?_
  have hn2 : (x :: l).Nodup := List.nodup_cons.2 ⟨hnx, hn⟩
  have hsub : ∀ y ∈ x :: l, y ∈ List.range m := fun y hy => by
   rcases List.mem_cons.1 hy with rfl | hy
   ·exact List.mem_range.2 hx
   ·exact List.mem_range.2 (hlt y hy)
  have hle : ∀ (a b : List Nat), a.Nodup → (∀ y ∈ a, y ∈ b) → (a.map f).sum ≤ (b.map f).sum := by
   intro a
   induction a with
   | nil => intro b _ _; simp
   | cons y a ih =>
     intro b ha hb
     rw [List.nodup_cons] at ha
     have hyb := hb y (by simp)
     have h1 := ih (b.erase y) ha.2 (fun z hz => (List.mem_erase_of_ne (by rintro rfl; exact ha.1 hz)).2 (hb z (by simp [hz])))
     have h2 := ((List.perm_cons_erase hyb).map f).sum_nat
     rw [List.map_cons, List.sum_cons] at h2 ⊢
     omega
  have h1 := hle _ _ hn2 hsub
  rw [List.map_cons, List.sum_cons, hs] at h1
  have := hpos x hx
  omega
 exact (List.perm_ext_iff_of_nodup hn List.nodup_range).2 (fun x => ⟨fun h => List.mem_range.2 (hlt x h), fun h => hmem x (List.mem_range.1 h)⟩)
section
variable {ws : List (List Int)} {T : List (Nat × Nat)}
theorem rots_length (ws : List (List Int)) : (rots ws).length = ((List.range ws.length).map fun i => (wd ws i).length).sum := by
 unfold rots
 rw [List.length_flatMap]
 congr 1
 refine List.map_congr_left (fun i _ => ?_)
 rw [List.length_map, List.length_range]
theorem om_length (hO : Omega ws T) : T.length = ((List.range ws.length).map fun i => (wd ws i).length).sum := by
 rw [← rots_length]
 exact ((List.perm_ext_iff_of_nodup (om_nodup hO) (rots_nodup ws)).2 (fun t => (hO.all t).trans (mem_rots ws t).symm)).length_eq
theorem wd_range (ws : List (List Int)) : (List.range ws.length).map (wd ws) = ws := by
 refine List.ext_getElem (by simp) (fun i h1 h2 => ?_)
 rw [List.getElem_map, List.getElem_range]
 unfold wd
 rw [List.getD_eq_getElem?_getD, List.getElem?_eq_getElem h2]; rfl
theorem sum_words (ws : List (List Int)) : ((List.range ws.length).map fun i => (wd ws i).length).sum = ws.flatten.length := by
 rw [List.length_flatten]
 have : (List.range ws.length).map (fun i => (wd ws i).length) = ws.map List.length := by
  conv => rhs; rw [← wd_range ws, List.map_map]
  rfl
 rw [this]
theorem back_words (hl : ∀ w, w ∈ ws → isLyn w) (hf : ws.Pairwise (fun u v => ¬ ltL u v)) (hO : Omega ws T) (hb : isB (lastL ws T)) : backL (lastL ws T) (cycOf (lfOf (lastL ws T))) = ws.flatten := by
 rw [lf_turn hl hO hb]
 obtain ⟨⟨h1, h2⟩, h3⟩ := cyc_spec (preG_perm hO)
 obtain ⟨R, hR⟩ : ∃ R, cycOf (preG ws T) = R := ⟨_, rfl⟩
 rw [hR] at h1 h2 h3 ⊢
 have hex : ∀ c, ∃ i : Nat, c ∈ R → (i < ws.length ∧ c.getD 0 0 = ((omp T (i, 0) : Nat) : Int) ∧ c.length = (wd ws i).length ∧ rowL (lastL ws T) c = wd ws i) := by
  intro c
  by_cases hc : c ∈ R
  ·obtain ⟨hr, _, hm⟩ := h1 c hc
   obtain ⟨i, hi⟩ := ring_word hl hO hr hm
   exact ⟨i, fun _ => hi⟩
  ·exact ⟨0, fun h => absurd h hc⟩
 obtain ⟨f, hf'⟩ := Classical.axiomOfChoice hex
 have hidx : (R.map f).Perm (List.range ws.length) := by
  refine weigh_all (fun i => (wd ws i).length) _ _ ?_ ?_ ?_ ?_
  ·rw [List.Nodup, List.pairwise_map]
   refine List.Pairwise.imp_of_mem (fun {c d} hc hd h e => ?_) h2
   have a1 := (hf' c hc).2.1
   have a2 := (hf' d hd).2.1
   rw [e] at a1
   omega
  ·intro x hx
   obtain ⟨c, hc, rfl⟩ := List.mem_map.1 hx
   exact (hf' c hc).1
  ·intro x hx
   exact List.length_pos_iff.2 (hl _ (wd_mem hx)).1
  ·rw [List.map_map]
   have e : R.map ((fun i => (wd ws i).length) ∘ f) = R.map List.length := List.map_congr_left (fun c hc => (hf' c hc).2.2.1.symm)
   rw [e, h3, preG_length, om_length hO]
 have hrow : R.map (rowL (lastL ws T)) = (R.map f).map (wd ws) := by
  rw [List.map_map]
  exact List.map_congr_left (fun c hc => (hf' c hc).2.2.2)
 unfold backL
 congr 1
 rw [List.map_reverse, hrow]
 refine List.Perm.eq_of_pairwise (le := fun u v => ¬ ltL u v) (fun a b _ _ h k => ?_) ?_ hf ?_
 ·rcases ltL_tri a b with c | c | c
  ·exact absurd c h
  ·exact c
  ·exact absurd c k
 ·rw [List.pairwise_reverse, List.map_map, List.pairwise_map]
  refine List.Pairwise.imp_of_mem (fun {c d} hc hd h hlt => ?_) h2
  have a := hf' c hc
  have b := hf' d hd
  have hc0 : isT ws (f c, 0) := ⟨a.1, List.length_pos_iff.2 (hl _ (wd_mem a.1)).1⟩
  have hd0 : isT ws (f d, 0) := ⟨b.1, List.length_pos_iff.2 (hl _ (wd_mem b.1)).1⟩
  have := omp_rises hO hd0 hc0 (.inl (lyn_omega (hl _ (wd_mem b.1)) (hl _ (wd_mem a.1)) hlt))
  have e1 := a.2.1
  have e2 := b.2.1
  omega
 ·refine (List.reverse_perm _).trans ?_
  have := hidx.map (wd ws)
  rwa [wd_range] at this
end
def TurnR (s y : List Int) : Prop := ∃ l, Facts s l ∧ y = lastL (cutW s l) (omegaT (cutW s l))
theorem last_mem {ws : List (List Int)} {t : Nat × Nat} (h : isT ws t) : lastC ws t ∈ ws.flatten := by
 rw [List.mem_flatten]
 refine ⟨wd ws t.1, wd_mem h.1, ?_⟩
 unfold lastC
 exact getD_mem (Nat.mod_lt _ (by have := h.2; omega))
theorem TurnR.length {s y : List Int} (h : TurnR s y) : y.length = s.length := by
 obtain ⟨l, hF, rfl⟩ := h
 rw [lastL_length, om_length (omegaT_is _), sum_words, (fallen_of hF).all]
theorem TurnR.mem {s y : List Int} (h : TurnR s y) : ∀ x ∈ y, x ∈ s := by
 obtain ⟨l, hF, rfl⟩ := h
 intro x hx
 obtain ⟨t, ht, rfl⟩ := List.mem_map.1 hx
 have := last_mem (((omegaT_is _).all t).1 ht)
 rwa [(fallen_of hF).all] at this
theorem TurnR.bytes {s y : List Int} (h : TurnR s y) (hb : isB s) : isB y := fun x hx => hb x (h.mem x hx)
theorem TurnR.back {s y : List Int} (h : TurnR s y) (hb : isB s) : backL y (cycOf (lfOf y)) = s := by
 have hy := h.bytes hb
 obtain ⟨l, hF, rfl⟩ := h
 have hW := fallen_of hF
 rw [back_words hW.lyn hW.falls (omegaT_is _) hy, hW.all]
def allB : Nat → List (List Int)
 | 0 => [[]]
 | n + 1 => (List.range 256).flatMap fun (b : Nat) => (allB n).map fun l => (b : Int) :: l
theorem allB_mem : ∀ {n : Nat} {l : List Int}, l ∈ allB n ↔ l.length = n ∧ isB l
 | 0, l => by
   rw [allB, List.mem_singleton]
   constructor
   ·rintro rfl; exact ⟨rfl, fun x hx => by simp at hx⟩
   ·rintro ⟨h, _⟩; exact List.eq_nil_of_length_eq_zero h
 | n + 1, l => by
   rw [allB, List.mem_flatMap]
   constructor
   ·rintro ⟨b, hb, h⟩
    obtain ⟨l', hl', rfl⟩ := List.mem_map.1 h
    have := allB_mem.1 hl'
    have hb := List.mem_range.1 hb
    refine ⟨by rw [List.length_cons, this.1], fun x hx => ?_⟩
    rcases List.mem_cons.1 hx with rfl | hx
    ·omega
    ·exact this.2 x hx
   ·rintro ⟨h, hb⟩
    cases l with
    | nil => simp at h
    | cons x l =>
      have hx := hb x (by simp)
      refine ⟨x.toNat, List.mem_range.2 (by omega), List.mem_map.2 ⟨l, allB_mem.2 ⟨by simpa using h, fun z hz => hb z (by simp [hz])⟩, ?_⟩⟩
      rw [Int.toNat_of_nonneg hx.1]
theorem onto {α : Type} [DecidableEq α] {A B : List α} (hA : A.Nodup) (hl : A.length = B.length) (hs : ∀ x ∈ A, x ∈ B) : ∀ x ∈ B, x ∈ A := by
 have hle : ∀ (a b : List α), a.Nodup → (∀ y ∈ a, y ∈ b) → a.length ≤ b.length := by
  intro a
  induction a with
  | nil => intro b _ _; simp
  | cons y a ih =>
    intro b ha hb
    rw [List.nodup_cons] at ha
    have hyb := hb y (by simp)
    have h1 := ih (b.erase y) ha.2 (fun z hz => (List.mem_erase_of_ne (by rintro rfl; exact ha.1 hz)).2 (hb z (by simp [hz])))
    have h2 := (List.perm_cons_erase hyb).length_eq
    rw [List.length_cons] at h2 ⊢
    omega
 intro x hx
 refine Classical.byContradiction fun hn => ?_
 have := hle (x :: A) B (List.nodup_cons.2 ⟨hn, hA⟩) (fun y hy => by
  rcases List.mem_cons.1 hy with rfl | hy
  ·exact hx
  ·exact hs y hy)
 rw [List.length_cons] at this
 omega
theorem allB_nodup : ∀ n, (allB n).Nodup
 | 0 => by simp [allB]
 | n + 1 => by
   rw [allB, List.flatMap]
   have gen : ∀ r : List Nat, r.Pairwise (· < ·) → ((r.map fun (b : Nat) => (allB n).map fun l => (b : Int) :: l).flatten).Nodup := by
    intro r hr
    induction r with
    | nil => exact List.nodup_nil
    | cons i r ih =>
      rw [List.pairwise_cons] at hr
      rw [List.map_cons, List.flatten_cons, List.nodup_append]
      refine ⟨?_, ih hr.2, ?_⟩
      ·refine List.Pairwise.map (R := fun a b => a ≠ b) _ (fun a b hab e => ?_) (allB_nodup n)
       injection e with _ e
       exact hab e
      ·intro a ha b hb e
       subst e
       obtain ⟨k, _, rfl⟩ := List.mem_map.1 ha
       obtain ⟨q, hq, hx⟩ := List.mem_flatten.1 hb
       obtain ⟨i', hi', rfl⟩ := List.mem_map.1 hq
       obtain ⟨k', _, e⟩ := List.mem_map.1 hx
       injection e with e _
       have := hr.1 i' hi'
       omega
   exact gen _ List.pairwise_lt_range
theorem turn_onto {y : List Int} (hex : ∀ s, s.length = y.length → isB s → ∃ l, Facts s l) (hb : isB y) : ∃ s, isB s ∧ s.length = y.length ∧ TurnR s y := by
 have hch : ∀ s, ∃ z, (s.length = y.length ∧ isB s) → TurnR s z := fun s => by
  by_cases h : s.length = y.length ∧ isB s
  ·obtain ⟨l, hl⟩ := hex s h.1 h.2
   exact ⟨_, fun _ => ⟨l, hl, rfl⟩⟩
  ·exact ⟨[], fun k => absurd k h⟩
 obtain ⟨F, hF⟩ := Classical.axiomOfChoice hch
 have h1 : ((allB y.length).map F).Nodup := by
  rw [List.Nodup, List.pairwise_map]
  refine List.Pairwise.imp_of_mem (fun {a b} ha hb hab e => hab ?_) (allB_nodup y.length)
  have ha := allB_mem.1 ha
  have hb := allB_mem.1 hb
  rw [← TurnR.back (hF a ha) ha.2, ← TurnR.back (hF b hb) hb.2, e]
 have h2 := onto (A := (allB y.length).map F) (B := allB y.length) h1 (by rw [List.length_map]) (fun x hx => by
  obtain ⟨s, hs, rfl⟩ := List.mem_map.1 hx
  have hs := allB_mem.1 hs
  exact allB_mem.2 ⟨by rw [TurnR.length (hF s hs)]; exact hs.1, TurnR.bytes (hF s hs) hs.2⟩) y (allB_mem.2 ⟨rfl, hb⟩)
 obtain ⟨s, hs, e⟩ := List.mem_map.1 h2
 have hs := allB_mem.1 hs
 exact ⟨s, hs.2, hs.1, e ▸ hF s hs⟩
theorem bij_Turn_ev (s : List Int) (hb : isB s) (hn : s.length ≤ 100000) : ∃ y, TurnR s y ∧ Ev (fun k => bij_Turn.f k s) (y, 0) := by
 obtain ⟨l, hF, hE⟩ := lyndon_Factors_ev s (by omega)
 refine ⟨_, ⟨l, hF, rfl⟩, ?_⟩
 have hpos := hF.pos
 have hsm : ∀ l : List Int, (∀ x ∈ l, 0 < x) → ((smN l l.length : Nat) : Int) = l.sum := by
  intro l hl
  unfold smN
  rw [List.take_length]
  induction l with
  | nil => rfl
  | cons x l ih =>
    rw [List.map_cons, List.sum_cons, List.sum_cons, ← ih (fun y hy => hl y (by simp [hy]))]
    have := hl x (by simp)
    omega
 have h1 := hsm l hpos
 rw [hF.sum] at h1
 refine Ev.congr (fun k => by rw [bij_Turn.f, if_pos ⟨fun x hx => by have := hb x hx; omega, hn⟩]) ?_
 refine Ev.bind hE ?_
 rw [if_pos ⟨hpos, by omega, hF.len⟩]
 exact Ev.now _
theorem TurnR.one {s y z : List Int} (h : TurnR s y) (k : TurnR s z) : y = z := by
 obtain ⟨l, h1, rfl⟩ := h
 obtain ⟨l', h2, rfl⟩ := k
 rw [h1.det h2]
theorem facts_ex (s : List Int) (hn : s.length ≤ 100000) : ∃ l, Facts s l := by
 obtain ⟨l, hF, _⟩ := lyndon_Factors_ev s (by omega)
 exact ⟨l, hF⟩
theorem bij_Back_ev (y : List Int) (hb : isB y) (hn : y.length ≤ 100000) (hlen : (backL y (cycOf (lfOf y))).length ≤ 100000) : Ev (fun k => bij_Back.f k y) (backL y (cycOf (lfOf y)), 0) := by
 refine Ev.congr (fun k => by rw [bij_Back.f, if_pos hn]) ?_
 refine Ev.bind (lf_Of_ev y (by omega) hb) ?_
 have hp : isPerm (lfOf y) := inv_perm (lfS_perm hb)
 have hpl : (lfOf y).length = y.length := lfOf_length hb
 refine Ev.bind (lf_Cycles_ev (lfOf y) (by omega)) ?_
 rw [cycR, if_pos hp]
 obtain ⟨⟨h1, h2⟩, h3⟩ := cyc_spec hp
 have hle : ∀ c ∈ cycOf (lfOf y), c.length ≤ y.length := fun c hc => by
  have : ∀ R : List (List Int), c ∈ R → c.length ≤ (R.map List.length).sum := by
   intro R
   induction R with
   | nil => intro h; simp at h
   | cons d R ih =>
     intro h
     rw [List.map_cons, List.sum_cons]
     rcases List.mem_cons.1 h with rfl | h
     ·omega
     ·have := ih h; omega
  have := this _ hc
  omega
 have hcl : (cycOf (lfOf y)).length ≤ y.length := by
  have : ∀ R : List (List Int), (∀ c ∈ R, 0 < c.length) → R.length ≤ (R.map List.length).sum := by
   intro R
   induction R with
   | nil => intro _; simp
   | cons c R ih =>
     intro h
     have := ih (fun d hd => h d (by simp [hd]))
     have := h c (by simp)
     rw [List.map_cons, List.sum_cons, List.length_cons]; omega
  have := this _ (fun c hc => List.length_pos_iff.2 (h1 c hc).1.1)
  omega
 have g1 : ∀ c ∈ cycOf (lfOf y), ∀ x ∈ c, 0 ≤ x ∧ x < (y.length : Int) := fun c hc x hx => by
  have := (h1 c hc).1.2.2.1 x hx
  omega
 have g2 : (cycOf (lfOf y)).length ≤ 100000 := by omega
 have g3 : ∀ c ∈ cycOf (lfOf y), c.length ≤ 100000 := fun c hc => by
  have := hle c hc
  omega
 dsimp only
 rw [if_pos ⟨rfl, g1, g2, g3, hlen⟩]
 exact Ev.now _
theorem kinds_Small_l0 (s : List Int) (hn : s.length ≤ 140737488355328) : ∀ (d : Nat) (l : List Bool), l.length = s.length → d + 1 ≤ s.length → (∀ j, d ≤ j → j < s.length → l.getD j false = sml s j) →
  Ev (fun k => kinds_Small.l0 k s l ((d : Int) - 1)) (smls s) := by
 intro d
 induction d with
 | zero =>
   intro l hl hd h
   refine Ev.step (fun k => by rw [kinds_Small.l0]) ?_
   simp only [if_neg (show ¬ ((0 : Nat) : Int) - 1 ≥ 0 by omega)]
   rw [extB (a := l) (b := smls s) (by rw [hl, smls_length]) (fun i hi => by rw [smls_get (by omega)]; exact h i (by omega) (by omega))]
   exact Ev.now _
 | succ d ih =>
   intro l hl hd h
   refine Ev.step (fun k => by rw [kinds_Small.l0]) ?_
   have e : ((d + 1 : Nat) : Int) - 1 = (d : Int) := by omega
   have w1 : wrap64 ((d : Int) + 1) = ((d + 1 : Nat) : Int) := wrap_nat (n := d + 1) (by omega) (by omega)
   have w2 : wrap64 ((d : Int) - 1) = (d : Int) - 1 := wrap64_id (by omega) (by omega)
   simp only [e, w1, w2, rd_nat, rdB_nat, Int.toNat_natCast]
   simp only [if_pos (show (d : Int) ≥ 0 by omega), if_pos (show 0 ≤ (d : Int) by omega), if_pos (show (d : Int) < s.length by omega), if_pos (show (0 : Int) ≤ ((d + 1 : Nat) : Int) by omega), if_pos (show ((d + 1 : Nat) : Int) < s.length by omega),
    if_pos (show (d : Int) < l.length by omega), if_pos (show ((d + 1 : Nat) : Int) < l.length by omega)]
   have hs := sml_step (s := s) (i := d) (by omega)
   have key : ∀ b : Bool, b = sml s d → Ev (fun k => kinds_Small.l0 k s (l.set d b) ((d : Int) - 1)) (smls s) := fun b hb => by
    refine ih _ (by rw [List.length_set, hl]) (by omega) (fun j hj1 hj2 => ?_)
    rw [lset (by omega)]
    by_cases e2 : d = j
    ·rw [if_pos e2, hb, e2]
    ·rw [if_neg e2]; exact h j (by omega) hj2
   by_cases h1 : s.getD d 0 < s.getD (d + 1) 0
   ·simp only [if_pos h1]
    exact key _ (by rw [hs]; simp only [h1, decide_true, Bool.true_or])
   ·by_cases h2 : s.getD d 0 = s.getD (d + 1) 0
    ·simp only [if_neg h1, if_pos h2]
     exact key _ (by rw [hs, h (d + 1) (by omega) (by omega)]; simp only [h1, h2, decide_true, decide_false, Bool.false_or, Bool.true_and]; simp)
    ·simp only [if_neg h1, if_neg h2]
     exact key _ (by rw [hs]; simp only [h1, h2, decide_false, Bool.false_and, Bool.or_self])
theorem kinds_Small_ev (s : List Int) (hn : s.length ≤ 140737488355328) : Ev (fun k => kinds_Small.f k s) (smls s) := by
 refine Ev.congr (fun k => by rw [kinds_Small.f]) ?_
 simp only [Int.toNat_natCast]
 simp only [if_pos (show 0 ≤ (s.length : Int) by omega), if_pos (show s.length ≤ 281474976710656 by omega)]
 rw [wrap64_id (by omega) (by omega)]
 by_cases h0 : s.length = 0
 ·refine Ev.step (fun k => by rw [kinds_Small.l0]) ?_
  simp only [if_neg (show ¬ (s.length : Int) - 2 ≥ 0 by omega), h0]
  have : s = [] := List.eq_nil_of_length_eq_zero h0
  subst this
  exact Ev.now _
 ·have e : (s.length : Int) - 2 = ((s.length - 1 : Nat) : Int) - 1 := by omega
  rw [e]
  refine kinds_Small_l0 s hn (s.length - 1) _ (by simp) (by omega) (fun j h1 h2 => ?_)
  rw [getD_replicate, sml_last (by omega)]
theorem kinds_First_l0 (s : List Int) (hn : s.length ≤ 140737488355328) : ∀ (d i : Nat) (acc : List Int), i + d = s.length → acc = frs s i → s.length ≤ 17592186044416 →
  Ev (fun k => kinds_First.l0 k acc (smls s) (s.length : Int) (i : Int)) (frs s s.length) := by
 intro d
 induction d with
 | zero =>
   intro i acc hd ha hm
   obtain rfl : i = s.length := by omega
   subst ha
   refine Ev.step (fun k => by rw [kinds_First.l0]) ?_
   simp only [if_neg (show ¬ (s.length : Int) < s.length by omega)]
   exact Ev.now _
 | succ d ih =>
   intro i acc hd ha hm
   have hi : i < s.length := by omega
   refine Ev.step (fun k => by rw [kinds_First.l0]) ?_
   have hl := frs_len s i
   rw [← ha] at hl
   simp only [if_pos (show (i : Int) < s.length by omega), if_pos (show 0 ≤ (i : Int) by omega), wrap_nat hi hn, smls_length, rdB_nat, smls_get hi]
   have key : ∀ acc' : List Int, acc' = acc ++ (if isFr s i = true then [(i : Int)] else []) → Ev (fun k => kinds_First.l0 k acc' (smls s) (s.length : Int) ((i + 1 : Nat) : Int)) (frs s s.length) := fun acc' h => ih (i + 1) acc' (by omega) (by rw [h, ha, frs_succ]) hm
   by_cases h0 : 0 < i
   ·have w : wrap64 ((i : Int) - 1) = ((i - 1 : Nat) : Int) := by rw [wrap64_id (by omega) (by omega)]; omega
    simp only [if_pos (show (i : Int) > 0 by omega), w, rdB_nat, smls_get (show i - 1 < s.length by omega)]
    simp only [if_pos (show (0 : Int) ≤ ((i - 1 : Nat) : Int) by omega), if_pos (show ((i - 1 : Nat) : Int) < s.length by omega)]
    by_cases h1 : sml s i = true
    ·simp only [h1, if_true]
     by_cases h2 : sml s (i - 1) = true
     ·simp only [h2, if_true]
      exact key _ (by simp [isFr, h2])
     ·have h2' : sml s (i - 1) = false := by simpa using h2
      simp only [h2', if_neg (show ¬ false = true by decide), if_pos (show acc.length < 17592186044416 by omega)]
      exact key _ (by simp [isFr, h0, h1, h2'])
    ·have h1' : sml s i = false := by simpa using h1
     simp only [h1', if_neg (show ¬ false = true by decide)]
     exact key _ (by simp [isFr, h1'])
   ·simp only [if_neg (show ¬ (i : Int) > 0 by omega)]
    exact key _ (by simp [isFr, h0])
theorem kinds_First_ev (s : List Int) (hn : s.length ≤ 17592186044416) : Ev (fun k => kinds_First.f k s) (frs s s.length) := by
 refine Ev.congr (fun k => by rw [kinds_First.f]) ?_
 refine Ev.bind (kinds_Small_ev s (by omega)) ?_
 exact kinds_First_l0 s (by omega) s.length 0 [] (by omega) (by simp [frs]) hn
theorem slices_Equal_l0 (a b : List Int) (hl : a.length = b.length) (hn : a.length ≤ 140737488355328) : ∀ (d i : Nat), i + d = a.length → (∀ j, j < i → a.getD j 0 = b.getD j 0) → Ev (fun k => slices_Equal_int_int.l0 k a b (a.length : Int) (i : Int)) (decide (a = b)) := by
 intro d
 induction d with
 | zero =>
   intro i hd h
   refine Ev.step (fun k => by rw [slices_Equal_int_int.l0]) ?_
   simp only [if_neg (show ¬ (i : Int) < a.length by omega)]
   rw [decide_eq_true (ext_getD hl (fun j hj => h j (by omega)))]
   exact Ev.now _
 | succ d ih =>
   intro i hd h
   have hi : i < a.length := by omega
   refine Ev.step (fun k => by rw [slices_Equal_int_int.l0]) ?_
   simp only [if_pos (show (i : Int) < a.length by omega), if_pos (show 0 ≤ (i : Int) by omega), if_pos (show (i : Int) < b.length by omega), rd_nat, wrap_nat hi hn]
   by_cases e : a.getD i 0 = b.getD i 0
   ·simp only [if_pos e]
    refine ih (i + 1) (by omega) (fun j hj => ?_)
    by_cases e2 : j = i
    ·rw [e2]; exact e
    ·exact h j (by omega)
   ·simp only [if_neg e]
    rw [decide_eq_false (fun hab => e (by rw [hab]))]
    exact Ev.now _
theorem slices_Equal_ev (a b : List Int) (hn : a.length ≤ 140737488355328) : Ev (fun k => slices_Equal_int_int.f k a b) (decide (a = b)) := by
 refine Ev.congr (fun k => by rw [slices_Equal_int_int.f]) ?_
 by_cases e : a.length = b.length
 ·simp only [if_pos (show (a.length : Int) = b.length by omega)]
  exact slices_Equal_l0 a b e hn a.length 0 (by omega) (fun j hj => by omega)
 ·simp only [if_neg (show ¬ (a.length : Int) = b.length by omega)]
  rw [decide_eq_false (fun hab => e (by rw [hab]))]
  exact Ev.now _
open Go.Proofs.YtbbpplnnegdenaaGreat.So Go.Proofs.YtbbpplnnegdenaaGreat.St
theorem firstF_eq {s st row : List Int} {j v : Nat} (hj : j < s.length) (hs0 : 0 ≤ s.getD j 0) (hs1 : s.getD j 0 < st.length) (hv : st.getD (s.getD j 0).toNat 0 = (v : Int)) (hvl : v < row.length) (hb : row.length ≤ 1000000) :
  firstF s st row (j : Int) = some (st.set (s.getD j 0).toNat ((v : Int) + 1), row.set v (j : Int)) := by
 unfold firstF
 rw [Int.toNat_natCast, hv, if_pos ⟨by omega, by omega⟩, if_pos ⟨hs0, hs1⟩, if_pos ⟨by omega, by omega, by omega⟩, Int.toNat_natCast]
theorem lastF_eq {s en row : List Int} {j v : Nat} (hj : j < s.length) (hs0 : 0 ≤ s.getD j 0) (hs1 : s.getD j 0 < en.length) (hv : en.getD (s.getD j 0).toNat 0 = (v : Int) + 1) (hvl : v < row.length) (hb : row.length ≤ 1000000) :
  lastF s en row (j : Int) = some (en.set (s.getD j 0).toNat (v : Int), row.set v (j : Int)) := by
 unfold lastF
 rw [Int.toNat_natCast, hv, if_pos ⟨by omega, by omega⟩, if_pos ⟨hs0, hs1⟩, if_pos ⟨by omega, by omega, by omega⟩, show (v : Int) + 1 - 1 = v by omega, Int.toNat_natCast]
def cdOf (l : List Int) (x : Nat) : Int := (l.idxOf (x : Int) : Int)
theorem cdOf_ok {s l : List Int} (hs : ∀ x ∈ s, 0 ≤ x) (hf : ∀ x, x ∈ l ↔ x ∈ frs s s.length) : cdOk s (cdOf l) := by
 refine ⟨hs, fun a b ha hb h => ?_⟩
 have h1 := idxOf_getD ((hf (a : Int)).2 (frs_iff.2 ⟨a, rfl, ha⟩))
 have h2 := idxOf_getD ((hf (b : Int)).2 (frs_iff.2 ⟨b, rfl, hb⟩))
 unfold cdOf at h
 have h3 : l.idxOf (a : Int) = l.idxOf (b : Int) := by omega
 rw [h3, h2] at h1
 omega
theorem cdOf_at {l : List Int} (hnd : l.Nodup) {m q : Nat} (hm : m < l.length) (h : l.getD m 0 = (q : Int)) : cdOf l q = m := by
 unfold cdOf
 have h1 : (q : Int) ∈ l := by rw [← h]; exact getD_mem hm
 have := getD_inj hnd (List.idxOf_lt_length_of_mem h1) hm (by rw [idxOf_getD h1, h])
 rw [this]
theorem lastAll_go {s first : List Int} {k : Nat} (hn : s.length ≤ 1000000) (hv : ∀ x ∈ s, 0 ≤ x ∧ x < (k : Int)) (hf : ∀ x, x ∈ first ↔ x ∈ frs s s.length) (hnd : first.Nodup) :
  ∀ (m : Nat), m ≤ first.length → ∀ (en row : List Int), en.length = k →
  (∀ c : Nat, c < k → en.getD c 0 + (cN s.length (fun x => isFr s x && (decide (s.getD x 0 = (c : Int)) && decide ((m : Int) ≤ cdOf first x))) : Nat) = (eN s c : Int)) →
  RowI s.length (posU s (cdOf first)) (fun x => isFr s x = true ∧ (m : Int) ≤ cdOf first x) row →
  ∃ X, lastAll s (first.take m).reverse en row = some X ∧ RowI s.length (posU s (cdOf first)) (fun x => isFr s x = true) X.2 := by
 have hc : cdOk s (cdOf first) := cdOf_ok (fun x hx => (hv x hx).1) hf
 intro m
 induction m with
 | zero =>
   intro hm en row hl he hr
   refine ⟨(en, row), by simp [lastAll], hr.congr (fun x _ => ⟨fun h => ⟨h, by unfold cdOf; omega⟩, fun h => h.1⟩) (fun _ _ _ => rfl)⟩
 | succ m ih =>
   intro hm en row hl he hr
   obtain ⟨q, hq, hqf⟩ := frs_iff.1 ((hf _).1 (getD_mem (show m < first.length by omega)))
   have hcq := cdOf_at hnd (by omega) hq
   have hqn := fr_in hqf
   have hvq := hv _ (getD_mem hqn)
   obtain ⟨c, hcc⟩ : ∃ c : Nat, s.getD q 0 = (c : Int) := ⟨(s.getD q 0).toNat, by omega⟩
   have hck : c < k := by omega
   have hone : cN s.length (fun x => isFr s x && (decide (s.getD x 0 = (c : Int)) && decide ((m : Int) ≤ cdOf first x))) = cN s.length (fun x => isFr s x && (decide (s.getD x 0 = (c : Int)) && decide (((m + 1 : Nat) : Int) ≤ cdOf first x))) + 1 := by
    refine cN_one hqn (by simp [hcq]; omega) (fun x hx => ?_)
    rw [Bool.eq_iff_iff]
    simp only [Bool.or_eq_true, Bool.and_eq_true, decide_eq_true_eq, beq_iff_eq]
    constructor
    ·rintro ⟨h1, h2, h3⟩
     by_cases e : x = q
     ·exact .inr e
     ·refine .inl ⟨h1, h2, ?_⟩
      have : cdOf first x ≠ m := fun h => e (hc.2 x q h1 hqf (by rw [h, hcq]))
      omega
    ·rintro (⟨h1, h2, h3⟩ | rfl)
     ·exact ⟨h1, h2, by omega⟩
     ·exact ⟨hqf, hcc, by omega⟩
   have hpos := pos_fr (cd := cdOf first) hqf
   rw [hcc, hcq] at hpos
   have hen := he c hck
   have hlf := lastF_eq (s := s) (en := en) (row := row) (j := q) (v := posU s (cdOf first) q) hqn hvq.1 (by omega) (by rw [hcc, Int.toNat_natCast]; omega) (by rw [hr.len]; exact pos_lt hqn) (by rw [hr.len]; exact hn)
   rw [take_next (by omega), List.reverse_append, List.reverse_singleton, List.singleton_append, lastAll, hq, hlf, Option.bind_some, hcc, Int.toNat_natCast]
   refine ih (by omega) _ _ (by rw [List.length_set, hl]) (fun c' hc' => ?_) (hr.set hqn (pos_lt hqn) (fun x hx hx2 hne h => hne (pos_inj hc hx hqn (.inr hx2.1) (.inr hqf) h)) (fun x hx => ?_))
   ·rw [lset (by omega)]
    by_cases e : c = c'
    ·rw [if_pos e, ← e]; omega
    ·rw [if_neg e]
     have := he c' hc'
     rw [cN_congr (q := fun x => isFr s x && (decide (s.getD x 0 = (c' : Int)) && decide (((m + 1 : Nat) : Int) ≤ cdOf first x)))]
     ·exact this
     ·intro x hx
      rw [Bool.eq_iff_iff]
      simp only [Bool.and_eq_true, decide_eq_true_eq]
      constructor
      ·rintro ⟨h1, h2, h3⟩
       refine ⟨h1, h2, ?_⟩
       have : cdOf first x ≠ m := fun h => by
        have := hc.2 x q h1 hqf (by rw [h, hcq])
        subst this; omega
       omega
      ·rintro ⟨h1, h2, h3⟩; exact ⟨h1, h2, by omega⟩
   ·constructor
    ·rintro ⟨h1, h2⟩
     by_cases e : x = q
     ·exact .inr e
     ·have : cdOf first x ≠ m := fun h => e (hc.2 x q h1 hqf (by rw [h, hcq]))
      exact .inl ⟨h1, by omega⟩
    ·rintro (⟨h1, h2⟩ | rfl)
     ·exact ⟨h1, by omega⟩
     ·exact ⟨hqf, by omega⟩
theorem largeL_go {s : List Int} {cd : Nat → Int} {k : Nat} (hc : cdOk s cd) (hn : s.length ≤ 1000000) (hv : ∀ x ∈ s, 0 ≤ x ∧ x < (k : Int)) :
  ∀ (d i : Nat) (st row : List Int), i + d = s.length → st.length = k →
  (∀ c : Nat, c < k → st.getD c 0 = ((bN s c + cN s.length (fun x => !sml s x && (decide (s.getD x 0 = (c : Int)) && (decide (x + 1 = s.length) || decide (posU s cd (x + 1) < i)))) : Nat) : Int)) →
  RowI s.length (posU s cd) (fun x => isFr s x = true ∨ (sml s x = false ∧ (x + 1 = s.length ∨ posU s cd (x + 1) < i))) row →
  ∃ r, largeL s (smls s) d i st row = some r ∧ RowI s.length (posU s cd) (fun x => isFr s x = true ∨ sml s x = false) r := by
 intro d
 induction d with
 | zero =>
   intro i st row hd hl hst hr
   refine ⟨row, rfl, hr.congr (fun x hx => ⟨fun h => h.imp id (fun h => ⟨h, ?_⟩), fun h => h.imp id (fun h => h.1)⟩) (fun _ _ _ => rfl)⟩
   by_cases e : x + 1 = s.length
   ·exact .inl e
   ·have := pos_lt (cd := cd) (show x + 1 < s.length by omega)
    exact .inr (by omega)
 | succ d ih =>
   intro i st row hd hl hst hr
   have hi : i < s.length := by omega
   have hG : ∀ q, q < s.length → inU s q → posU s cd q = i → row.getD i 0 = (q : Int) := fun q hq uq he => by
    rw [← he]
    refine hr.at_ q hq ?_
    cases h1 : isFr s q
    ·have h2 : sml s q = false := uq.elim id (fun k => by rw [h1] at k; cases k)
     refine .inr ⟨h2, ?_⟩
     by_cases e : q + 1 = s.length
     ·exact .inl e
     ·have := pos_next hc (show q + 1 < s.length by omega) h2
      exact .inr (by omega)
    ·exact .inl rfl
   have keep : (∀ x, x < s.length → sml s x = false → x + 1 < s.length → posU s cd (x + 1) ≠ i) → ∃ r, largeL s (smls s) d (i + 1) st row = some r ∧ RowI s.length (posU s cd) (fun x => isFr s x = true ∨ sml s x = false) r := fun hno => by
    refine ih (i + 1) st row (by omega) hl (fun c hck => ?_) (hr.congr (fun x hx => ?_) (fun _ _ _ => rfl))
    ·rw [hst c hck]
     congr 2
     refine cN_congr (fun x hx => ?_)
     rw [Bool.eq_iff_iff]
     simp only [Bool.and_eq_true, Bool.or_eq_true, decide_eq_true_eq, Bool.not_eq_true']
     constructor
     ·rintro ⟨h1, h2, h3⟩; exact ⟨h1, h2, h3.imp id (fun h => by omega)⟩
     ·rintro ⟨h1, h2, h3⟩
      refine ⟨h1, h2, ?_⟩
      by_cases e : x + 1 = s.length
      ·exact .inl e
      ·have := hno x hx h1 (by omega)
       exact h3.imp id (fun h => by omega)
    ·constructor
     ·rintro (h | ⟨h1, h3⟩)
      ·exact .inl h
      ·refine .inr ⟨h1, ?_⟩
       by_cases e : x + 1 = s.length
       ·exact .inl e
       ·have := hno x hx h1 (by omega)
        exact h3.imp id (fun h => by omega)
     ·rintro (h | ⟨h1, h3⟩)
      ·exact .inl h
      ·exact .inr ⟨h1, h3.imp id (fun h => by omega)⟩
   rw [largeL]
   rcases hr.read hi with h1 | ⟨p, hp, hpl, hpi, h1⟩
   ·rw [h1, if_neg (by omega)]
    refine keep (fun x hx h2 h3 h4 => ?_)
    have := hG (x + 1) h3 (inU_next h2) h4
    omega
   ·have up : inU s p := hpl.elim .inr (fun h => .inl h.1)
    have hone : ∀ x, x < s.length → sml s x = false → x + 1 < s.length → (posU s cd (x + 1) = i ↔ x + 1 = p) := fun x hx h2 h3 => by
     constructor
     ·intro h4; exact pos_inj hc h3 hp (inU_next h2) up (by rw [h4, hpi])
     ·intro h4; rw [h4, hpi]
    rw [h1]
    by_cases hp0 : p = 0
    ·rw [if_neg (by omega)]
     exact keep (fun x hx h2 h3 h4 => by have := (hone x hx h2 h3).1 h4; omega)
    ·obtain ⟨j, rfl⟩ : ∃ j, p = j + 1 := ⟨p - 1, by omega⟩
     have hj : j < s.length := by omega
     rw [show ((j + 1 : Nat) : Int) - 1 = (j : Int) by omega, if_pos (by omega), smls_length, if_pos (by omega), Int.toNat_natCast, smls_get hj]
     cases hs : sml s j
     ·rw [if_neg (by simp)]
      have hvj := hv _ (getD_mem hj)
      obtain ⟨c, hcc⟩ : ∃ c : Nat, s.getD j 0 = (c : Int) := ⟨(s.getD j 0).toNat, by omega⟩
      have hck : c < k := by omega
      have hpr := pos_rec hc hp hs
      rw [hpi, hcc] at hpr
      have hff := firstF_eq (s := s) (st := st) (row := row) (j := j) (v := posU s cd j) hj hvj.1 (by omega) (by rw [hcc, Int.toNat_natCast, hst c hck, hpr]) (by rw [hr.len]; exact pos_lt hj) (by rw [hr.len]; exact hn)
      rw [hff, Option.bind_some, hcc, Int.toNat_natCast]
      refine ih (i + 1) _ _ (by omega) (by rw [List.length_set, hl]) (fun c' hc' => ?_) (hr.set hj (pos_lt hj) (fun x hx hx2 hne h => hne (pos_inj hc hx hj (hx2.elim .inr (fun h => .inl h.1)) (.inl hs) h)) (fun x hx => ?_))
      ·rw [lset (by omega)]
       by_cases e : c = c'
       ·rw [if_pos e, ← e, hpr]
        have : cN s.length (fun x => !sml s x && (decide (s.getD x 0 = (c : Int)) && (decide (x + 1 = s.length) || decide (posU s cd (x + 1) < i + 1)))) = cN s.length (fun x => !sml s x && (decide (s.getD x 0 = (c : Int)) && (decide (x + 1 = s.length) || decide (posU s cd (x + 1) < i)))) + 1 := by
         refine cN_one hj (by
          have e1 : ¬ j + 1 = s.length := by omega
          have e2 : ¬ posU s cd (j + 1) < i := by omega
          simp [e1, e2]) (fun x hx => ?_)
         rw [Bool.eq_iff_iff]
         simp only [Bool.and_eq_true, Bool.or_eq_true, decide_eq_true_eq, Bool.not_eq_true', beq_iff_eq]
         constructor
         ·rintro ⟨g1, g2, g3⟩
          by_cases e1 : x + 1 = s.length
          ·exact .inl ⟨g1, g2, .inl e1⟩
          ·by_cases e2 : posU s cd (x + 1) = i
           ·have := (hone x hx g1 (by omega)).1 e2
            exact .inr (by omega)
           ·exact .inl ⟨g1, g2, .inr (by rcases g3 with g3 | g3 <;> omega)⟩
         ·rintro (⟨g1, g2, g3⟩ | rfl)
          ·exact ⟨g1, g2, g3.imp id (fun h => by omega)⟩
          ·exact ⟨hs, hcc, .inr (by omega)⟩
        omega
       ·rw [if_neg e, hst c' hc']
        congr 2
        refine cN_congr (fun x hx => ?_)
        rw [Bool.eq_iff_iff]
        simp only [Bool.and_eq_true, Bool.or_eq_true, decide_eq_true_eq, Bool.not_eq_true']
        constructor
        ·rintro ⟨g1, g2, g3⟩; exact ⟨g1, g2, g3.imp id (fun h => by omega)⟩
        ·rintro ⟨g1, g2, g3⟩
         refine ⟨g1, g2, ?_⟩
         by_cases e1 : x + 1 = s.length
         ·exact .inl e1
         ·by_cases e2 : posU s cd (x + 1) = i
          ·have := (hone x hx g1 (by omega)).1 e2
           obtain rfl : x = j := by omega
           omega
          ·exact .inr (by rcases g3 with g3 | g3 <;> omega)
      ·constructor
       ·rintro (h | ⟨g1, g3⟩)
        ·exact .inl (.inl h)
        ·by_cases e1 : x + 1 = s.length
         ·exact .inl (.inr ⟨g1, .inl e1⟩)
         ·by_cases e2 : posU s cd (x + 1) = i
          ·have := (hone x hx g1 (by omega)).1 e2
           exact .inr (by omega)
          ·exact .inl (.inr ⟨g1, .inr (by rcases g3 with g3 | g3 <;> omega)⟩)
       ·rintro ((h | ⟨g1, g3⟩) | rfl)
        ·exact .inl h
        ·exact .inr ⟨g1, g3.imp id (fun h => by omega)⟩
        ·exact .inr ⟨hs, .inr (by omega)⟩
     ·rw [if_pos rfl]
      exact keep (fun x hx h2 h3 h4 => by
       have := (hone x hx h2 h3).1 h4
       obtain rfl : x = j := by omega
       rw [hs] at h2; cases h2)
theorem clearL_go {s : List Int} {cd : Nat → Int} (hc : cdOk s cd) : ∀ (d i : Nat) (row : List Int), i + d = s.length →
  RowI s.length (posU s cd) (fun x => sml s x = false ∨ (isFr s x = true ∧ i ≤ posU s cd x)) row →
  ∃ r, clearL (smls s) d i row = some r ∧ RowI s.length (posU s cd) (fun x => sml s x = false) r := by
 intro d
 induction d with
 | zero =>
   intro i row hd hr
   refine ⟨row, rfl, hr.congr (fun x hx => ⟨.inl, fun h => h.elim id (fun h => ?_)⟩) (fun _ _ _ => rfl)⟩
   have := pos_lt (cd := cd) hx
   omega
 | succ d ih =>
   intro i row hd hr
   have hi : i < s.length := by omega
   rw [clearL]
   rcases hr.read hi with h1 | ⟨p, hp, hpl, hpi, h1⟩
   ·rw [h1, if_neg (by omega)]
    refine ih (i + 1) row (by omega) (hr.congr (fun x hx => ⟨fun h => h.imp id (fun h => ⟨h.1, by omega⟩), fun h => h.imp id (fun h => ⟨h.1, ?_⟩)⟩) (fun _ _ _ => rfl))
    have : posU s cd x ≠ i := fun e => by
     have := hr.at_ x hx (.inr h)
     rw [e, h1] at this; omega
    omega
   ·have up : inU s p := hpl.elim .inl (fun h => .inr h.1)
    rw [h1, if_pos (by omega), smls_length, if_pos (by omega), Int.toNat_natCast, smls_get hp]
    cases hs : sml s p
    ·rw [if_neg (by simp)]
     refine ih (i + 1) row (by omega) (hr.congr (fun x hx => ⟨fun h => h.imp id (fun h => ⟨h.1, by omega⟩), fun h => h.imp id (fun h => ⟨h.1, ?_⟩)⟩) (fun _ _ _ => rfl))
     have : posU s cd x ≠ i := fun e => by
      have := pos_inj hc hx hp (.inr h.1) up (by rw [e, hpi])
      subst this
      rw [fr_sml h.1] at hs; cases hs
     omega
    ·have hf : isFr s p = true := up.elim (fun h => by rw [hs] at h; cases h) id
     rw [if_pos rfl, ← hpi]
     have hset := hr.del (pl' := fun x => sml s x = false ∨ (isFr s x = true ∧ i + 1 ≤ posU s cd x)) hp (pos_lt hp) (fun x hx hx2 hne h => hne (pos_inj hc hx hp (hx2.elim .inl (fun h => .inr h.1)) up h)) (fun x hx => ?_)
     ·rw [hpi] at hset ⊢
      exact ih (i + 1) _ (by omega) hset
     ·constructor
      ·rintro (h | ⟨h2, h3⟩)
       ·exact ⟨.inl h, fun e => by subst e; rw [hs] at h; cases h⟩
       ·exact ⟨.inr ⟨h2, by omega⟩, fun e => by subst e; omega⟩
      ·rintro ⟨h | ⟨h2, h3⟩, h4⟩
       ·exact .inl h
       ·refine .inr ⟨h2, ?_⟩
        have : posU s cd x ≠ i := fun e => h4 (pos_inj hc hx hp (.inr h2) up (by rw [e, hpi]))
        omega
theorem smallL_go {s : List Int} {cd : Nat → Int} {k : Nat} (hc : cdOk s cd) (hn : s.length ≤ 1000000) (hv : ∀ x ∈ s, 0 ≤ x ∧ x < (k : Int)) :
  ∀ (d : Nat) (en row : List Int), d ≤ s.length → en.length = k →
  (∀ c : Nat, c < k → en.getD c 0 + (cN s.length (fun x => sml s x && (decide (s.getD x 0 = (c : Int)) && decide (d ≤ ixK s cd (x + 1)))) : Nat) = (eN s c : Int)) →
  RowI s.length (ixK s cd) (fun x => sml s x = false ∨ d ≤ ixK s cd (x + 1)) row →
  ∃ r, smallL s (smls s) d en row = some r ∧ RowI s.length (ixK s cd) (fun _ => True) r := by
 intro d
 induction d with
 | zero =>
   intro en row hd hl hen hr
   exact ⟨row, rfl, hr.congr (fun x hx => ⟨fun _ => .inr (by omega), fun _ => trivial⟩) (fun _ _ _ => rfl)⟩
 | succ d ih =>
   intro en row hd hl hen hr
   obtain ⟨q, hq, hqd⟩ := ix_onto hc (show d < s.length by omega)
   have hrow : row.getD d 0 = (q : Int) := by
    rw [← hqd]
    refine hr.at_ q hq ?_
    cases h : sml s q
    ·exact .inl rfl
    ·have := ix_next (cd := cd) h
     exact .inr (by omega)
   have hone : ∀ x, sml s x = true → (ixK s cd (x + 1) = d ↔ x + 1 = q) := fun x h1 => by
    constructor
    ·intro h2; exact ix_inj hc (sml_in h1) hq (by rw [h2, hqd])
    ·intro h2; rw [h2, hqd]
   have keep : (∀ x, sml s x = true → x + 1 ≠ q) → ∃ r, smallL s (smls s) d en row = some r ∧ RowI s.length (ixK s cd) (fun _ => True) r := fun hno => by
    refine ih en row (by omega) hl (fun c hck => ?_) (hr.congr (fun x hx => ?_) (fun _ _ _ => rfl))
    ·rw [← hen c hck]
     congr 2
     refine cN_congr (fun x hx => ?_)
     rw [Bool.eq_iff_iff]
     simp only [Bool.and_eq_true, decide_eq_true_eq]
     constructor
     ·rintro ⟨h1, h2, h3⟩
      have : ixK s cd (x + 1) ≠ d := fun e => hno x h1 ((hone x h1).1 e)
      exact ⟨h1, h2, by omega⟩
     ·rintro ⟨h1, h2, h3⟩; exact ⟨h1, h2, by omega⟩
    ·constructor
     ·rintro (h | h)
      ·exact .inl h
      ·cases h1 : sml s x
       ·exact .inl rfl
       ·have : ixK s cd (x + 1) ≠ d := fun e => hno x h1 ((hone x h1).1 e)
        exact .inr (by omega)
     ·rintro (h | h)
      ·exact .inl h
      ·exact .inr (by omega)
   rw [smallL, hrow]
   by_cases hq0 : q = 0
   ·rw [if_neg (by omega)]
    exact keep (fun x _ => by omega)
   ·obtain ⟨j, rfl⟩ : ∃ j, q = j + 1 := ⟨q - 1, by omega⟩
    have hj : j < s.length := by omega
    rw [show ((j + 1 : Nat) : Int) - 1 = (j : Int) by omega, if_pos (by omega), smls_length, if_pos (by omega), Int.toNat_natCast, smls_get hj]
    cases hs : sml s j
    ·rw [if_neg (by simp)]
     exact keep (fun x h1 h2 => by obtain rfl : x = j := by omega
                                   rw [hs] at h1; cases h1)
    ·rw [if_pos rfl]
     have hvj := hv _ (getD_mem hj)
     obtain ⟨c, hcc⟩ : ∃ c : Nat, s.getD j 0 = (c : Int) := ⟨(s.getD j 0).toNat, by omega⟩
     have hck : c < k := by omega
     have hir := ix_rec hc hs
     rw [hqd, hcc] at hir
     have he := hen c hck
     have hsame : cN s.length (fun x => sml s x && (decide (s.getD x 0 = (c : Int)) && decide (d + 1 ≤ ixK s cd (x + 1)))) = cN s.length (fun x => sml s x && (decide (s.getD x 0 = (c : Int)) && decide (d < ixK s cd (x + 1)))) := cN_congr (fun x hx => rfl)
     have hlf := lastF_eq (s := s) (en := en) (row := row) (j := j) (v := ixK s cd j) hj hvj.1 (by omega) (by rw [hcc, Int.toNat_natCast]; omega) (by rw [hr.len]; exact ix_lt hj) (by rw [hr.len]; exact hn)
     rw [hlf, Option.bind_some, hcc, Int.toNat_natCast]
     refine ih _ _ (by omega) (by rw [List.length_set, hl]) (fun c' hc' => ?_) (hr.set hj (ix_lt hj) (fun x hx hx2 hne h => hne (ix_inj hc hx hj h)) (fun x hx => ?_))
     ·rw [lset (by omega)]
      by_cases e : c = c'
      ·rw [if_pos e, ← e]
       have : cN s.length (fun x => sml s x && (decide (s.getD x 0 = (c : Int)) && decide (d ≤ ixK s cd (x + 1)))) = cN s.length (fun x => sml s x && (decide (s.getD x 0 = (c : Int)) && decide (d + 1 ≤ ixK s cd (x + 1)))) + 1 := by
        refine cN_one hj (by
         have e1 : ¬ d + 1 ≤ ixK s cd (j + 1) := by omega
         simp [e1]) (fun x hx => ?_)
        rw [Bool.eq_iff_iff]
        simp only [Bool.and_eq_true, Bool.or_eq_true, decide_eq_true_eq, beq_iff_eq]
        constructor
        ·rintro ⟨g1, g2, g3⟩
         by_cases e2 : ixK s cd (x + 1) = d
         ·have := (hone x g1).1 e2
          exact .inr (by omega)
         ·exact .inl ⟨g1, g2, by omega⟩
        ·rintro (⟨g1, g2, g3⟩ | rfl)
         ·exact ⟨g1, g2, by omega⟩
         ·exact ⟨hs, hcc, by omega⟩
       omega
      ·rw [if_neg e, ← hen c' hc']
       congr 2
       refine cN_congr (fun x hx => ?_)
       rw [Bool.eq_iff_iff]
       simp only [Bool.and_eq_true, decide_eq_true_eq]
       constructor
       ·rintro ⟨g1, g2, g3⟩
        refine ⟨g1, g2, ?_⟩
        by_cases e2 : ixK s cd (x + 1) = d
        ·have := (hone x g1).1 e2
         obtain rfl : x = j := by omega
         omega
        ·omega
       ·rintro ⟨g1, g2, g3⟩; exact ⟨g1, g2, by omega⟩
     ·constructor
      ·rintro (h | h)
       ·exact .inl (.inl h)
       ·cases h1 : sml s x
        ·exact .inl (.inl rfl)
        ·by_cases e2 : ixK s cd (x + 1) = d
         ·have := (hone x h1).1 e2
          exact .inr (by omega)
         ·exact .inl (.inr (by omega))
      ·rintro ((h | h) | rfl)
       ·exact .inl h
       ·exact .inr (by omega)
       ·exact .inr (by omega)
theorem filt_cN {s : List Int} {f : Int → Bool} : ∀ {m : Nat}, m ≤ s.length → ((s.take m).filter f).length = cN m (fun x => f (s.getD x 0))
 | 0, _ => by simp [cN]
 | m + 1, h => by
   rw [take_next (by omega), List.filter_append, List.length_append, filt_cN (by omega), cN_succ]
   congr 1
   cases h1 : f (s.getD m 0)
   ·rw [List.filter_cons_of_neg (by rw [h1]; simp)]; simp
   ·rw [List.filter_cons_of_pos h1]; simp
theorem starts_bN {s : List Int} {k c : Nat} (hv : ∀ x ∈ s, 0 ≤ x ∧ x < (k : Int)) (hc : c < k) : (startsOf (cntsOf id s k)).getD c 0 = (bN s c : Int) := by
 rw [startsOf_get (by rw [cntsOf_length]; exact hc), cnts_sum (by omega), stab_len]
 have h := filt_cN (s := s) (f := fun i => decide (0 ≤ id i ∧ id i < (c : Int))) (Nat.le_refl s.length)
 rw [List.take_length] at h
 rw [h]
 congr 1
 refine cN_congr (fun x hx => ?_)
 have := hv _ (getD_mem hx)
 rw [decide_eq_decide]
 simp only [id]
 omega
theorem kcnt_cN {s : List Int} {c : Nat} : (kcnt id s c : Int) + (bN s c : Int) = (eN s c : Int) := by
 have h := filt_cN (s := s) (f := fun i => id i == (c : Int)) (Nat.le_refl s.length)
 rw [List.take_length] at h
 unfold kcnt
 rw [h]
 have : eN s c = bN s c + cN s.length (fun x => id (s.getD x 0) == (c : Int)) := by
  refine cN_add (fun x hx h1 => ?_) (fun x hx => ?_)
  ·simp only [decide_eq_true_eq] at h1
   simp only [beq_eq_false_iff_ne, id]
   omega
  ·rw [Bool.eq_iff_iff]
   simp only [Bool.or_eq_true, decide_eq_true_eq, beq_iff_eq, id]
   omega
 omega
theorem endsL_get (co : List Int) (c : Nat) (hc : c < co.length) : ∀ (d i : Nat) (l : List Int), i + d = co.length → l.length = co.length → (endsL co d i l).getD c 0 = if i ≤ c then wrap64 (l.getD c 0 + co.getD c 0) else l.getD c 0
 | 0, i, l, hd, hl => by rw [endsL, if_neg (by omega)]
 | d + 1, i, l, hd, hl => by
   rw [endsL, endsL_get co c hc d (i + 1) _ (by omega) (by rw [List.length_set, hl])]
   rw [lset (by omega)]
   by_cases e : i = c
   ·rw [if_neg (by omega), if_pos e, if_pos (by omega), e]
   ·rw [if_neg e]
    by_cases e2 : i ≤ c
    ·rw [if_pos (by omega), if_pos e2]
    ·rw [if_neg (by omega), if_neg e2]
theorem ends_eN {s : List Int} {k c : Nat} (hn : s.length ≤ 1000000) (hv : ∀ x ∈ s, 0 ≤ x ∧ x < (k : Int)) (hc : c < k) :
  (endsL (cntsOf id s k) (cntsOf id s k).length 0 (startsOf (cntsOf id s k))).getD c 0 = (eN s c : Int) := by
 rw [endsL_get _ c (by rw [cntsOf_length]; exact hc) _ 0 _ (by omega) (by rw [startsOf_length]), if_pos (by omega), starts_bN hv hc, cntsOf_get hc]
 have := kcnt_cN (s := s) (c := c)
 have := eN_le s c
 rw [wrap64_id (by omega) (by omega)]
 omega
theorem sortL_spec {s first : List Int} {k : Nat} (h0 : 0 < s.length) (hn : s.length ≤ 1000000) (hv : ∀ x ∈ s, 0 ≤ x ∧ x < (k : Int)) (hf : ∀ x, x ∈ first ↔ x ∈ frs s s.length) (hnd : first.Nodup) :
  ∃ r, sortL s first (cntsOf id s k) (smls s) (startsOf (cntsOf id s k)) = some r ∧ r.length = s.length ∧ (∀ x ∈ r, 0 ≤ x ∧ x < (s.length : Int)) ∧ r.Pairwise (fun x y => ltL (kKey s (cdOf first) x.toNat) (kKey s (cdOf first) y.toNat)) := by
 have hc : cdOk s (cdOf first) := cdOf_ok (fun x hx => (hv x hx).1) hf
 have hcl : ∀ x, isFr s x = true → cdOf first x < first.length := fun x hx => by
  have := List.idxOf_lt_length_of_mem ((hf (x : Int)).2 (frs_iff.2 ⟨x, rfl, hx⟩))
  unfold cdOf; omega
 have hel : (endsL (cntsOf id s k) (cntsOf id s k).length 0 (startsOf (cntsOf id s k))).length = k := by rw [endsL_length, startsOf_length, cntsOf_length]
 obtain ⟨X, e1, r1⟩ := lastAll_go hn hv hf hnd first.length (Nat.le_refl _) (endsL (cntsOf id s k) (cntsOf id s k).length 0 (startsOf (cntsOf id s k))) (List.replicate s.length (-1)) hel
  (fun c hck => by
   rw [ends_eN hn hv hck, cN_zero]
   ·omega
   ·intro x hx
    cases h1 : isFr s x
    ·rfl
    ·have := hcl x h1
     have : ¬ (first.length : Int) ≤ cdOf first x := by omega
     simp [this])
  ⟨by simp, fun p hp hp2 => by have := hcl p hp2.1; omega, fun q hq => .inl (by rw [List.getD_eq_getElem?_getD, List.getElem?_replicate, if_pos hq]; rfl)⟩
 rw [List.take_length] at e1
 have hlast : sml s (s.length - 1) = false := sml_last (by omega)
 have hj : s.length - 1 < s.length := by omega
 have hvj := hv _ (getD_mem hj)
 obtain ⟨c, hcc⟩ : ∃ c : Nat, s.getD (s.length - 1) 0 = (c : Int) := ⟨(s.getD (s.length - 1) 0).toNat, by omega⟩
 have hck : c < k := by omega
 have hpl := pos_last hc h0
 have hff := firstF_eq (s := s) (st := startsOf (cntsOf id s k)) (row := X.2) (j := s.length - 1) (v := posU s (cdOf first) (s.length - 1)) hj hvj.1 (by rw [startsOf_length, cntsOf_length]; omega)
  (by rw [hcc, Int.toNat_natCast, starts_bN hv hck, hpl, hcc]) (by rw [r1.len]; exact pos_lt hj) (by rw [r1.len]; exact hn)
 rw [show ((s.length - 1 : Nat) : Int) = (s.length : Int) - 1 by omega, hcc, Int.toNat_natCast] at hff
 have r2 := r1.set (pl' := fun x => isFr s x = true ∨ (sml s x = false ∧ (x + 1 = s.length ∨ posU s (cdOf first) (x + 1) < 0))) hj (pos_lt hj) (fun x hx hx2 hne h => hne (pos_inj hc hx hj (.inr hx2) (.inl hlast) h)) (fun x hx => by
  constructor
  ·rintro (h | ⟨_, h | h⟩)
   ·exact .inl h
   ·exact .inr (by omega)
   ·omega
  ·rintro (h | h)
   ·exact .inl h
   ·exact .inr ⟨by rw [h]; exact hlast, .inl (by omega)⟩)
 rw [show ((s.length - 1 : Nat) : Int) = (s.length : Int) - 1 by omega] at r2
 obtain ⟨r, e3, r3⟩ := largeL_go hc hn hv s.length 0 ((startsOf (cntsOf id s k)).set c ((posU s (cdOf first) (s.length - 1) : Int) + 1)) _ (by omega) (by rw [List.length_set, startsOf_length, cntsOf_length])
  (fun c' hc' => by
   rw [lset (by rw [startsOf_length, cntsOf_length]; exact hck)]
   by_cases e : c = c'
   ·rw [if_pos e, ← e, hpl, hcc]
    have : cN s.length (fun x => !sml s x && (decide (s.getD x 0 = (c : Int)) && (decide (x + 1 = s.length) || decide (posU s (cdOf first) (x + 1) < 0)))) = cN s.length (fun x => x == s.length - 1) := by
     refine cN_congr (fun x hx => ?_)
     rw [Bool.eq_iff_iff]
     simp only [Bool.and_eq_true, Bool.or_eq_true, decide_eq_true_eq, Bool.not_eq_true', beq_iff_eq]
     constructor
     ·rintro ⟨g1, g2, g3⟩; omega
     ·intro g
      subst g
      exact ⟨hlast, hcc, .inl (by omega)⟩
    rw [this, cN_single hj]
    omega
   ·rw [if_neg e, starts_bN hv hc', cN_zero]
    ·omega
    ·intro x hx
     rw [Bool.eq_false_iff]
     simp only [ne_eq, Bool.and_eq_true, Bool.or_eq_true, decide_eq_true_eq, Bool.not_eq_true', not_and]
     intro g1 g2 g3
     have : x = s.length - 1 := by omega
     subst this
     omega) r2
 obtain ⟨r', e4, r4⟩ := clearL_go hc s.length 0 r (by omega) (r3.congr (fun x hx => ⟨fun h => h.elim .inr (fun h => .inl h.1), fun h => h.elim (fun h => .inr ⟨h, by omega⟩) .inl⟩) (fun _ _ _ => rfl))
 obtain ⟨r'', e5, r5⟩ := smallL_go hc hn hv s.length (endsL (cntsOf id s k) (cntsOf id s k).length 0 (startsOf (cntsOf id s k))) r' (Nat.le_refl _) hel
  (fun c' hc' => by
   rw [ends_eN hn hv hc', cN_zero]
   ·omega
   ·intro x hx
    cases h1 : sml s x
    ·rfl
    ·have := ix_lt (cd := cdOf first) (sml_in h1)
     have : ¬ s.length ≤ ixK s (cdOf first) (x + 1) := by omega
     simp [this])
  (r4.congr (fun x hx => ⟨fun h => h.elim id (fun h => by
   cases h1 : sml s x
   ·rfl
   ·have := ix_lt (cd := cdOf first) (sml_in h1)
    omega), .inl⟩) (fun x hx hx2 => (pos_no (sml_no hx2)).symm))
 refine ⟨r'', ?_, r5.whole hc⟩
 unfold sortL
 rw [e1, Option.bind_some, hff, Option.bind_some, r1.len, e3, Option.bind_some, r3.len, e4, Option.bind_some, e5]
open Go.Proofs.YtbbpplnnegdenaaGreat.Nm Go.Proofs.YtbbpplnnegdenaaGreat.Srt
theorem srt_frs {s l : List Int} (hf : ∀ x, x ∈ l ↔ x ∈ frs s s.length) (hnd : l.Nodup) : srt l = frs s s.length := by
 have h1 := srt_sorted l
 have h2 : (srt l).Nodup := (srt_perm l).nodup_iff.2 hnd
 refine sorted_uniq (R := fun x y : Int => x < y) (fun x y h k => by omega) ?_ ((frs_apart s s.length).imp (fun h => by omega)) (fun x => srt_mem.trans (hf x))
 exact (h1.and h2).imp (fun h => by have := h.1; have := h.2; omega)
theorem induce_Sort_ev {s l : List Int} {k : Nat} (hn : s.length ≤ 100000) (hk : k ≤ 1048576) (hv : ∀ x ∈ s, 0 ≤ x ∧ x < (k : Int)) (hf : ∀ x, x ∈ l ↔ x ∈ frs s s.length) (hnd : l.Nodup) :
  ∃ r, Ev (fun j => induce_Sort.f j s (k : Int) l) (r, true) ∧ r.length = s.length ∧ (∀ x ∈ r, 0 ≤ x ∧ x < (s.length : Int)) ∧ r.Pairwise (fun x y => ltL (kKey s (cdOf l) x.toNat) (kKey s (cdOf l) y.toNat)) := by
 have hsf := srt_frs hf hnd
 have hll : l.length ≤ s.length := by
  have h1 := srt_length l
  rw [hsf] at h1
  have h2 := frs_len s s.length
  omega
 have hok : okKeys s (k : Int) := ⟨by omega, by omega, hv⟩
 have hcl : (cntsOf id s k).length = k := cntsOf_length _ _ _
 have hall : ∀ r, (s.length = 0 → r = []) → (s.length ≠ 0 → sortL s l (cntsOf id s k) (smls s) (startsOf (cntsOf id s k)) = some r) → Ev (fun j => induce_Sort.f j s (k : Int) l) (r, true) := fun r h0 h1 => by
  refine Ev.congr (fun j => by rw [induce_Sort.f]) ?_
  refine Ev.bind (bucket_Counts_ev s (k : Int) (by omega)) ?_
  rw [countsR, if_pos hok, Int.toNat_natCast]
  refine Ev.bind (kinds_First_ev s (by omega)) ?_
  rw [hsf]
  refine Ev.bind (slices_Equal_ev _ _ (by have := frs_len s s.length; omega)) ?_
  refine Ev.bind (kinds_Small_ev s (by omega)) ?_
  refine Ev.bind (bucket_Starts_ev (cntsOf id s k) (by omega) (cnts_sumsOk (kf := id) (fun x hx => by have := hv x hx; simpa using this) (by omega))) ?_
  simp only [decide_true, if_true, if_pos (show l.length ≤ 1000000 by omega)]
  by_cases hz : s.length = 0
  ·rw [h0 hz]
   simp only [if_pos hz]
   exact Ev.now _
  ·have hkp : 0 < k := by
    have := hv _ (getD_mem (show 0 < s.length by omega))
    omega
   simp only [if_neg hz, if_pos (show s.length ≤ 1000000 by omega), startsOf_length, if_true, hcl, if_pos hkp, if_pos (show k < 4611686018427387904 by omega), smls_length, if_pos (show s.length < 4611686018427387904 by omega), h1 hz, Option.bind_some]
   exact Ev.now _
 by_cases hz : s.length = 0
 ·exact ⟨[], hall [] (fun _ => rfl) (fun h => absurd hz h), by simp [hz], by simp, by simp⟩
 ·obtain ⟨r, h1, h2, h3, h4⟩ := sortL_spec (s := s) (first := l) (k := k) (by omega) (by omega) hv hf hnd
  exact ⟨r, hall r (fun h => absurd h hz) (fun _ => h1), h2, h3, h4⟩
def nxv (s : List Int) (q : Nat) : Int := if q + 1 < (frs s s.length).length then (fp s (q + 1) : Int) else s.length
theorem nxv_pos {s : List Int} {q : Nat} (hq : q < (frs s s.length).length) : 0 < nxv s q := by
 unfold nxv
 split
 ·rename_i h
  have := fp_rises (s := s) (show q < q + 1 by omega) h
  omega
 ·have := fr_in (fp_get hq).2
  omega
theorem fp_inj {s : List Int} {p q : Nat} (hp : p < (frs s s.length).length) (hq : q < (frs s s.length).length) (h : fp s p = fp s q) : p = q := by
 rcases Nat.lt_trichotomy p q with k | k | k
 ·have := fp_rises k hq; omega
 ·exact k
 ·have := fp_rises k hp; omega
theorem nextL_go {s : List Int} : ∀ (d i : Nat) (nx : List Int), i + d = (frs s s.length).length → nx.length = s.length → (∀ q, q < i → nx.getD (fp s q) 0 = nxv s q) → (∀ z, z < s.length → isFr s z = false → nx.getD z 0 = 0) →
  ∃ r, nextL s.length (frs s s.length) d i nx = some r ∧ r.length = s.length ∧ (∀ q, q < (frs s s.length).length → r.getD (fp s q) 0 = nxv s q) ∧ (∀ z, z < s.length → isFr s z = false → r.getD z 0 = 0) := by
 intro d
 induction d with
 | zero => intro i nx hd hl h1 h2; exact ⟨nx, rfl, hl, fun q hq => h1 q (by omega), h2⟩
 | succ d ih =>
   intro i nx hd hl h1 h2
   have hi : i < (frs s s.length).length := by omega
   have fi := fp_get hi
   have hlt := fr_in fi.2
   rw [nextL, fi.1, Int.toNat_natCast, if_pos ⟨by omega, by omega⟩]
   have hv : (if i + 1 < (frs s s.length).length then (frs s s.length).getD (i + 1) 0 else (s.length : Int)) = nxv s i := by
    unfold nxv
    by_cases h : i + 1 < (frs s s.length).length
    ·rw [if_pos h, if_pos h, (fp_get h).1]
    ·rw [if_neg h, if_neg h]
   rw [hv]
   refine ih (i + 1) _ (by omega) (by rw [List.length_set, hl]) (fun q hq => ?_) (fun z hz hf => ?_)
   ·rw [lset (by omega)]
    by_cases e : fp s i = fp s q
    ·rw [if_pos e, fp_inj hi (by omega) e]
    ·rw [if_neg e]
     exact h1 q (by have : q ≠ i := fun h => e (by rw [h]); omega)
   ·rw [lset (by omega), if_neg (fun e => by rw [← e, fi.2] at hf; cases hf)]
    exact h2 z hz hf
theorem pieceL_get {s nx : List Int} (hl : nx.length = s.length) (hn : s.length ≤ 100000) (hnx : ∀ q, q < (frs s s.length).length → nx.getD (fp s q) 0 = nxv s q) {q : Nat} (hq : q + 1 < (frs s s.length).length) :
  pieceL s nx (fp s q : Int) = some ((s.take (fp s (q + 1) + 1)).drop (fp s q)) := by
 have fq := fr_in (fp_get (s := s) (show q < _ by omega)).2
 have fq1 := fr_in (fp_get hq).2
 have hr := fp_rises (s := s) (show q < q + 1 by omega) hq
 have hv : nx.getD (fp s q) 0 = (fp s (q + 1) : Int) := by rw [hnx q (by omega), nxv, if_pos hq]
 unfold pieceL
 rw [if_pos ⟨by omega, by omega⟩, Int.toNat_natCast, hv, if_pos ⟨by omega, by omega, by omega⟩]
 rw [show (min ((fp s (q + 1) : Int) + 1) (s.length : Int)).toNat = fp s (q + 1) + 1 by omega]
theorem piece_get {s : List Int} {x X t : Nat} (h : x + t ≤ X) (hX : X < s.length) : ((s.take (X + 1)).drop x).getD t 0 = s.getD (x + t) 0 := by
 rw [getD_dropI]
 simp only [List.getD_eq_getElem?_getD]
 rw [List.getElem?_take_of_lt (by omega)]
theorem piece_eq {s : List Int} (hs : ∀ x ∈ s, 0 ≤ x) {p q : Nat} (hp : p + 1 < (frs s s.length).length) (hq : q + 1 < (frs s s.length).length) (hpq : p ≠ q) :
  (s.take (fp s (p + 1) + 1)).drop (fp s p) = (s.take (fp s (q + 1) + 1)).drop (fp s q) ↔ kZ s (fp s p) = kZ s (fp s q) := by
 have fp1 := fr_in (fp_get hp).2
 have fq1 := fr_in (fp_get hq).2
 have hrp := fp_rises (s := s) (show p < p + 1 by omega) hp
 have hrq := fp_rises (s := s) (show q < q + 1 by omega) hq
 have l1 : ((s.take (fp s (p + 1) + 1)).drop (fp s p)).length = fp s (p + 1) + 1 - fp s p := by rw [List.length_drop, List.length_take]; omega
 have l2 : ((s.take (fp s (q + 1) + 1)).drop (fp s q)).length = fp s (q + 1) + 1 - fp s q := by rw [List.length_drop, List.length_take]; omega
 constructor
 ·intro h
  have hl : fp s (p + 1) + 1 - fp s p = fp s (q + 1) + 1 - fp s q := by rw [← l1, ← l2, h]
  refine fp_alike_of hp hq (by omega) (fun t ht => ?_)
  have h1 := piece_get (s := s) (x := fp s p) (X := fp s (p + 1)) (t := t) (by omega) fp1
  have h2 := piece_get (s := s) (x := fp s q) (X := fp s (q + 1)) (t := t) (by omega) fq1
  rw [← h1, ← h2, h]
 ·intro h
  obtain ⟨_, _, a3, a4⟩ := fp_alike hs (by omega) (by omega) hpq h
  refine ext_getD (by rw [l1, l2]; omega) (fun t ht => ?_)
  rw [l1] at ht
  rw [piece_get (by omega) fp1, piece_get (by omega) fq1]
  exact a4 t (by omega)
theorem differL_ev {s nx : List Int} (hs : ∀ x ∈ s, 0 ≤ x) (hn : s.length ≤ 100000) (hl : nx.length = s.length) (hnx : ∀ q, q < (frs s s.length).length → nx.getD (fp s q) 0 = nxv s q) {p q : Nat} (hp : p < (frs s s.length).length) (hq : q < (frs s s.length).length) (hpq : p ≠ q) :
  ∃ b : Bool, Ev (fun k => differL (slices_Equal_int_int.f k) s nx (fp s p : Int) (fp s q : Int)) b ∧ (b = true ↔ kZ s (fp s p) ≠ kZ s (fp s q)) := by
 have fpi := fr_in (fp_get hp).2
 have fqi := fr_in (fp_get hq).2
 by_cases h1 : q + 1 < (frs s s.length).length
 ·have hr1 := fr_in (fp_get h1).2
  have e1 : nx.getD (fp s q) 0 ≠ (s.length : Int) := by rw [hnx q hq, nxv, if_pos h1]; omega
  by_cases h2 : p + 1 < (frs s s.length).length
  ·have hr2 := fr_in (fp_get h2).2
   have e2 : nx.getD (fp s p) 0 ≠ (s.length : Int) := by rw [hnx p hp, nxv, if_pos h2]; omega
   refine ⟨!decide ((s.take (fp s (p + 1) + 1)).drop (fp s p) = (s.take (fp s (q + 1) + 1)).drop (fp s q)), ?_, ?_⟩
   ·refine Ev.congr (fun k => by rw [differL]) ?_
    simp only [Int.toNat_natCast, if_pos (show (0 : Int) ≤ (fp s p : Int) by omega), if_neg e1, if_pos (show (fp s p : Int) < nx.length by omega), if_neg e2, pieceL_get hl hn hnx h2, pieceL_get hl hn hnx h1, Option.bind_some]
    exact Ev.bind (slices_Equal_ev _ _ (by rw [List.length_drop, List.length_take]; omega)) (Ev.now _)
   ·rw [Bool.not_eq_true', decide_eq_false_iff_not, piece_eq hs h2 h1 hpq]
  ·have e2 : nx.getD (fp s p) 0 = (s.length : Int) := by rw [hnx p hp, nxv, if_neg h2]
   refine ⟨true, ?_, ?_⟩
   ·refine Ev.congr (fun k => by rw [differL]) ?_
    simp only [Int.toNat_natCast, if_pos (show (0 : Int) ≤ (fp s p : Int) by omega), if_neg e1, if_pos (show (fp s p : Int) < nx.length by omega), if_pos e2]
    exact Ev.now _
   ·simp only [true_iff]
    exact fun h => h2 (fp_alike hs hp hq hpq h).1
 ·have e1 : nx.getD (fp s q) 0 = (s.length : Int) := by rw [hnx q hq, nxv, if_neg h1]
  refine ⟨true, ?_, ?_⟩
  ·refine Ev.congr (fun k => by rw [differL]) ?_
   simp only [Int.toNat_natCast, if_pos (show (0 : Int) ≤ (fp s p : Int) by omega), if_pos e1]
   exact Ev.now _
  ·simp only [true_iff]
   exact fun h => h1 (fp_alike hs hp hq hpq h).2.1
theorem namesL_go {s nx od : List Int} {cd : Nat → Int} (hs : ∀ x ∈ s, 0 ≤ x) (hn : s.length ≤ 100000) (hl : nx.length = s.length) (hnx : ∀ q, q < (frs s s.length).length → nx.getD (fp s q) 0 = nxv s q) (hnz : ∀ z, z < s.length → isFr s z = false → nx.getD z 0 = 0)
  (hol : od.length = s.length) (hor : ∀ x ∈ od, 0 ≤ x ∧ x < (s.length : Int)) (hop : od.Pairwise (fun x y => ltL (kKey s cd x.toNat) (kKey s cd y.toNat))) :
  ∀ (d i : Nat) (nm : List Int) (n last : Int), i + d = od.length → 0 ≤ n → n ≤ i → NmI s (fun x => isFr s x = true ∧ (x : Int) ∈ od.take i) nm n last →
  ∃ nm' n' last', Ev (fun k => namesL (slices_Equal_int_int.f k) s nx od d i nm n last) (nm', n') ∧ 0 ≤ n' ∧ n' ≤ s.length ∧ NmI s (fun x => isFr s x = true ∧ (x : Int) ∈ od) nm' n' last' := by
 intro d
 induction d with
 | zero =>
   intro i nm n last hd h0 hni hI
   rw [List.take_of_length_le (by omega)] at hI
   exact ⟨nm, n, last, Ev.now _, h0, by omega, hI⟩
 | succ d ih =>
   intro i nm n last hd h0 hni hI
   have hi : i < od.length := by omega
   have hz := hor _ (getD_mem hi)
   obtain ⟨z, hzz⟩ : ∃ z : Nat, od.getD i 0 = (z : Int) := ⟨(od.getD i 0).toNat, by omega⟩
   have hzn : z < s.length := by omega
   have htk : ∀ x : Nat, (x : Int) ∈ od.take (i + 1) ↔ (x : Int) ∈ od.take i ∨ x = z := fun x => by
    rw [take_next hi, List.mem_append, List.mem_singleton, hzz]
    constructor
    ·rintro (h | h)
     ·exact .inl h
     ·exact .inr (by omega)
    ·rintro (h | h)
     ·exact .inl h
     ·exact .inr (by omega)
   cases hzf : isFr s z
   ·obtain ⟨nm', n', last', e1, e2⟩ := ih (i + 1) nm n last (by omega) h0 (by omega) (hI.congr (fun x => by
     rw [htk]
     constructor
     ·rintro ⟨a, b | rfl⟩
      ·exact ⟨a, b⟩
      ·rw [hzf] at a; cases a
     ·rintro ⟨a, b⟩; exact ⟨a, .inl b⟩))
    refine ⟨nm', n', last', ?_, e2⟩
    refine Ev.congr (fun k => by rw [namesL]) ?_
    simp only [hzz, Int.toNat_natCast, if_pos (show 0 ≤ (z : Int) ∧ (z : Int) < nx.length from ⟨by omega, by omega⟩), if_pos (hnz z hzn hzf)]
    exact e1
   ·obtain ⟨q, hq, rfl⟩ := fp_of hzf
    have hnq := hnx q hq
    have hnp := nxv_pos hq
    have hbef : ∀ x : Nat, (x : Int) ∈ od.take i → ltL (kKey s cd x) (kKey s cd (fp s q)) := fun x hx => by
     obtain ⟨j, hj, hjx⟩ := List.getElem_of_mem hx
     rw [List.length_take] at hj
     rw [List.getElem_take] at hjx
     have := pair_getD hop (show j < i by omega) hi
     rw [hzz, List.getD_eq_getElem?_getD, List.getElem?_eq_getElem (by omega), Option.getD_some, hjx, Int.toNat_natCast, Int.toNat_natCast] at this
     exact this
    have hzP : ¬ (isFr s (fp s q) = true ∧ ((fp s q : Nat) : Int) ∈ od.take i) := fun h => ltL_irrefl _ (hbef _ h.2)
    have hw : ∀ x, (isFr s x = true ∧ (x : Int) ∈ od.take i) → ¬ ltL (kZ s (fp s q)) (kZ s x) := fun x hx h => key_weak hs s.length x (fp s q) (by omega) (fr_in hx.1) hzn (hbef x hx.2) h
    have hmain : ∃ b : Bool, Ev (fun k => differL (slices_Equal_int_int.f k) s nx last (fp s q : Int)) b ∧ (last = -1 → b = false) ∧ (∀ l : Nat, last = (l : Int) → (isFr s l = true ∧ (l : Int) ∈ od.take i) → (b = true ↔ kZ s l ≠ kZ s (fp s q))) := by
     rcases hI.lst with ⟨h1, h2, h3⟩ | ⟨l, h1, h2, h3, h4⟩
     ·refine ⟨false, ?_, fun _ => rfl, fun l hl => by omega⟩
      refine Ev.congr (fun k => by rw [differL]) ?_
      simp only [if_neg (show ¬ 0 ≤ last by omega)]
      exact Ev.now _
     ·obtain ⟨p, hp, rfl⟩ := fp_of h2.1
      have hpq : p ≠ q := fun e => hzP (by rw [← e]; exact h2)
      obtain ⟨b, hb1, hb2⟩ := differL_ev hs hn hl hnx hp hq hpq
      rw [h1]
      refine ⟨b, hb1, fun h => by omega, fun l hl hP => ?_⟩
      obtain rfl : fp s p = l := by omega
      exact hb2
    obtain ⟨b, hb, hb0, hbl⟩ := hmain
    have hadd := hI.add (P' := fun x => isFr s x = true ∧ (x : Int) ∈ od.take (i + 1)) hzn hzP hw h0 hb0 hbl (fun x => by
     rw [htk]
     constructor
     ·rintro ⟨a, c | c⟩
      ·exact .inl ⟨a, c⟩
      ·exact .inr c
     ·rintro (⟨a, c⟩ | rfl)
      ·exact ⟨a, .inl c⟩
      ·exact ⟨hzf, .inr rfl⟩)
    obtain ⟨nm', n', last', e1, e2⟩ := ih (i + 1) _ _ _ (by omega) (by split <;> omega) (by split <;> omega) hadd
    refine ⟨nm', n', last', ?_, e2⟩
    refine Ev.congr (fun k => by rw [namesL]) ?_
    simp only [hzz, Int.toNat_natCast, if_pos (show 0 ≤ ((fp s q : Nat) : Int) ∧ ((fp s q : Nat) : Int) < nx.length from ⟨by omega, by omega⟩), hnq, if_neg (show ¬ nxv s q = 0 by omega)]
    refine Ev.bind hb ?_
    simp only [if_pos (show 0 ≤ n ∧ n < 1000000000 from ⟨h0, by omega⟩)]
    exact e1
theorem outL_go {s nm : List Int} (hl : nm.length = s.length) : ∀ (d i : Nat) (o : List Int), i + d = (frs s s.length).length → o.length = i → (∀ j, j < i → o.getD j 0 = nm.getD (fp s j) 0) →
  ∃ N, outL nm (frs s s.length) d i o = some N ∧ N.length = (frs s s.length).length ∧ ∀ j, j < N.length → N.getD j 0 = nm.getD (fp s j) 0 := by
 intro d
 induction d with
 | zero => intro i o hd ho h; exact ⟨o, rfl, by omega, fun j hj => h j (by omega)⟩
 | succ d ih =>
   intro i o hd ho h
   have fi := fp_get (s := s) (i := i) (by omega)
   have hlt := fr_in fi.2
   rw [outL, fi.1, if_pos ⟨by omega, by omega⟩, Int.toNat_natCast]
   refine ih (i + 1) _ (by omega) (by simp; omega) (fun j hj => ?_)
   by_cases e : j = i
   ·subst e
    rw [List.getD_eq_getElem?_getD, List.getElem?_append_right (by omega), ho]; simp
   ·rw [List.getD_eq_getElem?_getD, List.getElem?_append_left (by omega), ← List.getD_eq_getElem?_getD]
    exact h j (by omega)
theorem sais_named_ev {s od : List Int} {cd : Nat → Int} (hs : ∀ x ∈ s, 0 ≤ x) (hn : s.length ≤ 100000) (hol : od.length = s.length) (hor : ∀ x ∈ od, 0 ≤ x ∧ x < (s.length : Int)) (hop : od.Pairwise (fun x y => ltL (kKey s cd x.toNat) (kKey s cd y.toNat))) :
  ∃ (N : List Int) (n0 : Int) (nm : Nat → Int), Ev (fun k => sais_named.f k s (frs s s.length) od) (N, n0 + 1) ∧ 0 ≤ n0 ∧ n0 ≤ s.length ∧ N.length = (frs s s.length).length ∧ (∀ i, i < N.length → N.getD i 0 = nm (fp s i)) ∧ (∀ x ∈ N, 0 ≤ x ∧ x < n0 + 1) ∧ namesOk s nm (fun x => isFr s x = true) := by
 obtain ⟨nx, e1, l1, a1, a2⟩ := nextL_go (s := s) (frs s s.length).length 0 (List.replicate s.length 0) (by omega) (by simp) (fun q hq => by omega) (fun z _ _ => getD_replicate)
 obtain ⟨nm, n0, last, e2, b1, b2, b3⟩ := namesL_go hs hn l1 a1 a2 hol hor hop od.length 0 (List.replicate s.length 0) 0 (-1) (by omega) (by omega) (by omega) ⟨by simp, fun x hx => by simp at hx, fun x y hx => by simp at hx, .inl ⟨rfl, rfl, fun x hx => by simp at hx⟩⟩
 obtain ⟨N, e3, l3, c3⟩ := outL_go b3.len (frs s s.length).length 0 [] (by omega) rfl (fun j hj => by omega)
 have hperm : isPerm od := ⟨fun x hx => by rw [hol]; exact hor x hx, hop.imp (fun h => by rintro rfl; exact ltL_irrefl _ h)⟩
 have hin : ∀ x, isFr s x = true → isFr s x = true ∧ (x : Int) ∈ od := fun x hx => ⟨hx, hperm.mem (by omega) (by have := fr_in hx; omega)⟩
 have hfl := frs_len s s.length
 refine ⟨N, n0, fun x => nm.getD x 0, ?_, b1, b2, l3, c3, fun x hx => ?_, fun x y hx hy => b3.ok x y (hin x hx) (hin y hy)⟩
 ·refine Ev.congr (fun k => by rw [sais_named.f]) ?_
  simp only [if_pos (show s.length ≤ 1000000 by omega), if_pos (show (frs s s.length).length ≤ 1000000 by omega), if_pos (show od.length ≤ 1000000 by omega), e1, Option.bind_some]
  refine Ev.bind e2 ?_
  simp only [e3, Option.bind_some]
  rw [wrap64_id (by omega) (by omega)]
  exact Ev.now _
 ·obtain ⟨j, hj, rfl⟩ := List.getElem_of_mem hx
  have := c3 j hj
  rw [List.getD_eq_getElem?_getD, List.getElem?_eq_getElem hj, Option.getD_some] at this
  rw [this]
  have := b3.rng _ (hin _ (fp_get (s := s) (i := j) (by omega)).2)
  omega
theorem sais_sorted_l0 {s a fi : List Int} {k : Int} {r : List Int} {right : List Int} (hfl : fi.length ≤ 100000) (hal : a.length ≤ 100000) (har : ∀ x ∈ a, 0 ≤ x ∧ x < (fi.length : Int)) (hrl : right.length = a.length) (hr : ∀ i, i < a.length → right.getD i 0 = fi.getD (a.getD i 0).toNat 0) (hev : Ev (fun j => induce_Sort.f j s k right) (r, true)) :
  ∀ (d i : Nat) (o : List Int), i + d = a.length → o = right.take i → Ev (fun j => sais_sorted.l0 j s k fi o a (a.length : Int) (i : Int)) r := by
 intro d
 induction d with
 | zero =>
   intro i o hd ho
   rw [List.take_of_length_le (by omega)] at ho
   subst ho
   refine Ev.step (fun k => by rw [sais_sorted.l0]) ?_
   simp only [if_neg (show ¬ (i : Int) < a.length by omega)]
   exact Ev.bind hev (Ev.now _)
 | succ d ih =>
   intro i o hd ho
   have hi : i < a.length := by omega
   have hx := har _ (getD_mem hi)
   have hol : o.length = i := by rw [ho, List.length_take]; omega
   refine Ev.step (fun k => by rw [sais_sorted.l0]) ?_
   simp only [if_pos (show (i : Int) < a.length by omega), if_pos (show 0 ≤ (i : Int) by omega), rd_nat, wrap_nat hi (show a.length ≤ 140737488355328 by omega), if_pos hx.1, if_pos hx.2, if_pos (show o.length < 17592186044416 by omega)]
   refine ih (i + 1) _ (by omega) ?_
   rw [take_next (by omega), ho, hr i hi]; rfl
theorem sais_sorted_ev : ∀ (b : Nat) (s : List Int) (k : Nat), s.length ≤ b → s.length ≤ 100000 → k ≤ 1048576 → (∀ x ∈ s, 0 ≤ x ∧ x < (k : Int)) → ∃ a, IsSA s a ∧ Ev (fun j => sais_sorted.f j s (k : Int)) a := by
 intro b
 induction b with
 | zero =>
   intro s k hb hn hk hv
   have h0 : s = [] := List.eq_nil_of_length_eq_zero (by omega)
   subst h0
   obtain ⟨r, h1, h2, h3, h4⟩ := induce_Sort_ev (s := []) (l := frs [] 0) (k := k) (by simp) hk hv (fun x => Iff.rfl) (by simp [frs])
   refine ⟨r, ⟨h2, h3, by rw [List.eq_nil_of_length_eq_zero h2]; simp⟩, ?_⟩
   refine Ev.step (fun k => by rw [sais_sorted.f]) ?_
   refine Ev.bind (kinds_First_ev [] (by simp)) ?_
   refine Ev.bind h1 ?_
   simp only [frs]
   exact Ev.now _
 | succ b ih =>
   intro s k hb hn hk hv
   have hs : ∀ x ∈ s, 0 ≤ x := fun x hx => (hv x hx).1
   have hfnd : (frs s s.length).Nodup := (frs_apart s s.length).imp (fun h => by omega)
   obtain ⟨r, h1, h2, h3, h4⟩ := induce_Sort_ev (l := frs s s.length) hn hk hv (fun x => Iff.rfl) hfnd
   by_cases hm : (frs s s.length).length < 2
   ·refine ⟨r, isSA_of_keys hs h2 h3 h4 (fun a b ha hb hab => ?_), ?_⟩
    ·obtain ⟨p, hp, rfl⟩ := fp_of ha
     obtain ⟨q, hq, rfl⟩ := fp_of hb
     obtain rfl : p = q := by omega
     omega
    ·refine Ev.step (fun k => by rw [sais_sorted.f]) ?_
     refine Ev.bind (kinds_First_ev s (by omega)) ?_
     refine Ev.bind h1 ?_
     simp only [if_pos (show ((frs s s.length).length : Int) < 2 by omega)]
     exact Ev.now _
   ·obtain ⟨N, n0, nm, e1, c0, c1, c2, c3, c4, c5⟩ := sais_named_ev hs hn h2 h3 h4
    have hhalf := frs_half s s.length
    have hcast : ((n0 + 1).toNat : Int) = n0 + 1 := by omega
    obtain ⟨a, ha, hae⟩ := ih N (n0 + 1).toNat (by omega) (by omega) (by omega) (fun x hx => by have := c4 x hx; omega)
    rw [hcast] at hae
    have hal := ha.1
    have har : ∀ x ∈ a, 0 ≤ x ∧ x < ((frs s s.length).length : Int) := fun x hx => by have := ha.2.1 x hx; omega
    have hrl : (a.map (fun x => (frs s s.length).getD x.toNat 0)).length = a.length := by simp
    have hrg : ∀ i, i < a.length → (a.map (fun x => (frs s s.length).getD x.toNat 0)).getD i 0 = (frs s s.length).getD (a.getD i 0).toNat 0 := fun i hi => by
     simp only [List.getD_eq_getElem?_getD, List.getElem?_map, List.getElem?_eq_getElem hi, Option.map_some, Option.getD_some]
    have hpw : (a.map (fun x => (frs s s.length).getD x.toNat 0)).Pairwise (fun x y => sN s x.toNat y.toNat) := by
     rw [List.pairwise_map]
     refine List.Pairwise.imp_of_mem (fun {x y} hx hy hxy => ?_) ha.2.2
     have h1 := har x hx
     have h2 := har y hy
     rw [(fp_get (s := s) (i := x.toNat) (by omega)).1, (fp_get (s := s) (i := y.toNat) (by omega)).1, Int.toNat_natCast, Int.toNat_natCast]
     refine names_suf hs c5 c2 c3 N.length x.toNat y.toNat (by omega) (by omega) (by omega) ?_
     exact hxy
    have hmem : ∀ x, x ∈ a.map (fun x => (frs s s.length).getD x.toNat 0) ↔ x ∈ frs s s.length := fun x => by
     rw [List.mem_map]
     constructor
     ·rintro ⟨y, hy, rfl⟩
      have := har y hy
      exact getD_mem (by omega)
     ·intro hx
      have hi := List.idxOf_lt_length_of_mem hx
      refine ⟨((frs s s.length).idxOf x : Nat), (ha.mem _).2 ⟨by omega, by omega⟩, ?_⟩
      rw [Int.toNat_natCast]; exact idxOf_getD hx
    have hnd : (a.map (fun x => (frs s s.length).getD x.toNat 0)).Nodup := hpw.imp (fun h => by rintro rfl; exact ltL_irrefl _ h)
    obtain ⟨r2, g1, g2, g3, g4⟩ := induce_Sort_ev (l := a.map (fun x => (frs s s.length).getD x.toNat 0)) hn hk hv hmem hnd
    refine ⟨r2, isSA_of_keys hs g2 g3 g4 (fun x y hx hy hxy => ?_), ?_⟩
    ·have mx := (hmem (x : Int)).2 (frs_iff.2 ⟨x, rfl, hx⟩)
     have my := (hmem (y : Int)).2 (frs_iff.2 ⟨y, rfl, hy⟩)
     unfold cdOf at hxy
     have hlt := Int.ofNat_lt.1 hxy
     have := pair_getD hpw hlt (List.idxOf_lt_length_of_mem my)
     rw [idxOf_getD mx, idxOf_getD my, Int.toNat_natCast, Int.toNat_natCast] at this
     exact this
    ·refine Ev.step (fun k => by rw [sais_sorted.f]) ?_
     refine Ev.bind (kinds_First_ev s (by omega)) ?_
     refine Ev.bind h1 ?_
     simp only [if_neg (show ¬ ((frs s s.length).length : Int) < 2 by omega)]
     refine Ev.bind e1 ?_
     refine Ev.bind hae ?_
     exact sais_sorted_l0 (by omega) (by omega) har hrl hrg g1 a.length 0 [] (by omega) rfl
theorem sais_Ints_ev {s : List Int} {k : Nat} (hn : s.length ≤ 100000) (hk : k ≤ 1048576) (hv : ∀ x ∈ s, 0 ≤ x ∧ x < (k : Int)) : ∃ a, IsSA s a ∧ Ev (fun j => sais_Ints.f j s (k : Int)) (a, 0) := by
 obtain ⟨a, ha, hae⟩ := sais_sorted_ev s.length s k (Nat.le_refl _) hn hk hv
 refine ⟨a, ha, ?_⟩
 refine Ev.congr (fun k => by rw [sais_Ints.f]) ?_
 simp only [if_neg (show ¬ (s.length : Int) > 100000 by omega)]
 refine Ev.bind (bucket_Counts_ev s (k : Int) (by omega)) ?_
 rw [countsR, if_pos ⟨by omega, by omega, hv⟩]
 simp only [if_true]
 exact Ev.bind hae (Ev.now _)
theorem sais_Bytes_l0 {s : List Int} (hn : s.length ≤ 100000) (hb : ∀ x ∈ s, 0 ≤ x ∧ x ≤ 255) {r : List Int × Int} (hr : Ev (fun k => sais_Ints.f k s 256) r) : ∀ (d i : Nat) (l : List Int), i + d = s.length → l = s.take i →
  Ev (fun k => sais_Bytes.l0 k l s (s.length : Int) (i : Int)) r := by
 intro d
 induction d with
 | zero =>
   intro i l hd hl
   rw [List.take_of_length_le (by omega)] at hl
   subst hl
   refine Ev.step (fun k => by rw [sais_Bytes.l0]) ?_
   simp only [if_neg (show ¬ (i : Int) < l.length by omega)]
   exact Ev.bind hr (Ev.now _)
 | succ d ih =>
   intro i l hd hl
   have hi : i < s.length := by omega
   have hx := hb _ (getD_mem hi)
   have hll : l.length = i := by rw [hl, List.length_take]; omega
   refine Ev.step (fun k => by rw [sais_Bytes.l0]) ?_
   rw [rd_nat, wrap64_id (x := s.getD i 0) (by omega) (by omega)]
   simp only [if_pos (show (i : Int) < s.length by omega), if_pos (show 0 ≤ (i : Int) by omega), if_pos (show l.length < 17592186044416 by omega), wrap_nat hi (show s.length ≤ 140737488355328 by omega)]
   exact ih (i + 1) _ (by omega) (by rw [take_next hi, hl])
theorem sais_Bytes_ev {s : List Int} (hn : s.length ≤ 100000) (hb : ∀ x ∈ s, 0 ≤ x ∧ x ≤ 255) : ∃ a, IsSA s a ∧ Ev (fun j => sais_Bytes.f j s) (a, 0) := by
 obtain ⟨a, ha, hae⟩ := sais_Ints_ev (s := s) (k := 256) hn (by omega) (fun x hx => by have := hb x hx; omega)
 refine ⟨a, ha, ?_⟩
 refine Ev.congr (fun k => by rw [sais_Bytes.f]) ?_
 simp only [if_pos (show (s.length : Int) ≤ 100000 by omega)]
 exact sais_Bytes_l0 hn hb hae s.length 0 [] (by omega) rfl
theorem mn_nat (a b : Nat) : mn (a : Int) (b : Int) = ((min a b : Nat) : Int) := by
 rw [Nat.min_def]; unfold mn; split <;> split <;> omega
def bwQ (s a : List Int) : List Int := (s.length : Int) :: (a.take (a.idxOf 0) ++ a.drop (a.idxOf 0 + 1))
def bwL (s a : List Int) : List Int := (bwQ s a).map fun q => s.getD (q - 1).toNat 0
def bwRow (s a : List Int) (q : Nat) : Int := if q = s.length then 0 else (inv a).getD q 0 + 1
section
variable {s a : List Int}
theorem sa_zero (ha : IsSA s a) (hn : 0 < s.length) : a.idxOf 0 < a.length := List.idxOf_lt_length_iff.2 ((ha.mem 0).2 (by omega))
theorem bwQ_length (ha : IsSA s a) (hn : 0 < s.length) : (bwQ s a).length = s.length := by
 have := sa_zero ha hn
 have := ha.1
 unfold bwQ
 rw [List.length_cons, List.length_append, List.length_take, List.length_drop]; omega
theorem bwL_length (ha : IsSA s a) (hn : 0 < s.length) : (bwL s a).length = s.length := by unfold bwL; rw [List.length_map, bwQ_length ha hn]
theorem bwQ_mem (ha : IsSA s a) (hn : 0 < s.length) : ∀ q ∈ bwQ s a, 1 ≤ q ∧ q ≤ s.length := by
 intro q hq
 have hz := sa_zero ha hn
 have hz0 : a[a.idxOf 0] = 0 := List.getElem_idxOf hz
 unfold bwQ at hq
 rcases List.mem_cons.1 hq with rfl | hq
 ·omega
 ·have hne : q ≠ 0 ∧ q ∈ a := by
   have hsplit : a = a.take (a.idxOf 0) ++ 0 :: a.drop (a.idxOf 0 + 1) := by
    conv => lhs; rw [← List.take_append_drop (a.idxOf 0) a, List.drop_eq_getElem_cons hz, hz0]
   have hnd := ha.nodup
   rw [hsplit, List.nodup_append] at hnd
   obtain ⟨_, h2, h3⟩ := hnd
   rw [List.nodup_cons] at h2
   rcases List.mem_append.1 hq with h | h
   ·exact ⟨fun e => h3 q h 0 (by simp) e, List.mem_of_mem_take h⟩
   ·exact ⟨fun e => h2.1 (e ▸ h), List.mem_of_mem_drop h⟩
  have := (ha.mem q).1 hne.2
  omega
theorem bwQ_rises (ha : IsSA s a) (hn : 0 < s.length) : (bwQ s a).Pairwise (sufLt s) := by
 unfold bwQ
 have hsub : (a.take (a.idxOf 0) ++ a.drop (a.idxOf 0 + 1)).Sublist a := by
  conv => rhs; rw [← List.take_append_drop (a.idxOf 0) a]
  refine List.Sublist.append (List.Sublist.refl _) ?_
  rw [← List.drop_drop]
  exact List.drop_sublist _ _
 rw [List.pairwise_cons]
 refine ⟨fun q hq => ?_, ha.2.2.sublist hsub⟩
 have := (ha.mem q).1 (hsub.subset hq)
 exact sufLt_nil this.1 this.2
theorem bwQ_at (ha : IsSA s a) (hn : 0 < s.length) {j : Nat} (hj : j < s.length) (hz : j ≠ a.idxOf 0) : (bwQ s a).getD (if j < a.idxOf 0 then j + 1 else j) 0 = a.getD j 0 := by
 have h0 := sa_zero ha hn
 have hl := ha.1
 unfold bwQ
 by_cases c : j < a.idxOf 0
 ·rw [if_pos c, List.getD_cons_succ, List.getD_eq_getElem?_getD, List.getElem?_append_left (by rw [List.length_take]; omega), List.getElem?_take_of_lt c, ← List.getD_eq_getElem?_getD]
 ·rw [if_neg c]
  obtain ⟨j', rfl⟩ : ∃ j', j = j' + 1 := ⟨j - 1, by omega⟩
  rw [List.getD_cons_succ, List.getD_eq_getElem?_getD, List.getElem?_append_right (by rw [List.length_take]; omega), List.length_take, List.getElem?_drop, Nat.min_eq_left (by omega), show a.idxOf 0 + 1 + (j' - a.idxOf 0) = j' + 1 by omega, ← List.getD_eq_getElem?_getD]
theorem inv_rises (ha : IsSA s a) {x y : Nat} (hx : x < s.length) (hy : y < s.length) (h : sufLt s x y) : (inv a).getD x 0 < (inv a).getD y 0 := by
 have hl := ha.1
 obtain ⟨e1, f1, g1⟩ := at_inv ha.perm (v := x) (by omega)
 obtain ⟨e2, f2, g2⟩ := at_inv ha.perm (v := y) (by omega)
 rcases Int.lt_trichotomy ((inv a).getD x 0) ((inv a).getD y 0) with c | c | c
 ·exact c
 ·rw [c, e2] at e1
  obtain rfl : y = x := by omega
  exact absurd h (sufLt_asymm h)
 ·have := pair_getD ha.2.2 (i := ((inv a).getD y 0).toNat) (j := ((inv a).getD x 0).toNat) (by omega) (by omega)
  rw [e1, e2] at this
  exact absurd h (sufLt_asymm this)
def bwG (s a : List Int) : List Int := (bwQ s a).map fun q => (inv a).getD (q - 1).toNat 0
theorem bwG_length (ha : IsSA s a) (hn : 0 < s.length) : (bwG s a).length = s.length := by unfold bwG; rw [List.length_map, bwQ_length ha hn]
theorem map_getD {α : Type} (f : Int → Int) {l : List Int} {i : Nat} (h : i < l.length) : (l.map f).getD i 0 = f (l.getD i 0) := by
 rw [List.getD_eq_getElem?_getD, List.getD_eq_getElem?_getD, List.getElem?_map, List.getElem?_eq_getElem h]; rfl
theorem bwG_perm (ha : IsSA s a) (hn : 0 < s.length) : isPerm (bwG s a) := by
 have hl := ha.1
 refine ⟨fun x hx => ?_, ?_⟩
 ·rw [bwG_length ha hn]
  obtain ⟨q, hq, rfl⟩ := List.mem_map.1 hx
  have := bwQ_mem ha hn q hq
  have := at_inv ha.perm (v := (q - 1).toNat) (by omega)
  omega
 ·unfold bwG
  rw [List.Nodup, List.pairwise_map]
  refine List.Pairwise.imp_of_mem (fun {x y} hx hy h e => ?_) (bwQ_rises ha hn)
  have h1 := bwQ_mem ha hn x hx
  have h2 := bwQ_mem ha hn y hy
  have e1 := at_inv ha.perm (v := (x - 1).toNat) (by omega)
  have e2 := at_inv ha.perm (v := (y - 1).toNat) (by omega)
  rw [e, e2.1] at e1
  have : y = x := by omega
  subst this
  exact sufLt_asymm h h
theorem bwL_isB (ha : IsSA s a) (hn : 0 < s.length) (hb : isB s) : isB (bwL s a) := by
 intro x hx
 obtain ⟨q, hq, rfl⟩ := List.mem_map.1 hx
 have := bwQ_mem ha hn q hq
 exact hb _ (getD_mem (by omega))
theorem lf_bw (ha : IsSA s a) (hn : 0 < s.length) (hb : isB s) : lfOf (bwL s a) = bwG s a := by
 have hbL := bwL_isB ha hn hb
 have hlL := bwL_length ha hn
 have hlQ := bwQ_length ha hn
 have hlen : (lfOf (bwL s a)).length = s.length := by rw [lfOf_length hbL, hlL]
 refine order_uniq (inv_perm (lfS_perm hbL)) (bwG_perm ha hn) (by rw [bwG_length ha hn]; exact hlen) (fun i k hi hk h => ?_)
 have hi' : i < s.length := hlen ▸ hi
 have hk' : k < s.length := hlen ▸ hk
 have hbk := (lfOf_lt hbL (i := i) (k := k) (by omega) (by omega)).1 h
 have hqi := bwQ_mem ha hn _ (getD_mem (a := bwQ s a) (i := i) (by omega))
 have hqk := bwQ_mem ha hn _ (getD_mem (a := bwQ s a) (i := k) (by omega))
 unfold byK keyOf at hbk
 rw [Int.toNat_natCast, Int.toNat_natCast] at hbk
 unfold bwL at hbk
 rw [map_getD (α := Int) _ (by omega), map_getD (α := Int) _ (by omega)] at hbk
 unfold bwG
 rw [map_getD (α := Int) _ (by omega), map_getD (α := Int) _ (by omega)]
 refine inv_rises ha (by omega) (by omega) ((sufLt_step (by omega) (by omega)).2 ?_)
 rcases hbk with h | ⟨h1, h2⟩
 ·exact .inl h
 ·refine .inr ⟨h1, ?_⟩
  have := pair_getD (bwQ_rises ha hn) (i := i) (j := k) (by omega) (by omega)
  rwa [show (((bwQ s a).getD i 0 - 1).toNat : Int) + 1 = (bwQ s a).getD i 0 by omega, show (((bwQ s a).getD k 0 - 1).toNat : Int) + 1 = (bwQ s a).getD k 0 by omega]
theorem bw_step (ha : IsSA s a) (hb : isB s) {q : Nat} (h0 : 0 < q) (hq : q ≤ s.length) :
  ∃ j : Nat, j < s.length ∧ bwRow s a q ≠ (a.idxOf 0 : Nat) + 1 ∧ (bwRow s a q > (a.idxOf 0 : Nat) + 1 → bwRow s a q - 1 = j) ∧ (¬ bwRow s a q > (a.idxOf 0 : Nat) + 1 → bwRow s a q = j) ∧ (bwL s a).getD j 0 = s.getD (q - 1) 0 ∧ (lfOf (bwL s a)).getD j 0 + 1 = bwRow s a (q - 1) := by
 have hn : 0 < s.length := by omega
 have hl := ha.1
 have hlQ := bwQ_length ha hn
 have fin : ∀ j, j < s.length → (bwQ s a).getD j 0 = q → (bwL s a).getD j 0 = s.getD (q - 1) 0 ∧ (lfOf (bwL s a)).getD j 0 + 1 = bwRow s a (q - 1) := by
  intro j hj hQ
  rw [lf_bw ha hn hb]
  unfold bwL bwG bwRow
  rw [map_getD (α := Int) _ (by omega), map_getD (α := Int) _ (by omega), hQ, show ((q : Int) - 1).toNat = q - 1 by omega, if_neg (show ¬ q - 1 = s.length by omega)]
  exact ⟨rfl, rfl⟩
 by_cases hqn : q = s.length
 ·refine ⟨0, hn, ?_, ?_, ?_, fin 0 hn (by subst hqn; rfl)⟩ <;> unfold bwRow <;> rw [if_pos hqn] <;> omega
 ·obtain ⟨e1, e2, e3⟩ := at_inv ha.perm (v := q) (by omega)
  obtain ⟨i, hi⟩ : ∃ i : Nat, (inv a).getD q 0 = i := ⟨((inv a).getD q 0).toNat, by omega⟩
  rw [hi, Int.toNat_natCast] at e1
  have hiz : i ≠ a.idxOf 0 := by
   intro e
   rw [e, List.getD_eq_getElem?_getD, List.getElem?_eq_getElem (sa_zero ha hn)] at e1
   have h : a[a.idxOf 0]'(sa_zero ha hn) = 0 := List.getElem_idxOf (sa_zero ha hn)
   simp only [Option.getD_some] at e1
   omega
  have hat := bwQ_at ha hn (j := i) (by omega) hiz
  rw [e1] at hat
  have hrow : bwRow s a q = (i : Int) + 1 := by unfold bwRow; rw [if_neg hqn, hi]
  have hz := sa_zero ha hn
  rw [hrow]
  by_cases c : i < a.idxOf 0
  ·rw [if_pos c] at hat
   exact ⟨i + 1, by omega, by omega, by omega, by omega, fin (i + 1) (by omega) hat⟩
  ·rw [if_neg c] at hat
   exact ⟨i, by omega, by omega, by omega, by omega, fin i (by omega) hat⟩
end
theorem zero_out {a : List Int} (hnd : a.Nodup) (hz : a.idxOf 0 < a.length) : a.filter (fun q => decide (q ≠ 0)) = a.take (a.idxOf 0) ++ a.drop (a.idxOf 0 + 1) := by
 have hz0 : a[a.idxOf 0] = 0 := List.getElem_idxOf hz
 have hsplit : a = a.take (a.idxOf 0) ++ 0 :: a.drop (a.idxOf 0 + 1) := by
  conv => lhs; rw [← List.take_append_drop (a.idxOf 0) a, List.drop_eq_getElem_cons hz, hz0]
 obtain ⟨A, hA⟩ : ∃ A, a.take (a.idxOf 0) = A := ⟨_, rfl⟩
 obtain ⟨B, hB⟩ : ∃ B, a.drop (a.idxOf 0 + 1) = B := ⟨_, rfl⟩
 rw [hA, hB] at hsplit ⊢
 rw [hsplit] at hnd ⊢
 rw [List.nodup_append] at hnd
 obtain ⟨_, h2, h3⟩ := hnd
 rw [List.nodup_cons] at h2
 rw [List.filter_append, List.filter_cons, if_neg (by simp), List.filter_eq_self.2 (fun q hq => by rw [decide_eq_true_eq]; exact fun e => h3 q hq 0 (by simp) e), List.filter_eq_self.2 (fun q hq => by rw [decide_eq_true_eq]; intro e; subst e; exact h2.1 hq)]
theorem bwt_Of_l0 {s a : List Int} (ha : IsSA s a) (hn : s.length ≤ 100000) : ∀ (d i : Nat) (acc : List Int) (at_' : Int), i + d = a.length → acc.length ≤ i + 1 →
  Ev (fun k => bwt_Of.l0 k s acc at_' a (a.length : Int) (i : Int)) (acc ++ ((a.drop i).filter (fun q => decide (q ≠ 0))).map (fun q => s.getD (q - 1).toNat 0), (if (0 : Int) ∈ a.drop i then ((i + (a.drop i).idxOf 0 + 1 : Nat) : Int) else at_'), true) := by
 intro d
 have hl := ha.1
 induction d with
 | zero =>
   intro i acc at_' hd hac
   refine Ev.step (fun k => by rw [bwt_Of.l0]) ?_
   simp only [if_neg (show ¬ (i : Int) < a.length by omega)]
   rw [List.drop_of_length_le (by omega)]
   simp only [List.filter_nil, List.map_nil, List.append_nil, List.not_mem_nil, if_false]
   exact Ev.now _
 | succ d ih =>
   intro i acc at_' hd hac
   have hi : i < a.length := by omega
   have hdr := drop_cons_get hi
   have hr := (ha.mem (a.getD i 0)).1 (getD_mem hi)
   refine Ev.step (fun k => by rw [bwt_Of.l0]) ?_
   simp only [if_pos (show (i : Int) < a.length by omega), if_pos (show 0 ≤ (i : Int) by omega), rd_nat, wrap_nat hi (show a.length ≤ 140737488355328 by omega)]
   by_cases h0 : a.getD i 0 = 0
   ·simp only [h0, if_true]
    have hno : (0 : Int) ∉ a.drop (i + 1) := by
     have hnd := ha.nodup
     rw [← List.take_append_drop i a, List.nodup_append, hdr, h0] at hnd
     exact (List.nodup_cons.1 hnd.2.1).1
    have := ih (i + 1) acc ((i + 1 : Nat) : Int) (by omega) (by omega)
    rw [if_neg hno] at this
    rw [hdr, h0, List.filter_cons, if_neg (by simp), if_pos (by simp), List.idxOf_cons_self, Nat.add_zero]
    exact this
   ·obtain ⟨m, hm⟩ : ∃ m : Nat, a.getD i 0 - 1 = m := ⟨(a.getD i 0 - 1).toNat, by omega⟩
    have hw : wrap64 (a.getD i 0 - 1) = (m : Int) := by rw [hm, wrap64_id (by omega) (by omega)]
    simp only [if_neg h0, hw, if_pos (show 0 ≤ (m : Int) by omega), if_pos (show (m : Int) < s.length by omega), if_pos (show acc.length < 140737488355328 by omega), rd_nat]
    have := ih (i + 1) (acc ++ [s.getD m 0]) at_' (by omega) (by rw [List.length_append, List.length_singleton]; omega)
    have e : s.getD (a.getD i 0 - 1).toNat 0 = s.getD m 0 := by rw [hm, Int.toNat_natCast]
    have hmem : ((0 : Int) ∈ a.getD i 0 :: a.drop (i + 1)) ↔ (0 : Int) ∈ a.drop (i + 1) := by
     rw [List.mem_cons]
     exact ⟨fun h => h.resolve_left (fun h => h0 h.symm), .inr⟩
    rw [hdr, List.filter_cons, if_pos (by simpa using h0), List.map_cons, e]
    simp only [hmem]
    rw [List.idxOf_cons, show (a.getD i 0 == (0 : Int)) = false from by simpa using h0]
    rw [List.append_assoc, List.singleton_append] at this
    have e2 : ((i + 1 + (a.drop (i + 1)).idxOf 0 + 1 : Nat) : Int) = ((i + (bif false then 0 else (a.drop (i + 1)).idxOf 0 + 1) + 1 : Nat) : Int) := by
     show _ = ((i + ((a.drop (i + 1)).idxOf 0 + 1) + 1 : Nat) : Int)
     omega
    rw [e2] at this
    exact this
def bwAt (s a : List Int) : Int := if s.length = 0 then 0 else ((a.idxOf 0 : Nat) : Int) + 1
def bwL0 (s a : List Int) : List Int := if s.length = 0 then [] else bwL s a
theorem bwt_Of_ev {s a : List Int} (ha : IsSA s a) (hn : s.length ≤ 100000) : Ev (fun k => bwt_Of.f k s a) (bwL0 s a, bwAt s a, true) := by
 have hl := ha.1
 refine Ev.congr (fun k => by rw [bwt_Of.f, if_pos (by omega)]) ?_
 refine Ev.bind (rank_Is_ev a (by omega)) ?_
 simp only [ha.perm, decide_true, Bool.not_true]
 refine Ev.step (fun k => by rw [bwt_Of.j0]) ?_
 simp only [if_neg (show ¬ false = true by decide), Option.bind_some]
 unfold bwAt bwL0
 rcases Nat.eq_zero_or_pos s.length with h0 | h0
 ·simp only [if_neg (show ¬ (s.length : Int) > 0 by omega)]
  refine Ev.step (fun k => by rw [bwt_Of.j1]) ?_
  have := bwt_Of_l0 ha hn a.length 0 [] 0 (by omega) (by simp)
  have e : a = [] := List.eq_nil_of_length_eq_zero (by omega)
  subst e
  rw [if_pos h0, if_pos h0]
  simpa using this
 ·have hw : wrap64 ((s.length : Int) - 1) = ((s.length - 1 : Nat) : Int) := by rw [wrap64_id (by omega) (by omega)]; omega
  simp only [if_pos (show (s.length : Int) > 0 by omega), hw, if_pos (show 0 ≤ ((s.length - 1 : Nat) : Int) by omega), if_pos (show ((s.length - 1 : Nat) : Int) < s.length by omega), if_pos (show ([] : List Int).length < 140737488355328 by simp), List.nil_append, rd_nat]
  refine Ev.step (fun k => by rw [bwt_Of.j1]) ?_
  have := bwt_Of_l0 ha hn a.length 0 [s.getD (s.length - 1) 0] 0 (by omega) (by simp)
  rw [List.drop_zero, if_pos ((ha.mem 0).2 (by omega)), zero_out ha.nodup (sa_zero ha h0), Nat.zero_add] at this
  rw [if_neg (by omega), if_neg (by omega)]
  have e : bwL s a = [s.getD (s.length - 1) 0] ++ (a.take (a.idxOf 0) ++ a.drop (a.idxOf 0 + 1)).map (fun q => s.getD (q - 1).toNat 0) := by
   unfold bwL bwQ
   rw [List.map_cons, show ((s.length : Int) - 1).toNat = s.length - 1 by omega]; rfl
  rw [e]
  exact this
theorem bwt_Turn_ev {s : List Int} (hb : isB s) (hn : s.length ≤ 100000) : ∃ a, IsSA s a ∧ Ev (fun k => bwt_Turn.f k s) (bwL0 s a, bwAt s a, 0) := by
 obtain ⟨a, ha, hE⟩ := sais_Bytes_ev hn hb
 refine ⟨a, ha, ?_⟩
 refine Ev.congr (fun k => by rw [bwt_Turn.f]) ?_
 refine Ev.bind hE ?_
 simp only [if_true]
 refine Ev.bind (bwt_Of_ev ha hn) ?_
 exact Ev.now _
theorem bwt_firsts_l0 (l : List Int) (hn : l.length ≤ 35184372088832) (hb : isB l) : ∀ (d i : Nat) (o ks : List Int), i + d = l.length → o.length = l.length → ks.length = l.length → (∀ j, j < i → o.getD j 0 = j) → (∀ j, j < i → ks.getD j 0 = l.getD j 0) →
  Ev (fun k => bwt_firsts.l0 k o ks l (l.length : Int) (i : Int)) (lfOf l) := by
 intro d
 induction d with
 | zero =>
   intro i o ks hd ho hk h1 h2
   have eo : o = iota l.length := ext_getD (by rw [ho, iota_length]) (fun j hj => by
    rw [h1 j (by omega)]
    unfold iota
    rw [List.getD_eq_getElem?_getD, List.getElem?_map, List.getElem?_range (by omega)]; rfl)
   have ek : ks = l := ext_getD hk (fun j hj => h2 j (by omega))
   subst eo
   subst ek
   refine Ev.step (fun k => by rw [bwt_firsts.l0]) ?_
   simp only [if_neg (show ¬ (i : Int) < ks.length by omega)]
   refine Ev.bind (bucket_Pass_ev _ _ _ (by rw [iota_length]; omega) (by omega)) ?_
   have ok : okPass (iota ks.length) ks 256 := ⟨⟨by decide, by decide, fun x hx => by have := hb x hx; omega⟩, fun x hx => by rw [iota_mem] at hx; omega⟩
   rw [passR, if_pos ok]
   have e : stab (keyOf ks) (iota ks.length) (256 : Int).toNat = lfS ks := rfl
   rw [e]
   refine Ev.bind (rank_Inverse_ev (lfS ks) (by rw [lfS_length hb]; omega)) ?_
   rw [invR, if_pos (lfS_perm hb)]
   simp only
   rw [← lfOf]
   exact Ev.now (lfOf ks)
 | succ d ih =>
   intro i o ks hd ho hk h1 h2
   have hi : i < l.length := by omega
   have hm := hb _ (getD_mem hi)
   refine Ev.step (fun k => by rw [bwt_firsts.l0]) ?_
   rw [rd_nat, wrap64_id (x := l.getD i 0) (by omega) (by omega)]
   simp only [if_pos (show (i : Int) < l.length by omega), if_pos (show 0 ≤ (i : Int) by omega), if_pos (show (i : Int) < o.length by omega), if_pos (show (i : Int) < ks.length by omega), wrap_nat hi (show l.length ≤ 140737488355328 by omega), Int.toNat_natCast]
   refine ih (i + 1) _ _ (by omega) (by rw [List.length_set, ho]) (by rw [List.length_set, hk]) (fun j hj => ?_) (fun j hj => ?_)
   ·rw [lset (by omega)]
    by_cases e : i = j
    ·rw [if_pos e, e]
    ·rw [if_neg e]; exact h1 j (by omega)
   ·rw [lset (by omega)]
    by_cases e : i = j
    ·rw [if_pos e, e]
    ·rw [if_neg e]; exact h2 j (by omega)
theorem bwt_firsts_ev (l : List Int) (hn : l.length ≤ 35184372088832) (hb : isB l) : Ev (fun k => bwt_firsts.f k l) (lfOf l) := by
 refine Ev.congr (fun k => by rw [bwt_firsts.f]) ?_
 simp only [Int.toNat_natCast]
 simp only [if_pos (show 0 ≤ (l.length : Int) by omega), if_pos hn]
 exact bwt_firsts_l0 l hn hb l.length 0 _ _ (by omega) (by simp) (by simp) (fun j hj => by omega) (fun j hj => by omega)
theorem bwt_Back_l0 {s a : List Int} (ha : IsSA s a) (hb : isB s) (hn : s.length ≤ 100000) (h0 : 0 < s.length) : ∀ (m : Nat) (out : List Int), m ≤ s.length → out.length = s.length → (∀ j, m ≤ j → j < s.length → out.getD j 0 = s.getD j 0) →
  Ev (fun k => bwt_Back.l0 k (bwL s a) (bwAt s a) (lfOf (bwL s a)) out (bwRow s a m) ((m : Int) - 1)) (s, 0) := by
 have hl := ha.1
 have hat : bwAt s a = ((a.idxOf 0 : Nat) : Int) + 1 := by unfold bwAt; rw [if_neg (by omega)]
 have hz := sa_zero ha h0
 have hlL := bwL_length ha h0
 have hbL := bwL_isB ha h0 hb
 have hlp : (lfOf (bwL s a)).length = s.length := by rw [lfOf_length hbL, hlL]
 intro m
 induction m with
 | zero =>
   intro out hm ho hag
   refine Ev.step (fun k => by rw [bwt_Back.l0]) ?_
   simp only [if_neg (show ¬ ((0 : Nat) : Int) - 1 ≥ 0 by omega)]
   have hr : bwRow s a 0 = bwAt s a := by
    rw [hat]
    unfold bwRow
    rw [if_neg (by omega)]
    have := inv_at ha.perm hz
    have h1 : a.getD (a.idxOf 0) 0 = 0 := by
     rw [List.getD_eq_getElem?_getD, List.getElem?_eq_getElem hz]
     exact List.getElem_idxOf hz
    rw [h1] at this
    rw [show (0 : Int).toNat = 0 from rfl] at this
    rw [this]
   simp only [hr, if_true]
   rw [ext_getD ho (fun j hj => hag j (Nat.zero_le _) (by omega))]
   exact Ev.now _
 | succ m ih =>
   intro out hm ho hag
   obtain ⟨j, hj, hne, hgt, hle, hL, hP⟩ := bw_step ha hb (q := m + 1) (by omega) hm
   rw [Nat.add_sub_cancel] at hL hP
   have hrow : ∀ q, q ≤ s.length → 0 ≤ bwRow s a q ∧ bwRow s a q ≤ s.length := fun q hq => by
    unfold bwRow
    by_cases c : q = s.length
    ·rw [if_pos c]; omega
    ·rw [if_neg c]
     have := at_inv ha.perm (v := q) (by omega)
     omega
   have hr1 := hrow (m + 1) hm
   have hr0 := hrow m (by omega)
   have hx : ((m + 1 : Nat) : Int) - 1 = (m : Int) := by omega
   have hw1 : wrap64 ((m : Int) - 1) = (m : Int) - 1 := wrap64_id (by omega) (by omega)
   have hw2 : wrap64 ((lfOf (bwL s a)).getD j 0 + 1) = bwRow s a m := by rw [hP, wrap64_id (by omega) (by omega)]
   refine Ev.step (fun k => by rw [bwt_Back.l0]) ?_
   rw [hx]
   have fin : Ev (fun k => bwt_Back.l0 k (bwL s a) (bwAt s a) (lfOf (bwL s a)) (out.set m (s.getD m 0)) (bwRow s a m) ((m : Int) - 1)) (s, 0) := by
    refine ih _ (by omega) (by rw [List.length_set, ho]) (fun i hi hi2 => ?_)
    rw [lset (by omega)]
    by_cases e : m = i
    ·rw [if_pos e, e]
    ·rw [if_neg e]; exact hag i (by omega) hi2
   simp only [if_pos (show (m : Int) ≥ 0 by omega), hat, if_neg hne]
   rw [hat] at fin
   by_cases c : bwRow s a (m + 1) > ((a.idxOf 0 : Nat) : Int) + 1
   ·have hj1 := hgt c
    have hw : wrap64 (bwRow s a (m + 1) - 1) = (j : Int) := by rw [hj1, wrap64_id (by omega) (by omega)]
    simp only [if_pos c, hw, if_pos (show 0 ≤ (j : Int) by omega), if_pos (show (j : Int) < (bwL s a).length by omega), if_pos (show 0 ≤ (m : Int) by omega), if_pos (show (m : Int) < out.length by omega), if_pos (show (j : Int) < (lfOf (bwL s a)).length by omega), rd_nat, hL, hw2, hw1, Int.toNat_natCast]
    exact fin
   ·have hj1 := hle c
    simp only [if_neg c]
    simp only [hj1, if_pos (show 0 ≤ (j : Int) by omega), if_pos (show (j : Int) < (bwL s a).length by omega), if_pos (show 0 ≤ (m : Int) by omega), if_pos (show (m : Int) < out.length by omega), if_pos (show (j : Int) < (lfOf (bwL s a)).length by omega), rd_nat, hL, hw2, hw1, Int.toNat_natCast]
    exact fin
theorem bwt_Back_ev {s a : List Int} (ha : IsSA s a) (hb : isB s) (hn : s.length ≤ 100000) : Ev (fun k => bwt_Back.f k (bwL0 s a) (bwAt s a)) (s, 0) := by
 have hl := ha.1
 rcases Nat.eq_zero_or_pos s.length with h0 | h0
 ·have e : s = [] := List.eq_nil_of_length_eq_zero h0
  subst e
  have e1 : bwL0 [] a = [] := rfl
  have e2 : bwAt [] a = 0 := rfl
  rw [e1, e2]
  refine Ev.congr (fun k => by rw [bwt_Back.f]) ?_
  simp only [List.length_nil, if_neg (show ¬ ((0 : Nat) : Int) > 100000 by omega), mn_nat 0 1, if_neg (show ¬ (0 : Int) < ((min 0 1 : Nat) : Int) by simp), show decide ((0 : Int) > ((0 : Nat) : Int)) = false from rfl]
  refine Ev.step (fun k => by rw [bwt_Back.j0]) ?_
  simp only [if_neg (show ¬ false = true by decide)]
  refine Ev.bind (bwt_firsts_ev [] (by simp) (fun x hx => by simp at hx)) ?_
  simp only [if_pos (show 0 ≤ ((0 : Nat) : Int) by omega), if_pos (show (((0 : Nat) : Int)).toNat ≤ 281474976710656 by simp)]
  refine Ev.step (fun k => by rw [bwt_Back.l0]) ?_
  have hw : wrap64 (((0 : Nat) : Int) - 1) = -1 := wrap64_id (by omega) (by omega)
  simp only [hw, if_neg (show ¬ (-1 : Int) ≥ 0 by omega), if_true]
  exact Ev.now _
 ·have hlL := bwL_length ha h0
  have hbL := bwL_isB ha h0 hb
  have hz := sa_zero ha h0
  have e1 : bwL0 s a = bwL s a := by unfold bwL0; rw [if_neg (by omega)]
  have hat : bwAt s a = ((a.idxOf 0 : Nat) : Int) + 1 := by unfold bwAt; rw [if_neg (by omega)]
  have hmn : mn (s.length : Int) 1 = 1 := by
   have := mn_nat s.length 1
   rw [show ((1 : Nat) : Int) = 1 from rfl] at this
   rw [this]; omega
  rw [e1]
  refine Ev.congr (fun k => by rw [bwt_Back.f]) ?_
  rw [hlL]
  simp only [if_neg (show ¬ (s.length : Int) > 100000 by omega), hmn, if_neg (show ¬ bwAt s a < 1 by omega), show decide (bwAt s a > (s.length : Int)) = false from decide_eq_false (by omega)]
  refine Ev.step (fun k => by rw [bwt_Back.j0]) ?_
  simp only [if_neg (show ¬ false = true by decide)]
  refine Ev.bind (bwt_firsts_ev (bwL s a) (by omega) hbL) ?_
  have hw : wrap64 ((s.length : Int) - 1) = (s.length : Int) - 1 := wrap64_id (by omega) (by omega)
  simp only [if_pos (show 0 ≤ (s.length : Int) by omega), Int.toNat_natCast, if_pos (show s.length ≤ 281474976710656 by omega), hw]
  have := bwt_Back_l0 ha hb hn h0 s.length (List.replicate s.length 0) (Nat.le_refl _) (by simp) (fun j h1 h2 => by omega)
  have hr : bwRow s a s.length = 0 := by unfold bwRow; rw [if_pos rfl]
  rw [hr] at this
  exact this
theorem bwt_both (s : List Int) (hb : isB s) (hn : s.length ≤ 100000) : ∃ l at_', Ev (fun k => bwt_Turn.f k s) (l, at_', 0) ∧ Ev (fun k => bwt_Back.f k l at_') (s, 0) := by
 obtain ⟨a, ha, hE⟩ := bwt_Turn_ev hb hn
 exact ⟨_, _, hE, bwt_Back_ev ha hb hn⟩
theorem TopTurns : whorltop_TopTurns.Pure := by
 intro s h1 h2 h3
 refine Ev.rounds ?_
 have hb : isB s := fun x hx => wf_u8 (h3 x hx)
 refine Ev.congr (fun k => by rw [whorltop_TopTurns.f]) ?_
 by_cases g1 : (s.length : Int) > 200
 ·simp only [if_pos g1]; exact Ev.now _
 simp only [if_neg g1]
 obtain ⟨l, at_', hT, hBk⟩ := bwt_both s hb (by omega)
 refine Ev.bind hT ?_
 refine Ev.bind hBk ?_
 obtain ⟨y, hy, hyE⟩ := bij_Turn_ev s hb (by omega)
 have hyb := TurnR.bytes hy hb
 have hyl := TurnR.length hy
 have hyk := TurnR.back hy hb
 refine Ev.bind hyE ?_
 refine Ev.bind (bij_Back_ev y hyb (by omega) (by rw [hyk]; omega)) ?_
 obtain ⟨x, hxb, hxl, hx⟩ := turn_onto (y := s) (fun t ht htb => facts_ex t (by omega)) hb
 have hxk := TurnR.back hx hxb
 refine Ev.bind (bij_Back_ev s hb (by omega) (by rw [hxk]; omega)) ?_
 rw [hxk, hyk]
 obtain ⟨z, hz, hzE⟩ := bij_Turn_ev x hxb (by omega)
 have hzs : z = s := TurnR.one hz hx
 rw [hzs] at hzE
 refine Ev.bind hzE ?_
 simp only [if_true, whorltop_known.f, Option.bind_some]
 exact Ev.now _
end Go.Proofs.YtbbpplnnegdenaaGreat.Pure
end
