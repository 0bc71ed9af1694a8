/- Words, functions, walks and plain mathematics for TopPipe, part 5: laid together by a program of this session (pack.py). -/
import Derived.Test.YtbbpplnnegdenaaGreatKTopPiped
set_option linter.unusedVariables false
set_option linter.unusedSimpArgs false
section
namespace Go.Proofs.YtbbpplnnegdenaaGreat.PTopPipe
open Go.RowKit Go.Proofs.YtbbpplnnegdenaaGreatW.PrintWords Go.Proofs.YtbbpplnnegdenaaGreatW.PrintLast Go.Proofs.YtbbpplnnegdenaaGreatW.PrintMore
attribute [local go_sem] max2_int min2_int max_two min_two max_three min_three max_four min_four
set_option linter.unusedVariables false
set_option linter.unusedSimpArgs false
def slices_BinarySearch_int_int.l0 : Nat → List Int → Int → Int → Int → Int → Option (Int × Bool)
  | 0, _, _, _, _, _ => none
  | k + 1, x0, x1, x6, x7, x8 => if x7 < x8 then (if 0 ≤ (wrap64 ((IntKind.u64.wrap (wrap64 (x7 + x8))) / 2)) then (if (wrap64 ((IntKind.u64.wrap (wrap64 (x7 + x8))) / 2)) < (x0.length : Int) then ((cmp_Less_int.f (rd x0 (wrap64 ((IntKind.u64.wrap (wrap64 (x7 + x8))) / 2))) x1).bind fun t452 => (if t452 = true then (slices_BinarySearch_int_int.l0 k x0 x1 x6 (wrap64 ((wrap64 ((IntKind.u64.wrap (wrap64 (x7 + x8))) / 2)) + 1)) x8) else (slices_BinarySearch_int_int.l0 k x0 x1 x6 x7 (wrap64 ((IntKind.u64.wrap (wrap64 (x7 + x8))) / 2))))) else (none)) else (none)) else (if x7 < x6 then (if 0 ≤ x7 then (if x7 < (x0.length : Int) then (if (rd x0 x7) = x1 then (some (x7, true)) else ((slices_isNaN_int.f (rd x0 x7)).bind fun t455 => (if t455 = true then ((slices_isNaN_int.f x1).bind fun t456 => (some (x7, t456))) else (some (x7, false))))) else (none)) else (none)) else (some (x7, false)))
def slices_BinarySearch_int_int.f (k : Nat) (l0 : List Int) (a1 : Int) : Option (Int × Bool) := slices_BinarySearch_int_int.l0 k l0 a1 (l0.length : Int) 0 (l0.length : Int)
theorem slices_BinarySearch_int_int.mono_l : ∀ k, (∀ y0 y1 y2 y3 y4, LeO (slices_BinarySearch_int_int.l0 k y0 y1 y2 y3 y4) (slices_BinarySearch_int_int.l0 (k + 1) y0 y1 y2 y3 y4))
  | 0 => fun _ _ _ _ _ r h => by simp [slices_BinarySearch_int_int.l0] at h
  | k + 1 => by
    have ih0 := slices_BinarySearch_int_int.mono_l k
    · intro y0 y1 y2 y3 y4
      unfold slices_BinarySearch_int_int.l0
      exact mB
theorem slices_BinarySearch_int_int.mono : ∀ a0 a1 k, LeO (slices_BinarySearch_int_int.f k a0 a1) (slices_BinarySearch_int_int.f (k + 1) a0 a1) := by
  intro a0 a1 k
  have ih0 := slices_BinarySearch_int_int.mono_l k
  unfold slices_BinarySearch_int_int.f
  exact mB
set_option maxHeartbeats 8000000 in
set_option maxRecDepth 100000 in
theorem slices_BinarySearch_int_int.calls (k : Nat) (A0 : Option Addr) (c0 : Nat) (l0 : List Int) (a1 : Int) (r1 : Int) (r2 : Bool) (w : World) (hr0 : Kd.C (Kd.int .i64) w A0 l0.length l0) (hc0 : l0.length ≤ c0) (h : slices_BinarySearch_int_int.f k l0 a1 = some (r1, r2)) :
    Calls Tryz.prog 148 #[.slice A0 l0.length c0, .int .i64 a1] w fun e w' => e = .returned (.tuple #[.int .i64 r1, .bool r2]) ∧ Drawn0 w w' := by
 have HR0 := Aside0.mk hr0
 have HC0 := Aside0.mk hc0
 clear hr0 hc0
 have H := h
 clear h
 unfold slices_BinarySearch_int_int.f at H
 have H' := Aside0.mk H
 clear H
 go_enter Tryz.func148, Tryz.ntmps148
 go_wp2
 go_loopg [7, 8] k (fun kq v7 v8 w' => ∃ (x7_1 : Int) (x8_1 : Int), v7 = .int .i64 x7_1 ∧ v8 = .int .i64 x8_1 ∧ Aside0 (slices_BinarySearch_int_int.l0 kq l0 a1 (l0.length : Int) x7_1 x8_1 = some (r1, r2)) ∧ Aside0 (kq ≤ k) ∧ Drawn0 w w')
 case atStart => exact ⟨(0), ((l0.length : Int)), sD, sD, H', ⟨Nat.le_refl _⟩, dD⟩
 case round =>
  clear H'
  try clear c1
  try clear p2
  obtain ⟨x7_1, x8_1, rfl, rfl, HA, HK1, ⟨m1, rfl⟩⟩ := hrel
  cases gk with
  | zero => exact absurd HA.out (by simp [slices_BinarySearch_int_int.l0])
  | succ k1 =>
   have H := HA.out
   clear HA
   simp only [slices_BinarySearch_int_int.l0] at H
   rcases ifC H with ⟨c3b0, H⟩ | ⟨c3b0, H⟩
   ·obtain ⟨ji4, hji4⟩ : ∃ j_ : Int, (wrap64 ((IntKind.u64.wrap (wrap64 (x7_1 + x8_1))) / 2)) = j_ := ⟨_, rfl⟩
    first | rw [hji4] at H | simp only [hji4] at H
    have hji4w : (IntKind.i64.wrap ((IntKind.u64.wrap (wrap64 (x7_1 + x8_1))) / 2)) = ji4 := (i64_w _).trans hji4
    obtain ⟨c5b0, c6b0, H⟩ := ifD2 H
    obtain ⟨t452, A7, H⟩ := bdS H
    try dsimp only at H
    by_cases c8 : t452 = true
    ·subst c8
     rw [if_pos rfl] at H
     have H' := Aside0.mk H
     clear H
     obtain ⟨ad451, e451, hx451_0, p451, q451⟩ := rI HR0.out (ji4)
     cases e451
     go_wp2_with (first | ((with_reducible refine gate_callee (f := 155) rfl ?_); refine goesL_ (some 27) rfl rfl Tryz.func155 (by kernel_rfl) rfl #[.int .i64 (rd l0 (ji4)), .int .i64 a1] rfl (by (try simp only [List.map_toArray, List.map_cons, List.map_nil]); first | done | (simp only [hji4]; rfl) | rfl | (simp only [List.length_drop, List.length_take]; rfl)) ?_; (with_reducible refine (cmp_Less_int.calls (rd l0 (ji4)) a1 true _ A7.out).mono ?_); rintro e w' ⟨rfl, ⟨nd, rfl⟩⟩; refine ⟨_, rfl, ?_⟩))
     go_roundg k1
     case measure => have := HK1.out; omega
     case rel => exact ⟨(wrap64 ((ji4) + 1)), (x8_1), (by first | rfl | (simp; done) | (simp only [← hji4] <;> (first | rfl | simp)) | (simp [*]; done)), sD, H', ⟨by have := HK1.out; omega⟩, dD⟩
    ·replace c8 := Bool.eq_false_iff.mpr c8
     subst c8
     rw [if_neg (by decide)] at H
     have H' := Aside0.mk H
     clear H
     obtain ⟨ad451, e451, hx451_0, p451, q451⟩ := rI HR0.out (ji4)
     cases e451
     go_wp2_with (first | ((with_reducible refine gate_callee (f := 155) rfl ?_); refine goesL_ (some 27) rfl rfl Tryz.func155 (by kernel_rfl) rfl #[.int .i64 (rd l0 (ji4)), .int .i64 a1] rfl (by (try simp only [List.map_toArray, List.map_cons, List.map_nil]); first | done | (simp only [hji4]; rfl) | rfl | (simp only [List.length_drop, List.length_take]; rfl)) ?_; (with_reducible refine (cmp_Less_int.calls (rd l0 (ji4)) a1 false _ A7.out).mono ?_); rintro e w' ⟨rfl, ⟨nd, rfl⟩⟩; refine ⟨_, rfl, ?_⟩))
     go_roundg k1
     case measure => have := HK1.out; omega
     case rel => exact ⟨(x7_1), (ji4), sD, (by first | rfl | (simp; done) | (simp only [← hji4] <;> (first | rfl | simp)) | (simp [*]; done)), H', ⟨by have := HK1.out; omega⟩, dD⟩
   ·rcases ifC H with ⟨c9b0, H⟩ | ⟨c9b0, H⟩
    ·obtain ⟨c10b0, c11b0, H⟩ := ifD2 H
     by_cases c12 : (rd l0 x7_1) = a1
     ·rw [if_pos c12] at H
      have c12b0 : ((rd l0 x7_1) == a1) = true := beq_iff_eq.mpr c12
      have c12b1 : ((rd l0 x7_1) != a1) = false := bne_eq_false_iff_eq.mpr c12
      clear c12
      simp only [Option.some.injEq, Prod.mk.injEq] at H
      obtain ⟨rfl, rfl⟩ := H
      obtain ⟨ad453, e453, hx453_0, p453, q453⟩ := rI HR0.out x7_1
      cases e453
      go_wp2
      go_ret2
      exact ⟨sD, dD⟩
     ·rw [if_neg c12] at H
      have c12b0 : ((rd l0 x7_1) == a1) = false := beq_eq_false_iff_ne.mpr c12
      have c12b1 : ((rd l0 x7_1) != a1) = true := bne_iff_ne.mpr c12
      obtain ⟨t455, A13, H⟩ := bdS H
      try dsimp only at H
      by_cases c14 : t455 = true
      ·subst c14
       rw [if_pos rfl] at H
       obtain ⟨t456, A15, H⟩ := bdS H
       try dsimp only at H
       simp only [Option.some.injEq, Prod.mk.injEq] at H
       obtain ⟨rfl, rfl⟩ := H
       obtain ⟨ad453, e453, hx453_0, p453, q453⟩ := rI HR0.out x7_1
       cases e453
       obtain ⟨ad454, e454, hx454_0, p454, q454⟩ := rI HR0.out x7_1
       obtain rfl : ad453 = ad454 := (by injection e454)
       go_wp2_with (first | (go_at_call 156; (with_reducible refine (slices_isNaN_int.calls (rd l0 x7_1) true _ A13.out).mono ?_); rintro e w' ⟨rfl, ⟨nd, rfl⟩⟩) | (go_at_call 156; (with_reducible refine (slices_isNaN_int.calls a1 t456 _ A15.out).mono ?_); rintro e w' ⟨rfl, ⟨nd, rfl⟩⟩))
       go_ret2
       exact ⟨sD, dD⟩
      ·replace c14 := Bool.eq_false_iff.mpr c14
       subst c14
       rw [if_neg (by decide)] at H
       simp only [Option.some.injEq, Prod.mk.injEq] at H
       obtain ⟨rfl, rfl⟩ := H
       obtain ⟨ad453, e453, hx453_0, p453, q453⟩ := rI HR0.out x7_1
       cases e453
       obtain ⟨ad454, e454, hx454_0, p454, q454⟩ := rI HR0.out x7_1
       obtain rfl : ad453 = ad454 := (by injection e454)
       go_wp2_with (first | (go_at_call 156; (with_reducible refine (slices_isNaN_int.calls (rd l0 x7_1) false _ A13.out).mono ?_); rintro e w' ⟨rfl, ⟨nd, rfl⟩⟩))
       go_ret2
       exact ⟨sD, dD⟩
    ·simp only [Option.some.injEq, Prod.mk.injEq] at H
     obtain ⟨rfl, rfl⟩ := H
     go_wp2
     go_ret2
     exact ⟨sD, dD⟩
def double_ranks.f (k : Nat) (l0 : List Int) : Option (List Int) :=
  if l0.length ≤ 1000000 then Go.Proofs.YtbbpplnnegdenaaGreat.Rk.ranksL (slices_BinarySearch_int_int.f k (Go.Proofs.YtbbpplnnegdenaaGreat.Srt.srt l0)) l0 l0.length 0 (List.replicate l0.length 0) else none
theorem double_ranks.mono : ∀ a0 k, LeO (double_ranks.f k a0) (double_ranks.f (k + 1) a0) := by
  intro a0 k
  unfold double_ranks.f
  refine LeO.ite ?_ (LeO.none _)
  have hm : ∀ d i l, LeO (Go.Proofs.YtbbpplnnegdenaaGreat.Rk.ranksL (slices_BinarySearch_int_int.f k (Go.Proofs.YtbbpplnnegdenaaGreat.Srt.srt a0)) a0 d i l) (Go.Proofs.YtbbpplnnegdenaaGreat.Rk.ranksL (slices_BinarySearch_int_int.f (k + 1) (Go.Proofs.YtbbpplnnegdenaaGreat.Srt.srt a0)) a0 d i l) := by
    intro d
    induction d with
    | zero => intro i l; exact LeO.refl _
    | succ d ih => intro i l; exact LeO.bind (slices_BinarySearch_int_int.mono _ _ _) (fun r => ih _ _)
  exact hm _ _ _
theorem double_ranks.calls (k : Nat) (A0 : Option Addr) (c0 : Nat) (l0 : List Int) (r : List Int) (w : World) (hr0 : Kd.C (Kd.int .i64) w A0 l0.length l0) (hc0 : l0.length ≤ c0) (h : double_ranks.f k l0 = some r) :
    Calls Tryz.prog 133 #[.slice A0 l0.length c0] w fun e w' => ∃ v0_ : Value, e = .returned (v0_) ∧ Kd.R (Kd.int .i64) 3 w' w.heap.size (fun _ => True) v0_ r ∧ Below w.heap.size w w' := by
 unfold double_ranks.f at h
 by_cases c1 : l0.length ≤ 1000000
 case neg => rw [if_neg c1] at h; exact absurd h (by simp)
 rw [if_pos c1] at h
 exact Go.Proofs.YtbbpplnnegdenaaGreat.Rk.ranks_calls hr0 c1 (Go.Proofs.YtbbpplnnegdenaaGreat.Srt.srt_eq l0).symm (fun W A c x r1 r2 e1 hA hx => slices_BinarySearch_int_int.calls k A c _ x r1 r2 W hA e1 hx) h
def double_on.f (l0 : List Int) (a1 : Int) (a2 : Int) : Option (Int) := if (wrap64 (a1 + a2)) ≥ (l0.length : Int) then (some 0) else (if 0 ≤ (wrap64 (a1 + a2)) then (if (wrap64 (a1 + a2)) < (l0.length : Int) then (some (wrap64 ((rd l0 (wrap64 (a1 + a2))) + 1))) else (none)) else (none))
set_option maxHeartbeats 8000000 in
set_option maxRecDepth 100000 in
theorem double_on.calls (A0 : Option Addr) (c0 : Nat) (l0 : List Int) (a1 : Int) (a2 : Int) (r : Int) (w : World) (hr0 : Kd.C (Kd.int .i64) w A0 l0.length l0) (hc0 : l0.length ≤ c0) (h : double_on.f l0 a1 a2 = some r) :
    Calls Tryz.prog 149 #[.slice A0 l0.length c0, .int .i64 a1, .int .i64 a2] w fun e w' => e = .returned (.int .i64 r) ∧ Drawn0 w w' := by
 have HR0 := Aside0.mk hr0
 have HC0 := Aside0.mk hc0
 clear hr0 hc0
 have H := h
 clear h
 unfold double_on.f at H
 rcases ifG H with ⟨c4b0, H⟩ | ⟨c4b0, H⟩
 ·obtain rfl := Option.some.inj H
  go_enter Tryz.func149, Tryz.ntmps149
  go_wp2
  go_ret
  exact ⟨sD, dD⟩
 ·obtain ⟨ji5, hji5⟩ : ∃ j_ : Int, (wrap64 (a1 + a2)) = j_ := ⟨_, rfl⟩
  first | rw [hji5] at H | simp only [hji5] at H
  (try rw [hji5] at c4b0)
  have hji5w : (IntKind.i64.wrap (a1 + a2)) = ji5 := (i64_w _).trans hji5
  obtain ⟨c6b0, c7b0, H⟩ := ifD2 H
  obtain rfl := Option.some.inj H
  obtain ⟨ad457, e457, hx457_0, p457, q457⟩ := rI HR0.out (ji5)
  cases e457
  go_enter Tryz.func149, Tryz.ntmps149
  go_wp2
  go_ret
  exact ⟨by first | rfl | (simp; done) | (simp only [← hji5] <;> (first | rfl | simp)) | (simp [*]; done), dD⟩
mutual
def double_joined.l0 : Nat → List Int → Int → List Int → List Int → Int → Int → Option (List Int × List Int)
  | 0, _, _, _, _, _, _ => none
  | k + 1, x0, x1, x6, x7, x19, x20 => if x20 < x19 then ((double_on.f x0 x20 x1).bind fun t464 => (if 0 ≤ x20 then (if x20 < (x6.length : Int) then (if x20 < (x7.length : Int) then (double_joined.l0 k x0 x1 (x6.set (x20 : Int).toNat x20) (x7.set (x20 : Int).toNat t464) x19 (wrap64 (x20 + 1))) else (none)) else (none)) else (none))) else ((bucket_Pass.f k x6 x7 (wrap64 ((x0.length : Int) + 1))).bind fun bt467 => ((bucket_Pass.f k bt467.1 x0 (x0.length : Int)).bind fun bt471 => (if 0 ≤ (x0.length : Int) then (if ((x0.length : Int) : Int).toNat ≤ 35184372088832 then (double_joined.l1 k x0 bt471.1 x7 (List.replicate ((x0.length : Int) : Int).toNat 0) bt471.1 (bt471.1.length : Int) 0) else (none)) else (none))))
def double_joined.l1 : Nat → List Int → List Int → List Int → List Int → List Int → Int → Int → Option (List Int × List Int)
  | 0, _, _, _, _, _, _, _ => none
  | k + 1, x0, x6, x7, x9, x55, x56, x57 => if x57 < x56 then (if 0 ≤ x57 then (if x57 < (x55.length : Int) then (if 0 ≤ (rd x55 x57) then (if (rd x55 x57) < (x9.length : Int) then ((some (x9.set ((rd x55 x57) : Int).toNat x57 : List Int)).bind fun y479 => (if x57 > 0 then (if 0 ≤ (wrap64 (x57 - 1)) then (if (wrap64 (x57 - 1)) < (x6.length : Int) then (if 0 ≤ (rd x6 (wrap64 (x57 - 1))) then (if (rd x6 (wrap64 (x57 - 1))) < (x0.length : Int) then (if (rd x55 x57) < (x0.length : Int) then (if (rd x0 (rd x6 (wrap64 (x57 - 1)))) = (rd x0 (rd x55 x57)) then (if (rd x6 (wrap64 (x57 - 1))) < (x7.length : Int) then (if (rd x55 x57) < (x7.length : Int) then (if (rd x7 (rd x6 (wrap64 (x57 - 1)))) = (rd x7 (rd x55 x57)) then (if (rd x6 (wrap64 (x57 - 1))) < (x9.length : Int) then (double_joined.l1 k x0 x6 x7 (y479.set ((rd x55 x57) : Int).toNat (rd y479 (rd x6 (wrap64 (x57 - 1))))) x55 x56 (wrap64 (x57 + 1))) else (none)) else (double_joined.l1 k x0 x6 x7 y479 x55 x56 (wrap64 (x57 + 1)))) else (none)) else (none)) else (double_joined.l1 k x0 x6 x7 y479 x55 x56 (wrap64 (x57 + 1)))) else (none)) else (none)) else (none)) else (none)) else (none)) else (double_joined.l1 k x0 x6 x7 y479 x55 x56 (wrap64 (x57 + 1))))) else (none)) else (none)) else (none)) else (none)) else (some (x9, x6))
end
def double_joined.f (k : Nat) (l0 : List Int) (a1 : Int) : Option (List Int × List Int) := if 0 ≤ (l0.length : Int) then (if ((l0.length : Int) : Int).toNat ≤ 35184372088832 then (double_joined.l0 k l0 a1 (List.replicate ((l0.length : Int) : Int).toNat 0) (List.replicate ((l0.length : Int) : Int).toNat 0) (l0.length : Int) 0) else (none)) else (none)
theorem double_joined.mono_l : ∀ k, (∀ y0 y1 y2 y3 y4 y5, LeO (double_joined.l0 k y0 y1 y2 y3 y4 y5) (double_joined.l0 (k + 1) y0 y1 y2 y3 y4 y5)) ∧ (∀ y0 y1 y2 y3 y4 y5 y6, LeO (double_joined.l1 k y0 y1 y2 y3 y4 y5 y6) (double_joined.l1 (k + 1) y0 y1 y2 y3 y4 y5 y6))
  | 0 => ⟨fun _ _ _ _ _ _ r h => by simp [double_joined.l0] at h, fun _ _ _ _ _ _ _ r h => by simp [double_joined.l1] at h⟩
  | k + 1 => by
    obtain ⟨ih0, ih1⟩ := double_joined.mono_l k
    refine ⟨?_, ?_⟩
    · intro y0 y1 y2 y3 y4 y5
      unfold double_joined.l0
      have m0 := @bucket_Pass.mono
      exact mB
    · intro y0 y1 y2 y3 y4 y5 y6
      unfold double_joined.l1
      have m0 := @bucket_Pass.mono
      exact mB
theorem double_joined.mono : ∀ a0 a1 k, LeO (double_joined.f k a0 a1) (double_joined.f (k + 1) a0 a1) := by
  intro a0 a1 k
  obtain ⟨ih0, ih1⟩ := double_joined.mono_l k
  unfold double_joined.f
  have m0 := @bucket_Pass.mono
  exact mB
set_option maxHeartbeats 8000000 in
set_option maxRecDepth 100000 in
theorem double_joined.calls (k : Nat) (A0 : Option Addr) (c0 : Nat) (l0 : List Int) (a1 : Int) (r1 : List Int) (r2 : List Int) (w : World) (hr0 : Kd.C (Kd.int .i64) w A0 l0.length l0) (hc0 : l0.length ≤ c0) (h : double_joined.f k l0 a1 = some (r1, r2)) :
    Calls Tryz.prog 134 #[.slice A0 l0.length c0, .int .i64 a1] w fun e w' => ∃ v0_ v1_ : Value, e = .returned (.tuple #[v0_, v1_]) ∧ Kd.R (Kd.int .i64) 3 w' w.heap.size (fun k_ => some k_ ≠ (v1_ : Value).ownBlock) v0_ r1 ∧ Kd.R (Kd.int .i64) 3 w' w.heap.size (fun k_ => some k_ ≠ (v0_ : Value).ownBlock) v1_ r2 ∧ Below w.heap.size w w' := by
 have HR0 := Aside0.mk hr0
 have HC0 := Aside0.mk hc0
 clear hr0 hc0
 have HB := Aside0.mk (Below.refl w.heap.size w)
 have H := h
 clear h
 unfold double_joined.f at H
 obtain ⟨c3b0, c3b1, H⟩ := ifE H
 obtain ⟨c4b0, c4b1, H⟩ := ifE H
 obtain ⟨y458, hy458⟩ : ∃ y_ : List Int, y_ = (List.replicate ((l0.length : Int) : Int).toNat 0) := ⟨_, rfl⟩
 replace H : (double_joined.l0 k l0 a1 y458 (List.replicate ((l0.length : Int) : Int).toNat 0) (l0.length : Int) 0) = some (r1, r2) := by first | (rw [hy458]; with_reducible exact H) | (have H2_ := (Option.bind_some _ _).symm.trans H; rw [hy458]; with_reducible exact H2_) | (have H2_ := (Option.bind_some _ _).symm.trans H; with_reducible exact H2_) | with_reducible exact H | (rw [hy458]; exact H) | exact H
 have Ny458 := Aside0.mk hy458
 clear hy458
 obtain ⟨y461, hy461⟩ : ∃ y_ : List Int, y_ = (List.replicate ((l0.length : Int) : Int).toNat 0) := ⟨_, rfl⟩
 replace H : (double_joined.l0 k l0 a1 y458 y461 (l0.length : Int) 0) = some (r1, r2) := by first | (rw [hy461]; with_reducible exact H) | (have H2_ := (Option.bind_some _ _).symm.trans H; rw [hy461]; with_reducible exact H2_) | (have H2_ := (Option.bind_some _ _).symm.trans H; with_reducible exact H2_) | with_reducible exact H | (rw [hy461]; exact H) | exact H
 have Ny461 := Aside0.mk hy461
 clear hy461
 have H' := Aside0.mk H
 clear H
 go_enter Tryz.func134, Tryz.ntmps134
 go_wp2_with (first | ((with_reducible refine gate_dst (N := 14) rfl ?_); refine Kd.R_make (Kd.int .i64) _ 3 rfl (N := 14) rfl 29 _ _ rfl (l0.length : Int) rfl rfl Tryz.underlying29 (.int .i64 0) 8 info3 rfl (by decide) (by omega) 0 (ok := fun _ => True) (okp := fun _ => True) rfl (fun _ hk => hk) trivial dT (Nat.le_trans (Nat.mul_le_mul_right _ (dT : (l0.length : Int).toNat ≤ 35184372088832)) (by omega)) (Below.refl _ _) (Nat.le_refl _) ?_; intro v459 w5 ho6 hb hg_ hnew_; clear hg_ hnew_; (first | rw [← Ny458.out] at ho6 | (simp only [Int.reduceToNat] at ho6; rw [← Ny458.out] at ho6)); have n0_ := Aside0.mk (Kd.R_lower ho6 (below_size uB)); have n1_ := Aside0.mk (below_step uB hb); clear HB; have HO460 := n0_; have HB := n1_; clear n0_ n1_; clear hb ho6) | ((with_reducible refine gate_dst (N := 17) rfl ?_); refine Kd.R_make (Kd.int .i64) _ 3 rfl (N := 17) rfl 29 _ _ rfl (l0.length : Int) rfl rfl Tryz.underlying29 (.int .i64 0) 8 info3 rfl (by decide) (by omega) 0 (ok := fun _ => True) (okp := fun _ => True) rfl (fun _ hk => hk) trivial dT (Nat.le_trans (Nat.mul_le_mul_right _ (dT : (l0.length : Int).toNat ≤ 35184372088832)) (by omega)) (Below.refl _ _) (Nat.le_refl _) ?_; intro v462 w7 ho8 hb hg_ hnew_; clear hg_ hnew_; (first | rw [← Ny461.out] at ho8 | (simp only [Int.reduceToNat] at ho8; rw [← Ny461.out] at ho8)); have n0_ := Aside0.mk (Kd.R_elder' (uR HO460.out) (Kd.R_base ho8) hb); have n1_ := Aside0.mk (Kd.R_lower (Kd.R_new' ho8 (Kd.R_lt (uR HO460.out))) (below_size uB)); have n2_ := Aside0.mk (below_step uB hb); clear HO460; clear HB; have HO460 := n0_; have HO463 := n1_; have HB := n2_; clear n0_ n1_ n2_; clear hb ho8))
 repeat (go_quiet (first | ((with_reducible refine gate_dst (N := 14) rfl ?_); refine Kd.R_make (Kd.int .i64) _ 3 rfl (N := 14) rfl 29 _ _ rfl (l0.length : Int) rfl rfl Tryz.underlying29 (.int .i64 0) 8 info3 rfl (by decide) (by omega) 0 (ok := fun _ => True) (okp := fun _ => True) rfl (fun _ hk => hk) trivial dT (Nat.le_trans (Nat.mul_le_mul_right _ (dT : (l0.length : Int).toNat ≤ 35184372088832)) (by omega)) (Below.refl _ _) (Nat.le_refl _) ?_; intro v459 w5 ho6 hb hg_ hnew_; clear hg_ hnew_; (first | rw [← Ny458.out] at ho6 | (simp only [Int.reduceToNat] at ho6; rw [← Ny458.out] at ho6)); have n0_ := Aside0.mk (Kd.R_lower ho6 (below_size uB)); have n1_ := Aside0.mk (below_step uB hb); clear HB; have HO460 := n0_; have HB := n1_; clear n0_ n1_; clear hb ho6) | ((with_reducible refine gate_dst (N := 17) rfl ?_); refine Kd.R_make (Kd.int .i64) _ 3 rfl (N := 17) rfl 29 _ _ rfl (l0.length : Int) rfl rfl Tryz.underlying29 (.int .i64 0) 8 info3 rfl (by decide) (by omega) 0 (ok := fun _ => True) (okp := fun _ => True) rfl (fun _ hk => hk) trivial dT (Nat.le_trans (Nat.mul_le_mul_right _ (dT : (l0.length : Int).toNat ≤ 35184372088832)) (by omega)) (Below.refl _ _) (Nat.le_refl _) ?_; intro v462 w7 ho8 hb hg_ hnew_; clear hg_ hnew_; (first | rw [← Ny461.out] at ho8 | (simp only [Int.reduceToNat] at ho8; rw [← Ny461.out] at ho8)); have n0_ := Aside0.mk (Kd.R_elder' (uR HO460.out) (Kd.R_base ho8) hb); have n1_ := Aside0.mk (Kd.R_lower (Kd.R_new' ho8 (Kd.R_lt (uR HO460.out))) (below_size uB)); have n2_ := Aside0.mk (below_step uB hb); clear HO460; clear HB; have HO460 := n0_; have HO463 := n1_; have HB := n2_; clear n0_ n1_ n2_; clear hb ho8)); try go_wp2_with (first | ((with_reducible refine gate_dst (N := 14) rfl ?_); refine Kd.R_make (Kd.int .i64) _ 3 rfl (N := 14) rfl 29 _ _ rfl (l0.length : Int) rfl rfl Tryz.underlying29 (.int .i64 0) 8 info3 rfl (by decide) (by omega) 0 (ok := fun _ => True) (okp := fun _ => True) rfl (fun _ hk => hk) trivial dT (Nat.le_trans (Nat.mul_le_mul_right _ (dT : (l0.length : Int).toNat ≤ 35184372088832)) (by omega)) (Below.refl _ _) (Nat.le_refl _) ?_; intro v459 w5 ho6 hb hg_ hnew_; clear hg_ hnew_; (first | rw [← Ny458.out] at ho6 | (simp only [Int.reduceToNat] at ho6; rw [← Ny458.out] at ho6)); have n0_ := Aside0.mk (Kd.R_lower ho6 (below_size uB)); have n1_ := Aside0.mk (below_step uB hb); clear HB; have HO460 := n0_; have HB := n1_; clear n0_ n1_; clear hb ho6) | ((with_reducible refine gate_dst (N := 17) rfl ?_); refine Kd.R_make (Kd.int .i64) _ 3 rfl (N := 17) rfl 29 _ _ rfl (l0.length : Int) rfl rfl Tryz.underlying29 (.int .i64 0) 8 info3 rfl (by decide) (by omega) 0 (ok := fun _ => True) (okp := fun _ => True) rfl (fun _ hk => hk) trivial dT (Nat.le_trans (Nat.mul_le_mul_right _ (dT : (l0.length : Int).toNat ≤ 35184372088832)) (by omega)) (Below.refl _ _) (Nat.le_refl _) ?_; intro v462 w7 ho8 hb hg_ hnew_; clear hg_ hnew_; (first | rw [← Ny461.out] at ho8 | (simp only [Int.reduceToNat] at ho8; rw [← Ny461.out] at ho8)); have n0_ := Aside0.mk (Kd.R_elder' (uR HO460.out) (Kd.R_base ho8) hb); have n1_ := Aside0.mk (Kd.R_lower (Kd.R_new' ho8 (Kd.R_lt (uR HO460.out))) (below_size uB)); have n2_ := Aside0.mk (below_step uB hb); clear HO460; clear HB; have HO460 := n0_; have HO463 := n1_; have HB := n2_; clear n0_ n1_ n2_; clear hb ho8)))
 go_loopg [20] k (fun kq v20 w' => ∃ (x6_1 : List Int) (x7_1 : List Int) (x20_1 : Int), v20 = .int .i64 x20_1 ∧ Aside0 (double_joined.l0 kq l0 a1 x6_1 x7_1 (l0.length : Int) x20_1 = some (r1, r2)) ∧ Aside0 (kq ≤ k) ∧ Aside0 (Kd.R (Kd.int .i64) 3 w' w.heap.size (fun k_ => some k_ ≠ (v462 : Value).ownBlock) v459 x6_1) ∧ Aside0 (Kd.R (Kd.int .i64) 3 w' w.heap.size (fun k_ => some k_ ≠ (v459 : Value).ownBlock) v462 x7_1) ∧ Aside0 (Below w.heap.size w w'))
 case atStart => exact ⟨(y458), (y461), (0), sD, H', ⟨Nat.le_refl _⟩, ⟨by (with_reducible repeat (first | apply Kd.R_alloc | apply Kd.R_drewN | apply Kd.R_drew)); exact Kd.R_mono HO460.out (fun _ hk => hk.2)⟩, ⟨by (with_reducible repeat (first | apply Kd.R_alloc | apply Kd.R_drewN | apply Kd.R_drew)); exact Kd.R_mono HO463.out (fun _ hk => hk.2)⟩, ⟨uB⟩⟩
 case round =>
  clear H'
  try clear c1
  try clear p2
  try clear c3
  try clear c3b0
  try clear c3b1
  try clear c4
  try clear c4b0
  try clear c4b1
  obtain ⟨x6_1, x7_1, x20_1, rfl, HA, HK1, HO_6, HO_7, HB⟩ := hrel
  cases gk with
  | zero => exact absurd HA.out (by simp [double_joined.l0])
  | succ k1 =>
   have H := HA.out
   clear HA
   simp only [double_joined.l0] at H
   rcases ifC H with ⟨c9b0, H⟩ | ⟨c9b0, H⟩
   ·obtain ⟨t464, A10, H⟩ := bdS H
    try dsimp only at H
    obtain ⟨c11b0, c12b0, H⟩ := ifD2 H
    obtain ⟨y465, hy465⟩ : ∃ y_ : List Int, y_ = (x6_1.set (x20_1 : Int).toNat x20_1) := ⟨_, rfl⟩
    replace H : (if x20_1 < (x7_1.length : Int) then (double_joined.l0 k1 l0 a1 y465 (x7_1.set (x20_1 : Int).toNat t464) (l0.length : Int) (wrap64 (x20_1 + 1))) else (none)) = some (r1, r2) := by first | (rw [hy465]; with_reducible exact H) | (have H2_ := (Option.bind_some _ _).symm.trans H; rw [hy465]; with_reducible exact H2_) | (have H2_ := (Option.bind_some _ _).symm.trans H; with_reducible exact H2_) | with_reducible exact H | (rw [hy465]; exact H) | exact H
    have Ny465 := Aside0.mk hy465
    clear hy465
    obtain ⟨c14b0, H⟩ := ifD H
    obtain ⟨y466, hy466⟩ : ∃ y_ : List Int, y_ = (x7_1.set (x20_1 : Int).toNat t464) := ⟨_, rfl⟩
    replace H : (double_joined.l0 k1 l0 a1 y465 y466 (l0.length : Int) (wrap64 (x20_1 + 1))) = some (r1, r2) := by first | (rw [hy466]; with_reducible exact H) | (have H2_ := (Option.bind_some _ _).symm.trans H; rw [hy466]; with_reducible exact H2_) | (have H2_ := (Option.bind_some _ _).symm.trans H; with_reducible exact H2_) | with_reducible exact H | (rw [hy466]; exact H) | exact H
    have Ny466 := Aside0.mk hy466
    clear hy466
    have H' := Aside0.mk H
    clear H
    go_wp2_with (first | (go_at_call 149; (with_reducible refine (double_on.calls _ _ l0 x20_1 a1 t464 _ ?side1 ?side2 A10.out).mono ?_); (case side1 => exact uC (Kd.C_below HR0.out HB.out)); (case side2 => exact HC0.out); rintro e w' ⟨rfl, ⟨nd, rfl⟩⟩; (try first | exact ⟨rfl, _, World.drewN_drewN _ _ _⟩ | exact ⟨rfl, _, Eq.trans (World.drewN_drewN _ _ _) (congrArg (World.drewN _) (Nat.add_assoc _ _ _))⟩); have p13 : 0 ≤ (x20_1 : Int) := dT; have q13 : (x20_1 : Int) < ((x6_1.length : Int) : Int) := dT; obtain ⟨go13, co13, eo13, gb13, gl13, cl13, HG13⟩ := Kd.R_form HO_6.out (by omega); (first | cases eo13 | (injection eo13 with ea_ en_ ec_; (first | subst ea_ | (injection ea_ with ea_; subst ea_)); subst ec_; clear en_)); have GB13 := Aside0.mk gb13; have GG13 := Aside0.mk HG13; clear gb13 gl13 HG13; obtain ⟨hx13_0, hf13_0⟩ := Kd.R_celln 0 HO_6.out (x20_1 : Int) p13 q13; replace p13 := eq_true p13; replace q13 := eq_true q13; obtain ⟨hy16_, hz16_⟩ := Kd.R_celln 0 HO_6.out (x20_1 : Int) dT dT; have HP16 := Kd.R_putg HO_6.out (x20_1 : Int) x20_1) | ((with_reducible refine gate_store (t := 3) (p := 32) rfl ?_); (try (rw [drewN_self wr]; generalize hq_ : World.drewN wr _ = wr; have n0_ := Aside0.mk (Kd.R_at hq_ HO_6.out); have n1_ := Aside0.mk (Kd.R_at hq_ HO_7.out); have n2_ := Aside0.mk (below_at hq_ HB.out); clear hq_ HO_6 HO_7 HB; have HO_6 := n0_; have HO_7 := n1_; have HB := n2_; clear n0_ n1_ n2_; (try (obtain ⟨hy16_, hz16_⟩ := Kd.R_celln 0 HO_6.out (x20_1 : Int) dT dT)); (try (have HP16 := Kd.R_putg HO_6.out (x20_1 : Int) x20_1)))); refine store_event (t := 3) (p := 32) (v := ?vo_w17) (w1 := (wr.setCell ⟨go13, (x20_1 : Int).toNat, none⟩ (.int .i64 x20_1))) ?hg ?ho ?hn ?hr ?_; (case ho => rfl); (case hg => rfl); (case hn => rfl); (case hr => first | (go_simp; done) | (go_simp; rfl)); intro w17 hw; have hg : wr.grownBy w17 (some go13) := (by rw [hw]; exact HP16.2); have hp_ : Kd.R (Kd.int .i64) 3 w17 w.heap.size (fun k_ => some k_ ≠ (v462 : Value).ownBlock) (.slice (some ⟨go13, 0, none⟩) x6_1.length co13) y465 := (by rw [hw, Ny465.out]; exact HP16.1); clear HP16; have n0_ := Aside0.mk (hp_); have n1_ := Aside0.mk (Kd.R_after (v := (.slice (some ⟨go13, 0, none⟩) x6_1.length co13)) (v1 := (.slice (some ⟨go13, 0, none⟩) x6_1.length co13)) (ok := (fun _ => True)) (by (with_reducible repeat (first | apply Kd.R_alloc | apply Kd.R_drewN | apply Kd.R_drew)); exact Kd.R_mono HO_7.out (fun _ hk => ⟨trivial, hk⟩)) hg (.inl rfl)); have n2_ := Aside0.mk ((by rw [hw]; exact below_set (HB.out) GB13.out : Below w.heap.size w w17)); clear HO_6; clear HO_7; clear HB; have HO_6 := n0_; have HO_7 := n1_; have HB := n2_; clear n0_ n1_ n2_; clear hg hw hp_; have p15 : 0 ≤ (x20_1 : Int) := dT; have q15 : (x20_1 : Int) < ((x7_1.length : Int) : Int) := dT; obtain ⟨go15, co15, eo15, gb15, gl15, cl15, HG15⟩ := Kd.R_form HO_7.out (by omega); (first | cases eo15 | (injection eo15 with ea_ en_ ec_; (first | subst ea_ | (injection ea_ with ea_; subst ea_)); subst ec_; clear en_)); have GB15 := Aside0.mk gb15; have GG15 := Aside0.mk HG15; clear gb15 gl15 HG15; obtain ⟨hx15_0, hf15_0⟩ := Kd.R_celln 0 HO_7.out (x20_1 : Int) p15 q15; replace p15 := eq_true p15; replace q15 := eq_true q15; have n_ := Aside0.mk (Kd.R_mono (ok' := (fun k_ => some k_ ≠ (.slice (some ⟨go13, 0, none⟩) x6_1.length co13 : Value).ownBlock)) HO_7.out (fun k_ hk => hk.2)); clear HO_7; have HO_7 := n_; clear n_; obtain ⟨hy18_, hz18_⟩ := Kd.R_celln 0 HO_7.out (x20_1 : Int) dT dT; have HP18 := Kd.R_putg HO_7.out (x20_1 : Int) t464) | ((with_reducible refine gate_store (t := 3) (p := 33) rfl ?_); (try (rw [drewN_self w17]; generalize hq_ : World.drewN w17 _ = w17; have n0_ := Aside0.mk (Kd.R_at hq_ HO_6.out); have n1_ := Aside0.mk (Kd.R_at hq_ HO_7.out); have n2_ := Aside0.mk (below_at hq_ HB.out); clear hq_ HO_6 HO_7 HB; have HO_6 := n0_; have HO_7 := n1_; have HB := n2_; clear n0_ n1_ n2_; (try (have n_ := Aside0.mk (Kd.R_mono (ok' := (fun k_ => some k_ ≠ (.slice (some ⟨go13, 0, none⟩) x6_1.length co13 : Value).ownBlock)) HO_7.out (fun k_ hk => hk.2)); clear HO_7; have HO_7 := n_; clear n_)); (try (obtain ⟨hy18_, hz18_⟩ := Kd.R_celln 0 HO_7.out (x20_1 : Int) dT dT)); (try (have HP18 := Kd.R_putg HO_7.out (x20_1 : Int) t464)))); refine store_event (t := 3) (p := 33) (v := ?vo_w19) (w1 := (w17.setCell ⟨go15, (x20_1 : Int).toNat, none⟩ (.int .i64 t464))) ?hg ?ho ?hn ?hr ?_; (case ho => rfl); (case hg => rfl); (case hn => rfl); (case hr => first | (go_simp; done) | (go_simp; rfl)); intro w19 hw; have hg : w17.grownBy w19 (some go15) := (by rw [hw]; exact HP18.2); have hp_ : Kd.R (Kd.int .i64) 3 w19 w.heap.size (fun k_ => some k_ ≠ (.slice (some ⟨go13, 0, none⟩) x6_1.length co13 : Value).ownBlock) (.slice (some ⟨go15, 0, none⟩) x7_1.length co15) y466 := (by rw [hw, Ny466.out]; exact HP18.1); clear HP18; have n0_ := Aside0.mk (Kd.R_after (v := (.slice (some ⟨go15, 0, none⟩) x7_1.length co15)) (v1 := (.slice (some ⟨go15, 0, none⟩) x7_1.length co15)) (ok := (fun _ => True)) (by (with_reducible repeat (first | apply Kd.R_alloc | apply Kd.R_drewN | apply Kd.R_drew)); exact Kd.R_mono HO_6.out (fun _ hk => ⟨trivial, hk⟩)) hg (.inl rfl)); have n1_ := Aside0.mk (hp_); have n2_ := Aside0.mk ((by rw [hw]; exact below_set (HB.out) GB15.out : Below w.heap.size w w19)); clear HO_6; clear HO_7; clear HB; have HO_6 := n0_; have HO_7 := n1_; have HB := n2_; clear n0_ n1_ n2_; clear hg hw hp_))
    repeat (go_quiet (first | (go_at_call 149; (with_reducible refine (double_on.calls _ _ l0 x20_1 a1 t464 _ ?side1 ?side2 A10.out).mono ?_); (case side1 => exact uC (Kd.C_below HR0.out HB.out)); (case side2 => exact HC0.out); rintro e w' ⟨rfl, ⟨nd, rfl⟩⟩; (try first | exact ⟨rfl, _, World.drewN_drewN _ _ _⟩ | exact ⟨rfl, _, Eq.trans (World.drewN_drewN _ _ _) (congrArg (World.drewN _) (Nat.add_assoc _ _ _))⟩); have p13 : 0 ≤ (x20_1 : Int) := dT; have q13 : (x20_1 : Int) < ((x6_1.length : Int) : Int) := dT; obtain ⟨go13, co13, eo13, gb13, gl13, cl13, HG13⟩ := Kd.R_form HO_6.out (by omega); (first | cases eo13 | (injection eo13 with ea_ en_ ec_; (first | subst ea_ | (injection ea_ with ea_; subst ea_)); subst ec_; clear en_)); have GB13 := Aside0.mk gb13; have GG13 := Aside0.mk HG13; clear gb13 gl13 HG13; obtain ⟨hx13_0, hf13_0⟩ := Kd.R_celln 0 HO_6.out (x20_1 : Int) p13 q13; replace p13 := eq_true p13; replace q13 := eq_true q13; obtain ⟨hy16_, hz16_⟩ := Kd.R_celln 0 HO_6.out (x20_1 : Int) dT dT; have HP16 := Kd.R_putg HO_6.out (x20_1 : Int) x20_1) | ((with_reducible refine gate_store (t := 3) (p := 32) rfl ?_); (try (rw [drewN_self wr]; generalize hq_ : World.drewN wr _ = wr; have n0_ := Aside0.mk (Kd.R_at hq_ HO_6.out); have n1_ := Aside0.mk (Kd.R_at hq_ HO_7.out); have n2_ := Aside0.mk (below_at hq_ HB.out); clear hq_ HO_6 HO_7 HB; have HO_6 := n0_; have HO_7 := n1_; have HB := n2_; clear n0_ n1_ n2_; (try (obtain ⟨hy16_, hz16_⟩ := Kd.R_celln 0 HO_6.out (x20_1 : Int) dT dT)); (try (have HP16 := Kd.R_putg HO_6.out (x20_1 : Int) x20_1)))); refine store_event (t := 3) (p := 32) (v := ?vo_w17) (w1 := (wr.setCell ⟨go13, (x20_1 : Int).toNat, none⟩ (.int .i64 x20_1))) ?hg ?ho ?hn ?hr ?_; (case ho => rfl); (case hg => rfl); (case hn => rfl); (case hr => first | (go_simp; done) | (go_simp; rfl)); intro w17 hw; have hg : wr.grownBy w17 (some go13) := (by rw [hw]; exact HP16.2); have hp_ : Kd.R (Kd.int .i64) 3 w17 w.heap.size (fun k_ => some k_ ≠ (v462 : Value).ownBlock) (.slice (some ⟨go13, 0, none⟩) x6_1.length co13) y465 := (by rw [hw, Ny465.out]; exact HP16.1); clear HP16; have n0_ := Aside0.mk (hp_); have n1_ := Aside0.mk (Kd.R_after (v := (.slice (some ⟨go13, 0, none⟩) x6_1.length co13)) (v1 := (.slice (some ⟨go13, 0, none⟩) x6_1.length co13)) (ok := (fun _ => True)) (by (with_reducible repeat (first | apply Kd.R_alloc | apply Kd.R_drewN | apply Kd.R_drew)); exact Kd.R_mono HO_7.out (fun _ hk => ⟨trivial, hk⟩)) hg (.inl rfl)); have n2_ := Aside0.mk ((by rw [hw]; exact below_set (HB.out) GB13.out : Below w.heap.size w w17)); clear HO_6; clear HO_7; clear HB; have HO_6 := n0_; have HO_7 := n1_; have HB := n2_; clear n0_ n1_ n2_; clear hg hw hp_; have p15 : 0 ≤ (x20_1 : Int) := dT; have q15 : (x20_1 : Int) < ((x7_1.length : Int) : Int) := dT; obtain ⟨go15, co15, eo15, gb15, gl15, cl15, HG15⟩ := Kd.R_form HO_7.out (by omega); (first | cases eo15 | (injection eo15 with ea_ en_ ec_; (first | subst ea_ | (injection ea_ with ea_; subst ea_)); subst ec_; clear en_)); have GB15 := Aside0.mk gb15; have GG15 := Aside0.mk HG15; clear gb15 gl15 HG15; obtain ⟨hx15_0, hf15_0⟩ := Kd.R_celln 0 HO_7.out (x20_1 : Int) p15 q15; replace p15 := eq_true p15; replace q15 := eq_true q15; have n_ := Aside0.mk (Kd.R_mono (ok' := (fun k_ => some k_ ≠ (.slice (some ⟨go13, 0, none⟩) x6_1.length co13 : Value).ownBlock)) HO_7.out (fun k_ hk => hk.2)); clear HO_7; have HO_7 := n_; clear n_; obtain ⟨hy18_, hz18_⟩ := Kd.R_celln 0 HO_7.out (x20_1 : Int) dT dT; have HP18 := Kd.R_putg HO_7.out (x20_1 : Int) t464) | ((with_reducible refine gate_store (t := 3) (p := 33) rfl ?_); (try (rw [drewN_self w17]; generalize hq_ : World.drewN w17 _ = w17; have n0_ := Aside0.mk (Kd.R_at hq_ HO_6.out); have n1_ := Aside0.mk (Kd.R_at hq_ HO_7.out); have n2_ := Aside0.mk (below_at hq_ HB.out); clear hq_ HO_6 HO_7 HB; have HO_6 := n0_; have HO_7 := n1_; have HB := n2_; clear n0_ n1_ n2_; (try (have n_ := Aside0.mk (Kd.R_mono (ok' := (fun k_ => some k_ ≠ (.slice (some ⟨go13, 0, none⟩) x6_1.length co13 : Value).ownBlock)) HO_7.out (fun k_ hk => hk.2)); clear HO_7; have HO_7 := n_; clear n_)); (try (obtain ⟨hy18_, hz18_⟩ := Kd.R_celln 0 HO_7.out (x20_1 : Int) dT dT)); (try (have HP18 := Kd.R_putg HO_7.out (x20_1 : Int) t464)))); refine store_event (t := 3) (p := 33) (v := ?vo_w19) (w1 := (w17.setCell ⟨go15, (x20_1 : Int).toNat, none⟩ (.int .i64 t464))) ?hg ?ho ?hn ?hr ?_; (case ho => rfl); (case hg => rfl); (case hn => rfl); (case hr => first | (go_simp; done) | (go_simp; rfl)); intro w19 hw; have hg : w17.grownBy w19 (some go15) := (by rw [hw]; exact HP18.2); have hp_ : Kd.R (Kd.int .i64) 3 w19 w.heap.size (fun k_ => some k_ ≠ (.slice (some ⟨go13, 0, none⟩) x6_1.length co13 : Value).ownBlock) (.slice (some ⟨go15, 0, none⟩) x7_1.length co15) y466 := (by rw [hw, Ny466.out]; exact HP18.1); clear HP18; have n0_ := Aside0.mk (Kd.R_after (v := (.slice (some ⟨go15, 0, none⟩) x7_1.length co15)) (v1 := (.slice (some ⟨go15, 0, none⟩) x7_1.length co15)) (ok := (fun _ => True)) (by (with_reducible repeat (first | apply Kd.R_alloc | apply Kd.R_drewN | apply Kd.R_drew)); exact Kd.R_mono HO_6.out (fun _ hk => ⟨trivial, hk⟩)) hg (.inl rfl)); have n1_ := Aside0.mk (hp_); have n2_ := Aside0.mk ((by rw [hw]; exact below_set (HB.out) GB15.out : Below w.heap.size w w19)); clear HO_6; clear HO_7; clear HB; have HO_6 := n0_; have HO_7 := n1_; have HB := n2_; clear n0_ n1_ n2_; clear hg hw hp_)); try go_wp2_with (first | (go_at_call 149; (with_reducible refine (double_on.calls _ _ l0 x20_1 a1 t464 _ ?side1 ?side2 A10.out).mono ?_); (case side1 => exact uC (Kd.C_below HR0.out HB.out)); (case side2 => exact HC0.out); rintro e w' ⟨rfl, ⟨nd, rfl⟩⟩; (try first | exact ⟨rfl, _, World.drewN_drewN _ _ _⟩ | exact ⟨rfl, _, Eq.trans (World.drewN_drewN _ _ _) (congrArg (World.drewN _) (Nat.add_assoc _ _ _))⟩); have p13 : 0 ≤ (x20_1 : Int) := dT; have q13 : (x20_1 : Int) < ((x6_1.length : Int) : Int) := dT; obtain ⟨go13, co13, eo13, gb13, gl13, cl13, HG13⟩ := Kd.R_form HO_6.out (by omega); (first | cases eo13 | (injection eo13 with ea_ en_ ec_; (first | subst ea_ | (injection ea_ with ea_; subst ea_)); subst ec_; clear en_)); have GB13 := Aside0.mk gb13; have GG13 := Aside0.mk HG13; clear gb13 gl13 HG13; obtain ⟨hx13_0, hf13_0⟩ := Kd.R_celln 0 HO_6.out (x20_1 : Int) p13 q13; replace p13 := eq_true p13; replace q13 := eq_true q13; obtain ⟨hy16_, hz16_⟩ := Kd.R_celln 0 HO_6.out (x20_1 : Int) dT dT; have HP16 := Kd.R_putg HO_6.out (x20_1 : Int) x20_1) | ((with_reducible refine gate_store (t := 3) (p := 32) rfl ?_); (try (rw [drewN_self wr]; generalize hq_ : World.drewN wr _ = wr; have n0_ := Aside0.mk (Kd.R_at hq_ HO_6.out); have n1_ := Aside0.mk (Kd.R_at hq_ HO_7.out); have n2_ := Aside0.mk (below_at hq_ HB.out); clear hq_ HO_6 HO_7 HB; have HO_6 := n0_; have HO_7 := n1_; have HB := n2_; clear n0_ n1_ n2_; (try (obtain ⟨hy16_, hz16_⟩ := Kd.R_celln 0 HO_6.out (x20_1 : Int) dT dT)); (try (have HP16 := Kd.R_putg HO_6.out (x20_1 : Int) x20_1)))); refine store_event (t := 3) (p := 32) (v := ?vo_w17) (w1 := (wr.setCell ⟨go13, (x20_1 : Int).toNat, none⟩ (.int .i64 x20_1))) ?hg ?ho ?hn ?hr ?_; (case ho => rfl); (case hg => rfl); (case hn => rfl); (case hr => first | (go_simp; done) | (go_simp; rfl)); intro w17 hw; have hg : wr.grownBy w17 (some go13) := (by rw [hw]; exact HP16.2); have hp_ : Kd.R (Kd.int .i64) 3 w17 w.heap.size (fun k_ => some k_ ≠ (v462 : Value).ownBlock) (.slice (some ⟨go13, 0, none⟩) x6_1.length co13) y465 := (by rw [hw, Ny465.out]; exact HP16.1); clear HP16; have n0_ := Aside0.mk (hp_); have n1_ := Aside0.mk (Kd.R_after (v := (.slice (some ⟨go13, 0, none⟩) x6_1.length co13)) (v1 := (.slice (some ⟨go13, 0, none⟩) x6_1.length co13)) (ok := (fun _ => True)) (by (with_reducible repeat (first | apply Kd.R_alloc | apply Kd.R_drewN | apply Kd.R_drew)); exact Kd.R_mono HO_7.out (fun _ hk => ⟨trivial, hk⟩)) hg (.inl rfl)); have n2_ := Aside0.mk ((by rw [hw]; exact below_set (HB.out) GB13.out : Below w.heap.size w w17)); clear HO_6; clear HO_7; clear HB; have HO_6 := n0_; have HO_7 := n1_; have HB := n2_; clear n0_ n1_ n2_; clear hg hw hp_; have p15 : 0 ≤ (x20_1 : Int) := dT; have q15 : (x20_1 : Int) < ((x7_1.length : Int) : Int) := dT; obtain ⟨go15, co15, eo15, gb15, gl15, cl15, HG15⟩ := Kd.R_form HO_7.out (by omega); (first | cases eo15 | (injection eo15 with ea_ en_ ec_; (first | subst ea_ | (injection ea_ with ea_; subst ea_)); subst ec_; clear en_)); have GB15 := Aside0.mk gb15; have GG15 := Aside0.mk HG15; clear gb15 gl15 HG15; obtain ⟨hx15_0, hf15_0⟩ := Kd.R_celln 0 HO_7.out (x20_1 : Int) p15 q15; replace p15 := eq_true p15; replace q15 := eq_true q15; have n_ := Aside0.mk (Kd.R_mono (ok' := (fun k_ => some k_ ≠ (.slice (some ⟨go13, 0, none⟩) x6_1.length co13 : Value).ownBlock)) HO_7.out (fun k_ hk => hk.2)); clear HO_7; have HO_7 := n_; clear n_; obtain ⟨hy18_, hz18_⟩ := Kd.R_celln 0 HO_7.out (x20_1 : Int) dT dT; have HP18 := Kd.R_putg HO_7.out (x20_1 : Int) t464) | ((with_reducible refine gate_store (t := 3) (p := 33) rfl ?_); (try (rw [drewN_self w17]; generalize hq_ : World.drewN w17 _ = w17; have n0_ := Aside0.mk (Kd.R_at hq_ HO_6.out); have n1_ := Aside0.mk (Kd.R_at hq_ HO_7.out); have n2_ := Aside0.mk (below_at hq_ HB.out); clear hq_ HO_6 HO_7 HB; have HO_6 := n0_; have HO_7 := n1_; have HB := n2_; clear n0_ n1_ n2_; (try (have n_ := Aside0.mk (Kd.R_mono (ok' := (fun k_ => some k_ ≠ (.slice (some ⟨go13, 0, none⟩) x6_1.length co13 : Value).ownBlock)) HO_7.out (fun k_ hk => hk.2)); clear HO_7; have HO_7 := n_; clear n_)); (try (obtain ⟨hy18_, hz18_⟩ := Kd.R_celln 0 HO_7.out (x20_1 : Int) dT dT)); (try (have HP18 := Kd.R_putg HO_7.out (x20_1 : Int) t464)))); refine store_event (t := 3) (p := 33) (v := ?vo_w19) (w1 := (w17.setCell ⟨go15, (x20_1 : Int).toNat, none⟩ (.int .i64 t464))) ?hg ?ho ?hn ?hr ?_; (case ho => rfl); (case hg => rfl); (case hn => rfl); (case hr => first | (go_simp; done) | (go_simp; rfl)); intro w19 hw; have hg : w17.grownBy w19 (some go15) := (by rw [hw]; exact HP18.2); have hp_ : Kd.R (Kd.int .i64) 3 w19 w.heap.size (fun k_ => some k_ ≠ (.slice (some ⟨go13, 0, none⟩) x6_1.length co13 : Value).ownBlock) (.slice (some ⟨go15, 0, none⟩) x7_1.length co15) y466 := (by rw [hw, Ny466.out]; exact HP18.1); clear HP18; have n0_ := Aside0.mk (Kd.R_after (v := (.slice (some ⟨go15, 0, none⟩) x7_1.length co15)) (v1 := (.slice (some ⟨go15, 0, none⟩) x7_1.length co15)) (ok := (fun _ => True)) (by (with_reducible repeat (first | apply Kd.R_alloc | apply Kd.R_drewN | apply Kd.R_drew)); exact Kd.R_mono HO_6.out (fun _ hk => ⟨trivial, hk⟩)) hg (.inl rfl)); have n1_ := Aside0.mk (hp_); have n2_ := Aside0.mk ((by rw [hw]; exact below_set (HB.out) GB15.out : Below w.heap.size w w19)); clear HO_6; clear HO_7; clear HB; have HO_6 := n0_; have HO_7 := n1_; have HB := n2_; clear n0_ n1_ n2_; clear hg hw hp_)))
    go_roundg k1
    case measure => have := HK1.out; omega
    case rel => exact ⟨(y465), (y466), (wrap64 (x20_1 + 1)), sD, H', ⟨by have := HK1.out; omega⟩, ⟨by (with_reducible repeat (first | apply Kd.R_alloc | apply Kd.R_drewN | apply Kd.R_drew)); exact Kd.R_mono HO_6.out (fun _ hk => hk.2)⟩, ⟨uR HO_7.out⟩, ⟨uB⟩⟩
   ·obtain ⟨⟨t467, t468⟩, A20, H⟩ := bdS H
    try dsimp only at H
    obtain ⟨⟨t471, t472⟩, A21, H⟩ := bdS H
    try dsimp only at H
    obtain ⟨c22b0, c22b1, H⟩ := ifE H
    obtain ⟨c23b0, c23b1, H⟩ := ifE H
    obtain ⟨y475, hy475⟩ : ∃ y_ : List Int, y_ = (List.replicate ((l0.length : Int) : Int).toNat 0) := ⟨_, rfl⟩
    replace H : (double_joined.l1 k1 l0 t471 x7_1 y475 t471 (t471.length : Int) 0) = some (r1, r2) := by first | (rw [hy475]; with_reducible exact H) | (have H2_ := (Option.bind_some _ _).symm.trans H; rw [hy475]; with_reducible exact H2_) | (have H2_ := (Option.bind_some _ _).symm.trans H; with_reducible exact H2_) | with_reducible exact H | (rw [hy475]; exact H) | exact H
    have Ny475 := Aside0.mk hy475
    clear hy475
    have H' := Aside0.mk H
    clear H
    obtain ⟨Ao24, co24, eo24⟩ := Kd.R_slice HO_6.out
    subst eo24
    obtain ⟨Ao25, co25, eo25⟩ := Kd.R_slice HO_7.out
    subst eo25
    go_wp2_with (first | (go_at_call 71; (with_reducible refine (bucket_Pass.calls k1 _ _ x6_1 _ _ x7_1 (wrap64 ((l0.length : Int) + 1)) t467 t468 _ ?side1 ?side2 ?side3 ?side4 A20.out).mono ?_); (case side1 => exact uC (Kd.R_reads' HO_6.out).2.2); (case side2 => exact (Kd.R_reads' HO_6.out).2.1); (case side3 => exact uC (Kd.R_reads' HO_7.out).2.2); (case side4 => exact (Kd.R_reads' HO_7.out).2.1); rintro e w26 ⟨v469, rfl, ho0, hb⟩; have n0_ := Aside0.mk (Kd.R_elder' (uR HO_6.out) (Kd.R_base ho0) hb); have n1_ := Aside0.mk (Kd.R_elder' (uR HO_7.out) (Kd.R_base ho0) hb); have n2_ := Aside0.mk (Kd.R_lower (Kd.R_new' (Kd.R_new' ho0 (Kd.R_lt (uR HO_6.out))) (Kd.R_lt (uR HO_7.out))) (below_size uB)); have n3_ := Aside0.mk (below_step uB hb); clear HO_6; clear HO_7; clear HB; have HO_6 := n0_; have HO_7 := n1_; have HO470 := n2_; have HB := n3_; clear n0_ n1_ n2_ n3_; (try clear hb); (try clear hb2); (try clear hk); (try clear hi); (try clear ho0); obtain ⟨Ao27, co27, eo27⟩ := Kd.R_slice HO470.out; subst eo27) | (go_at_call 71; (with_reducible refine (bucket_Pass.calls k1 _ _ t467 _ _ l0 (l0.length : Int) t471 t472 _ ?side1 ?side2 ?side3 ?side4 A21.out).mono ?_); (case side1 => exact uC (Kd.R_reads' HO470.out).2.2); (case side2 => exact (Kd.R_reads' HO470.out).2.1); (case side3 => exact uC (Kd.C_below HR0.out HB.out)); (case side4 => exact HC0.out); rintro e w28 ⟨v473, rfl, ho0, hb⟩; have n0_ := Aside0.mk (Kd.R_elder' (uR HO_6.out) (Kd.R_base ho0) hb); have n1_ := Aside0.mk (Kd.R_elder' (uR HO_7.out) (Kd.R_base ho0) hb); have n2_ := Aside0.mk (Kd.R_elder' (uR HO470.out) (Kd.R_base ho0) hb); have n3_ := Aside0.mk (Kd.R_lower (Kd.R_new' (Kd.R_new' (Kd.R_new' ho0 (Kd.R_lt (uR HO_6.out))) (Kd.R_lt (uR HO_7.out))) (Kd.R_lt (uR HO470.out))) (below_size uB)); have n4_ := Aside0.mk (below_step uB hb); clear HO_6; clear HO_7; clear HO470; clear HB; have HO_6 := n0_; have HO_7 := n1_; have HO470 := n2_; have HO474 := n3_; have HB := n4_; clear n0_ n1_ n2_ n3_ n4_; (try clear hb); (try clear hb2); (try clear hk); (try clear hi); (try clear ho0)) | ((with_reducible refine gate_dst (N := 54) rfl ?_); refine Kd.R_make (Kd.int .i64) _ 3 rfl (N := 54) rfl 29 _ _ rfl (l0.length : Int) rfl rfl Tryz.underlying29 (.int .i64 0) 8 info3 rfl (by decide) (by omega) 0 (ok := fun _ => True) (okp := fun _ => True) rfl (fun _ hk => hk) trivial dT (Nat.le_trans (Nat.mul_le_mul_right _ (dT : (l0.length : Int).toNat ≤ 35184372088832)) (by omega)) (Below.refl _ _) (Nat.le_refl _) ?_; intro v476 w29 ho30 hb hg_ hnew_; clear hg_ hnew_; (first | rw [← Ny475.out] at ho30 | (simp only [Int.reduceToNat] at ho30; rw [← Ny475.out] at ho30)); have n0_ := Aside0.mk (Kd.R_elder' (uR HO_6.out) (Kd.R_base ho30) hb); have n1_ := Aside0.mk (Kd.R_elder' (uR HO_7.out) (Kd.R_base ho30) hb); have n2_ := Aside0.mk (Kd.R_elder' (uR HO470.out) (Kd.R_base ho30) hb); have n3_ := Aside0.mk (Kd.R_elder' (uR HO474.out) (Kd.R_base ho30) hb); have n4_ := Aside0.mk (Kd.R_lower (Kd.R_new' (Kd.R_new' (Kd.R_new' (Kd.R_new' ho30 (Kd.R_lt (uR HO_6.out))) (Kd.R_lt (uR HO_7.out))) (Kd.R_lt (uR HO470.out))) (Kd.R_lt (uR HO474.out))) (below_size uB)); have n5_ := Aside0.mk (below_step uB hb); clear HO_6; clear HO_7; clear HO470; clear HO474; clear HB; have HO_6 := n0_; have HO_7 := n1_; have HO470 := n2_; have HO474 := n3_; have HO477 := n4_; have HB := n5_; clear n0_ n1_ n2_ n3_ n4_ n5_; clear hb ho30; obtain ⟨Ao31, co31, eo31⟩ := Kd.R_slice HO474.out; subst eo31))
    repeat (go_quiet (first | (go_at_call 71; (with_reducible refine (bucket_Pass.calls k1 _ _ x6_1 _ _ x7_1 (wrap64 ((l0.length : Int) + 1)) t467 t468 _ ?side1 ?side2 ?side3 ?side4 A20.out).mono ?_); (case side1 => exact uC (Kd.R_reads' HO_6.out).2.2); (case side2 => exact (Kd.R_reads' HO_6.out).2.1); (case side3 => exact uC (Kd.R_reads' HO_7.out).2.2); (case side4 => exact (Kd.R_reads' HO_7.out).2.1); rintro e w26 ⟨v469, rfl, ho0, hb⟩; have n0_ := Aside0.mk (Kd.R_elder' (uR HO_6.out) (Kd.R_base ho0) hb); have n1_ := Aside0.mk (Kd.R_elder' (uR HO_7.out) (Kd.R_base ho0) hb); have n2_ := Aside0.mk (Kd.R_lower (Kd.R_new' (Kd.R_new' ho0 (Kd.R_lt (uR HO_6.out))) (Kd.R_lt (uR HO_7.out))) (below_size uB)); have n3_ := Aside0.mk (below_step uB hb); clear HO_6; clear HO_7; clear HB; have HO_6 := n0_; have HO_7 := n1_; have HO470 := n2_; have HB := n3_; clear n0_ n1_ n2_ n3_; (try clear hb); (try clear hb2); (try clear hk); (try clear hi); (try clear ho0); obtain ⟨Ao27, co27, eo27⟩ := Kd.R_slice HO470.out; subst eo27) | (go_at_call 71; (with_reducible refine (bucket_Pass.calls k1 _ _ t467 _ _ l0 (l0.length : Int) t471 t472 _ ?side1 ?side2 ?side3 ?side4 A21.out).mono ?_); (case side1 => exact uC (Kd.R_reads' HO470.out).2.2); (case side2 => exact (Kd.R_reads' HO470.out).2.1); (case side3 => exact uC (Kd.C_below HR0.out HB.out)); (case side4 => exact HC0.out); rintro e w28 ⟨v473, rfl, ho0, hb⟩; have n0_ := Aside0.mk (Kd.R_elder' (uR HO_6.out) (Kd.R_base ho0) hb); have n1_ := Aside0.mk (Kd.R_elder' (uR HO_7.out) (Kd.R_base ho0) hb); have n2_ := Aside0.mk (Kd.R_elder' (uR HO470.out) (Kd.R_base ho0) hb); have n3_ := Aside0.mk (Kd.R_lower (Kd.R_new' (Kd.R_new' (Kd.R_new' ho0 (Kd.R_lt (uR HO_6.out))) (Kd.R_lt (uR HO_7.out))) (Kd.R_lt (uR HO470.out))) (below_size uB)); have n4_ := Aside0.mk (below_step uB hb); clear HO_6; clear HO_7; clear HO470; clear HB; have HO_6 := n0_; have HO_7 := n1_; have HO470 := n2_; have HO474 := n3_; have HB := n4_; clear n0_ n1_ n2_ n3_ n4_; (try clear hb); (try clear hb2); (try clear hk); (try clear hi); (try clear ho0)) | ((with_reducible refine gate_dst (N := 54) rfl ?_); refine Kd.R_make (Kd.int .i64) _ 3 rfl (N := 54) rfl 29 _ _ rfl (l0.length : Int) rfl rfl Tryz.underlying29 (.int .i64 0) 8 info3 rfl (by decide) (by omega) 0 (ok := fun _ => True) (okp := fun _ => True) rfl (fun _ hk => hk) trivial dT (Nat.le_trans (Nat.mul_le_mul_right _ (dT : (l0.length : Int).toNat ≤ 35184372088832)) (by omega)) (Below.refl _ _) (Nat.le_refl _) ?_; intro v476 w29 ho30 hb hg_ hnew_; clear hg_ hnew_; (first | rw [← Ny475.out] at ho30 | (simp only [Int.reduceToNat] at ho30; rw [← Ny475.out] at ho30)); have n0_ := Aside0.mk (Kd.R_elder' (uR HO_6.out) (Kd.R_base ho30) hb); have n1_ := Aside0.mk (Kd.R_elder' (uR HO_7.out) (Kd.R_base ho30) hb); have n2_ := Aside0.mk (Kd.R_elder' (uR HO470.out) (Kd.R_base ho30) hb); have n3_ := Aside0.mk (Kd.R_elder' (uR HO474.out) (Kd.R_base ho30) hb); have n4_ := Aside0.mk (Kd.R_lower (Kd.R_new' (Kd.R_new' (Kd.R_new' (Kd.R_new' ho30 (Kd.R_lt (uR HO_6.out))) (Kd.R_lt (uR HO_7.out))) (Kd.R_lt (uR HO470.out))) (Kd.R_lt (uR HO474.out))) (below_size uB)); have n5_ := Aside0.mk (below_step uB hb); clear HO_6; clear HO_7; clear HO470; clear HO474; clear HB; have HO_6 := n0_; have HO_7 := n1_; have HO470 := n2_; have HO474 := n3_; have HO477 := n4_; have HB := n5_; clear n0_ n1_ n2_ n3_ n4_ n5_; clear hb ho30; obtain ⟨Ao31, co31, eo31⟩ := Kd.R_slice HO474.out; subst eo31)); try go_wp2_with (first | (go_at_call 71; (with_reducible refine (bucket_Pass.calls k1 _ _ x6_1 _ _ x7_1 (wrap64 ((l0.length : Int) + 1)) t467 t468 _ ?side1 ?side2 ?side3 ?side4 A20.out).mono ?_); (case side1 => exact uC (Kd.R_reads' HO_6.out).2.2); (case side2 => exact (Kd.R_reads' HO_6.out).2.1); (case side3 => exact uC (Kd.R_reads' HO_7.out).2.2); (case side4 => exact (Kd.R_reads' HO_7.out).2.1); rintro e w26 ⟨v469, rfl, ho0, hb⟩; have n0_ := Aside0.mk (Kd.R_elder' (uR HO_6.out) (Kd.R_base ho0) hb); have n1_ := Aside0.mk (Kd.R_elder' (uR HO_7.out) (Kd.R_base ho0) hb); have n2_ := Aside0.mk (Kd.R_lower (Kd.R_new' (Kd.R_new' ho0 (Kd.R_lt (uR HO_6.out))) (Kd.R_lt (uR HO_7.out))) (below_size uB)); have n3_ := Aside0.mk (below_step uB hb); clear HO_6; clear HO_7; clear HB; have HO_6 := n0_; have HO_7 := n1_; have HO470 := n2_; have HB := n3_; clear n0_ n1_ n2_ n3_; (try clear hb); (try clear hb2); (try clear hk); (try clear hi); (try clear ho0); obtain ⟨Ao27, co27, eo27⟩ := Kd.R_slice HO470.out; subst eo27) | (go_at_call 71; (with_reducible refine (bucket_Pass.calls k1 _ _ t467 _ _ l0 (l0.length : Int) t471 t472 _ ?side1 ?side2 ?side3 ?side4 A21.out).mono ?_); (case side1 => exact uC (Kd.R_reads' HO470.out).2.2); (case side2 => exact (Kd.R_reads' HO470.out).2.1); (case side3 => exact uC (Kd.C_below HR0.out HB.out)); (case side4 => exact HC0.out); rintro e w28 ⟨v473, rfl, ho0, hb⟩; have n0_ := Aside0.mk (Kd.R_elder' (uR HO_6.out) (Kd.R_base ho0) hb); have n1_ := Aside0.mk (Kd.R_elder' (uR HO_7.out) (Kd.R_base ho0) hb); have n2_ := Aside0.mk (Kd.R_elder' (uR HO470.out) (Kd.R_base ho0) hb); have n3_ := Aside0.mk (Kd.R_lower (Kd.R_new' (Kd.R_new' (Kd.R_new' ho0 (Kd.R_lt (uR HO_6.out))) (Kd.R_lt (uR HO_7.out))) (Kd.R_lt (uR HO470.out))) (below_size uB)); have n4_ := Aside0.mk (below_step uB hb); clear HO_6; clear HO_7; clear HO470; clear HB; have HO_6 := n0_; have HO_7 := n1_; have HO470 := n2_; have HO474 := n3_; have HB := n4_; clear n0_ n1_ n2_ n3_ n4_; (try clear hb); (try clear hb2); (try clear hk); (try clear hi); (try clear ho0)) | ((with_reducible refine gate_dst (N := 54) rfl ?_); refine Kd.R_make (Kd.int .i64) _ 3 rfl (N := 54) rfl 29 _ _ rfl (l0.length : Int) rfl rfl Tryz.underlying29 (.int .i64 0) 8 info3 rfl (by decide) (by omega) 0 (ok := fun _ => True) (okp := fun _ => True) rfl (fun _ hk => hk) trivial dT (Nat.le_trans (Nat.mul_le_mul_right _ (dT : (l0.length : Int).toNat ≤ 35184372088832)) (by omega)) (Below.refl _ _) (Nat.le_refl _) ?_; intro v476 w29 ho30 hb hg_ hnew_; clear hg_ hnew_; (first | rw [← Ny475.out] at ho30 | (simp only [Int.reduceToNat] at ho30; rw [← Ny475.out] at ho30)); have n0_ := Aside0.mk (Kd.R_elder' (uR HO_6.out) (Kd.R_base ho30) hb); have n1_ := Aside0.mk (Kd.R_elder' (uR HO_7.out) (Kd.R_base ho30) hb); have n2_ := Aside0.mk (Kd.R_elder' (uR HO470.out) (Kd.R_base ho30) hb); have n3_ := Aside0.mk (Kd.R_elder' (uR HO474.out) (Kd.R_base ho30) hb); have n4_ := Aside0.mk (Kd.R_lower (Kd.R_new' (Kd.R_new' (Kd.R_new' (Kd.R_new' ho30 (Kd.R_lt (uR HO_6.out))) (Kd.R_lt (uR HO_7.out))) (Kd.R_lt (uR HO470.out))) (Kd.R_lt (uR HO474.out))) (below_size uB)); have n5_ := Aside0.mk (below_step uB hb); clear HO_6; clear HO_7; clear HO470; clear HO474; clear HB; have HO_6 := n0_; have HO_7 := n1_; have HO470 := n2_; have HO474 := n3_; have HO477 := n4_; have HB := n5_; clear n0_ n1_ n2_ n3_ n4_ n5_; clear hb ho30; obtain ⟨Ao31, co31, eo31⟩ := Kd.R_slice HO474.out; subst eo31)))
    go_loopg [57] k1 (fun kq v57 w' => ∃ (x9_2 : List Int) (x57_2 : Int), v57 = .int .i64 x57_2 ∧ Aside0 (double_joined.l1 kq l0 t471 x7_1 x9_2 t471 (t471.length : Int) x57_2 = some (r1, r2)) ∧ Aside0 (kq ≤ k1) ∧ Aside0 (Kd.R (Kd.int .i64) 3 w' w.heap.size (fun k_ => some k_ ≠ ((.slice Ao25 x7_1.length co25) : Value).ownBlock ∧ some k_ ≠ (v476 : Value).ownBlock) (.slice Ao31 t471.length co31) t471) ∧ Aside0 (Kd.R (Kd.int .i64) 3 w' w.heap.size (fun k_ => some k_ ≠ ((.slice Ao31 t471.length co31) : Value).ownBlock ∧ some k_ ≠ (v476 : Value).ownBlock ∧ some k_ ≠ ((.slice Ao31 t471.length co31) : Value).ownBlock) (.slice Ao25 x7_1.length co25) x7_1) ∧ Aside0 (Kd.R (Kd.int .i64) 3 w' w.heap.size (fun k_ => some k_ ≠ ((.slice Ao31 t471.length co31) : Value).ownBlock ∧ some k_ ≠ ((.slice Ao25 x7_1.length co25) : Value).ownBlock ∧ some k_ ≠ ((.slice Ao31 t471.length co31) : Value).ownBlock) v476 x9_2) ∧ Aside0 (Kd.R (Kd.int .i64) 3 w' w.heap.size (fun k_ => some k_ ≠ ((.slice Ao25 x7_1.length co25) : Value).ownBlock ∧ some k_ ≠ (v476 : Value).ownBlock) (.slice Ao31 t471.length co31) t471) ∧ Aside0 (Below w.heap.size w w'))
    case atStart => exact ⟨(y475), (0), sD, H', ⟨Nat.le_refl _⟩, ⟨by (with_reducible repeat (first | apply Kd.R_alloc | apply Kd.R_drewN | apply Kd.R_drew)); exact Kd.R_mono HO474.out (fun _ hk => ⟨hk.1.1.2, hk.2⟩)⟩, ⟨by (with_reducible repeat (first | apply Kd.R_alloc | apply Kd.R_drewN | apply Kd.R_drew)); exact Kd.R_mono HO_7.out (fun _ hk => ⟨hk.1.2, ⟨hk.2, hk.1.2⟩⟩)⟩, ⟨by (with_reducible repeat (first | apply Kd.R_alloc | apply Kd.R_drewN | apply Kd.R_drew)); exact Kd.R_mono HO477.out (fun _ hk => ⟨hk.2, ⟨hk.1.1.2, hk.2⟩⟩)⟩, ⟨by (with_reducible repeat (first | apply Kd.R_alloc | apply Kd.R_drewN | apply Kd.R_drew)); exact Kd.R_mono HO474.out (fun _ hk => ⟨hk.1.1.2, hk.2⟩)⟩, ⟨uB⟩⟩
    case round =>
     clear H'
     try clear c1
     try clear p1
     try clear q1
     try clear hx1
     try clear c2
     try clear p2
     try clear c3
     try clear c3b0
     try clear c3b1
     try clear c4
     try clear c4b0
     try clear c4b1
     try clear p6
     try clear c9
     try clear c9b0
     try clear c11
     try clear c11b0
     try clear c12
     try clear c12b0
     try clear c13
     try clear p13
     try clear q13
     try clear hx13
     try clear hf13
     try clear c14
     try clear c14b0
     try clear p15
     try clear q15
     try clear hx15
     try clear hf15
     try clear c22
     try clear c22b0
     try clear c22b1
     try clear c23
     try clear c23b0
     try clear c23b1
     try clear hx13_0
     try clear hx15_0
     try clear p13
     try clear p15
     try clear p2
     try clear q13
     try clear q15
     obtain ⟨x9_2, x57_2, rfl, HA, HK2, HO_6, HO_7, HO_9, HO_55, HB⟩ := hrel
     cases gk with
     | zero => exact absurd HA.out (by simp [double_joined.l1])
     | succ k2 =>
      have H := HA.out
      clear HA
      simp only [double_joined.l1] at H
      rcases ifC H with ⟨c32b0, H⟩ | ⟨c32b0, H⟩
      ·obtain ⟨c33b0, c34b0, H⟩ := ifD2 H
       obtain ⟨c35b0, c36b0, H⟩ := ifD2 H
       obtain ⟨y479, hy479⟩ : ∃ y_ : List Int, y_ = (x9_2.set ((rd t471 x57_2) : Int).toNat x57_2) := ⟨_, rfl⟩
       replace H : (if x57_2 > 0 then (if 0 ≤ (wrap64 (x57_2 - 1)) then (if (wrap64 (x57_2 - 1)) < (t471.length : Int) then (if 0 ≤ (rd t471 (wrap64 (x57_2 - 1))) then (if (rd t471 (wrap64 (x57_2 - 1))) < (l0.length : Int) then (if (rd t471 x57_2) < (l0.length : Int) then (if (rd l0 (rd t471 (wrap64 (x57_2 - 1)))) = (rd l0 (rd t471 x57_2)) then (if (rd t471 (wrap64 (x57_2 - 1))) < (x7_1.length : Int) then (if (rd t471 x57_2) < (x7_1.length : Int) then (if (rd x7_1 (rd t471 (wrap64 (x57_2 - 1)))) = (rd x7_1 (rd t471 x57_2)) then (if (rd t471 (wrap64 (x57_2 - 1))) < (x9_2.length : Int) then (double_joined.l1 k2 l0 t471 x7_1 (y479.set ((rd t471 x57_2) : Int).toNat (rd y479 (rd t471 (wrap64 (x57_2 - 1))))) t471 (t471.length : Int) (wrap64 (x57_2 + 1))) else (none)) else (double_joined.l1 k2 l0 t471 x7_1 y479 t471 (t471.length : Int) (wrap64 (x57_2 + 1)))) else (none)) else (none)) else (double_joined.l1 k2 l0 t471 x7_1 y479 t471 (t471.length : Int) (wrap64 (x57_2 + 1)))) else (none)) else (none)) else (none)) else (none)) else (none)) else (double_joined.l1 k2 l0 t471 x7_1 y479 t471 (t471.length : Int) (wrap64 (x57_2 + 1)))) = some (r1, r2) := by first | (rw [hy479]; with_reducible exact H) | (have H2_ := (Option.bind_some _ _).symm.trans H; rw [hy479]; with_reducible exact H2_) | (have H2_ := (Option.bind_some _ _).symm.trans H; with_reducible exact H2_) | with_reducible exact H | (rw [hy479]; exact H) | exact H
       have Ny479 := Aside0.mk hy479
       clear hy479
       rcases ifK H with ⟨c38b0, H⟩ | ⟨c38b0, H⟩
       ·obtain ⟨ji39, hji39⟩ : ∃ j_ : Int, (wrap64 (x57_2 - 1)) = j_ := ⟨_, rfl⟩
        first | rw [hji39] at H | simp only [hji39] at H
        have hji39w : (IntKind.i64.wrap (x57_2 - 1)) = ji39 := (i64_w _).trans hji39
        obtain ⟨c40b0, H⟩ := ifD H
        obtain ⟨c41b0, c42b0, H⟩ := ifD2 H
        obtain ⟨c43b0, c44b0, H⟩ := ifD2 H
        by_cases c45 : (rd l0 (rd t471 (ji39))) = (rd l0 (rd t471 x57_2))
        ·rw [if_pos c45] at H
         have c45b0 : ((rd l0 (rd t471 (ji39))) == (rd l0 (rd t471 x57_2))) = true := beq_iff_eq.mpr c45
         have c45b1 : ((rd l0 (rd t471 (ji39))) != (rd l0 (rd t471 x57_2))) = false := bne_eq_false_iff_eq.mpr c45
         clear c45
         obtain ⟨c46b0, c47b0, H⟩ := ifD2 H
         by_cases c48 : (rd x7_1 (rd t471 (ji39))) = (rd x7_1 (rd t471 x57_2))
         ·rw [if_pos c48] at H
          have c48b0 : ((rd x7_1 (rd t471 (ji39))) == (rd x7_1 (rd t471 x57_2))) = true := beq_iff_eq.mpr c48
          have c48b1 : ((rd x7_1 (rd t471 (ji39))) != (rd x7_1 (rd t471 x57_2))) = false := bne_eq_false_iff_eq.mpr c48
          clear c48
          obtain ⟨c49b0, H⟩ := ifD H
          obtain ⟨y488, hy488⟩ : ∃ y_ : List Int, y_ = (y479.set ((rd t471 x57_2) : Int).toNat (rd y479 (rd t471 (ji39)))) := ⟨_, rfl⟩
          replace H : (double_joined.l1 k2 l0 t471 x7_1 y488 t471 (t471.length : Int) (wrap64 (x57_2 + 1))) = some (r1, r2) := by first | (rw [hy488]; with_reducible exact H) | (have H2_ := (Option.bind_some _ _).symm.trans H; rw [hy488]; with_reducible exact H2_) | (have H2_ := (Option.bind_some _ _).symm.trans H; with_reducible exact H2_) | with_reducible exact H | (rw [hy488]; exact H) | exact H
          have Ny488 := Aside0.mk hy488
          clear hy488
          have H' := Aside0.mk H
          clear H
          obtain ⟨ad478, e478, hx478_0, p478, q478⟩ := rI (Kd.R_reads' HO_55.out).2.2 x57_2
          cases e478
          have p37 : 0 ≤ ((rd t471 x57_2) : Int) := dT
          have q37 : ((rd t471 x57_2) : Int) < ((x9_2.length : Int) : Int) := dT
          obtain ⟨go37, co37, eo37, gb37, gl37, cl37, HG37⟩ := Kd.R_form HO_9.out (by omega)
          (first | cases eo37 | (injection eo37 with ea_ en_ ec_; (first | subst ea_ | (injection ea_ with ea_; subst ea_)); subst ec_; clear en_))
          have GB37 := Aside0.mk gb37
          have GG37 := Aside0.mk HG37
          clear gb37 gl37 HG37
          obtain ⟨hx37_0, hf37_0⟩ := Kd.R_celln 0 HO_9.out ((rd t471 x57_2) : Int) p37 q37
          replace p37 := eq_true p37
          replace q37 := eq_true q37
          have HP51 := Kd.R_putg HO_9.out ((rd t471 x57_2) : Int) x57_2
          go_wp2_with (first | ((with_reducible refine gate_store (t := 3) (p := 65) rfl ?_); (try (rw [drewN_self wr]; generalize hq_ : World.drewN wr _ = wr; have n0_ := Aside0.mk (Kd.R_at hq_ HO_6.out); have n1_ := Aside0.mk (Kd.R_at hq_ HO_7.out); have n2_ := Aside0.mk (Kd.R_at hq_ HO_9.out); have n3_ := Aside0.mk (Kd.R_at hq_ HO_55.out); have n4_ := Aside0.mk (below_at hq_ HB.out); clear hq_ HO_6 HO_7 HO_9 HO_55 HB; have HO_6 := n0_; have HO_7 := n1_; have HO_9 := n2_; have HO_55 := n3_; have HB := n4_; clear n0_ n1_ n2_ n3_ n4_; (try (have HP51 := Kd.R_putg HO_9.out ((rd t471 x57_2) : Int) x57_2)))); refine store_event (t := 3) (p := 65) (v := ?vo_w52) (w1 := (wr.setCell ⟨go37, ((rd t471 x57_2) : Int).toNat, none⟩ (.int .i64 x57_2))) ?hg ?ho ?hn ?hr ?_; (case ho => rfl); (case hg => rfl); (case hn => rfl); (case hr => first | (go_simp; done) | (go_simp; rfl)); intro w52 hw; have hg : wr.grownBy w52 (some go37) := (by rw [hw]; exact HP51.2); have hp_ : Kd.R (Kd.int .i64) 3 w52 w.heap.size (fun k_ => some k_ ≠ (.slice (some ad478) t471.length co31 : Value).ownBlock ∧ some k_ ≠ (.slice Ao25 x7_1.length co25 : Value).ownBlock ∧ some k_ ≠ (.slice (some ad478) t471.length co31 : Value).ownBlock) (.slice (some ⟨go37, 0, none⟩) x9_2.length co37) y479 := (by rw [hw, Ny479.out]; exact HP51.1); clear HP51; have n0_ := Aside0.mk (Kd.R_after (v := (.slice (some ⟨go37, 0, none⟩) x9_2.length co37)) (v1 := (.slice (some ⟨go37, 0, none⟩) x9_2.length co37)) (ok := (fun k_ => some k_ ≠ (.slice Ao25 x7_1.length co25 : Value).ownBlock)) (uR HO_6.out) hg (.inl rfl)); have n1_ := Aside0.mk (Kd.R_after (v := (.slice (some ⟨go37, 0, none⟩) x9_2.length co37)) (v1 := (.slice (some ⟨go37, 0, none⟩) x9_2.length co37)) (ok := (fun k_ => some k_ ≠ (.slice (some ad478) t471.length co31 : Value).ownBlock ∧ some k_ ≠ (.slice (some ad478) t471.length co31 : Value).ownBlock)) (by (with_reducible repeat (first | apply Kd.R_alloc | apply Kd.R_drewN | apply Kd.R_drew)); exact Kd.R_mono HO_7.out (fun _ hk => ⟨⟨hk.1, hk.2.2⟩, hk.2.1⟩)) hg (.inl rfl)); have n2_ := Aside0.mk (hp_); have n3_ := Aside0.mk (Kd.R_after (v := (.slice (some ⟨go37, 0, none⟩) x9_2.length co37)) (v1 := (.slice (some ⟨go37, 0, none⟩) x9_2.length co37)) (ok := (fun k_ => some k_ ≠ (.slice Ao25 x7_1.length co25 : Value).ownBlock)) (uR HO_55.out) hg (.inl rfl)); have n4_ := Aside0.mk ((by rw [hw]; exact below_set (HB.out) GB37.out : Below w.heap.size w w52)); clear HO_6; clear HO_7; clear HO_9; clear HO_55; clear HB; have HO_6 := n0_; have HO_7 := n1_; have HO_9 := n2_; have HO_55 := n3_; have HB := n4_; clear n0_ n1_ n2_ n3_ n4_; clear hg hw hp_; have p480 : 0 ≤ ((ji39) : Int) := dT; have q480 : (ji39) < (t471.length : Int) := dT; obtain ⟨ad480, e480, hx480_0⟩ := Kd.at_int (Kd.R_reads' HO_6.out).2.2 (ji39) p480 q480; obtain rfl : ad478 = ad480 := (by injection e480); replace p480 := eq_true p480; replace q480 := eq_true q480; have p481 : 0 ≤ ((rd t471 (ji39)) : Int) := dT; have q481 : (rd t471 (ji39)) < (l0.length : Int) := dT; obtain ⟨ad481, e481, hx481_0⟩ := Kd.at_int HR0.out (rd t471 (ji39)) p481 q481; cases e481; replace hx481_0 := (HB.out.cell (World.block_lt_of_cell? w _ hx481_0)).trans hx481_0; replace p481 := eq_true p481; replace q481 := eq_true q481; have p482 : 0 ≤ ((rd t471 x57_2) : Int) := dT; have q482 : (rd t471 x57_2) < (l0.length : Int) := dT; obtain ⟨ad482, e482, hx482_0⟩ := Kd.at_int HR0.out (rd t471 x57_2) p482 q482; obtain rfl : ad481 = ad482 := (by injection e482); replace hx482_0 := (HB.out.cell (World.block_lt_of_cell? w _ hx482_0)).trans hx482_0; replace p482 := eq_true p482; replace q482 := eq_true q482; have p483 : 0 ≤ ((ji39) : Int) := dT; have q483 : (ji39) < (t471.length : Int) := dT; obtain ⟨ad483, e483, hx483_0⟩ := Kd.at_int (Kd.R_reads' HO_6.out).2.2 (ji39) p483 q483; obtain rfl : ad478 = ad483 := (by injection e483); replace p483 := eq_true p483; replace q483 := eq_true q483; have p484 : 0 ≤ ((rd t471 (ji39)) : Int) := dT; have q484 : (rd t471 (ji39)) < (x7_1.length : Int) := dT; obtain ⟨ad484, e484, hx484_0⟩ := Kd.at_int (Kd.R_reads' HO_7.out).2.2 (rd t471 (ji39)) p484 q484; cases e484; replace p484 := eq_true p484; replace q484 := eq_true q484; have p485 : 0 ≤ ((rd t471 x57_2) : Int) := dT; have q485 : (rd t471 x57_2) < (x7_1.length : Int) := dT; obtain ⟨ad485, e485, hx485_0⟩ := Kd.at_int (Kd.R_reads' HO_7.out).2.2 (rd t471 x57_2) p485 q485; obtain rfl : ad484 = ad485 := (by injection e485); replace p485 := eq_true p485; replace q485 := eq_true q485; have p486 : 0 ≤ ((ji39) : Int) := dT; have q486 : (ji39) < (t471.length : Int) := dT; obtain ⟨ad486, e486, hx486_0⟩ := Kd.at_int (Kd.R_reads' HO_6.out).2.2 (ji39) p486 q486; obtain rfl : ad478 = ad486 := (by injection e486); replace p486 := eq_true p486; replace q486 := eq_true q486; have p487 : 0 ≤ ((rd t471 (ji39)) : Int) := dT; have q487 : (rd t471 (ji39)) < (y479.length : Int) := (by have h_ : ((rd t471 (ji39)) : Int) < ((x9_2.length : Int) : Int) := dT; first | (have e_ := (Kd.R_reads' HO_9.out).1; omega) | simpa only [Ny479.out, List.length_set] using h_); have ql487 : (((rd t471 (ji39)) : Int) < ((x9_2.length : Int) : Int)) = True := eq_true dT; obtain ⟨ad487, e487, hx487_0⟩ := Kd.at_int (Kd.R_reads' HO_9.out).2.2 (rd t471 (ji39)) p487 q487; obtain rfl : (⟨go37, 0, none⟩ : Addr) = ad487 := (by injection e487); (first | simp only [add_plain] at hx487_0 | simp only [add_at] at hx487_0 | simp only [Addr.add, Nat.zero_add] at hx487_0 | skip); replace p487 := eq_true p487; replace q487 := eq_true q487; have p50 : 0 ≤ ((rd t471 x57_2) : Int) := dT; have q50 : ((rd t471 x57_2) : Int) < ((x9_2.length : Int) : Int) := dT; obtain ⟨hx50_0, hf50_0⟩ := Kd.R_celln 0 HO_9.out ((rd t471 x57_2) : Int) p50 q50; replace p50 := eq_true p50; replace q50 := eq_true q50; obtain ⟨hy53_, hz53_⟩ := Kd.R_celln 0 HO_9.out ((rd t471 x57_2) : Int) dT dT; have HP53 := Kd.R_putg HO_9.out ((rd t471 x57_2) : Int) (rd y479 (rd t471 (ji39)))) | ((with_reducible refine gate_store (t := 3) (p := 108) rfl ?_); (try (rw [drewN_self w52]; generalize hq_ : World.drewN w52 _ = w52; have n0_ := Aside0.mk (Kd.R_at hq_ HO_6.out); have n1_ := Aside0.mk (Kd.R_at hq_ HO_7.out); have n2_ := Aside0.mk (Kd.R_at hq_ HO_9.out); have n3_ := Aside0.mk (Kd.R_at hq_ HO_55.out); have n4_ := Aside0.mk (below_at hq_ HB.out); clear hq_ HO_6 HO_7 HO_9 HO_55 HB; have HO_6 := n0_; have HO_7 := n1_; have HO_9 := n2_; have HO_55 := n3_; have HB := n4_; clear n0_ n1_ n2_ n3_ n4_; (try (obtain ⟨hy53_, hz53_⟩ := Kd.R_celln 0 HO_9.out ((rd t471 x57_2) : Int) dT dT)); (try (have HP53 := Kd.R_putg HO_9.out ((rd t471 x57_2) : Int) (rd y479 (rd t471 (ji39))))))); refine store_event (t := 3) (p := 108) (v := ?vo_w54) (w1 := (w52.setCell ⟨go37, ((rd t471 x57_2) : Int).toNat, none⟩ (.int .i64 (rd y479 (rd t471 (ji39)))))) ?hg ?ho ?hn ?hr ?_; (case ho => rfl); (case hg => rfl); (case hn => rfl); (case hr => first | (go_simp; done) | (go_simp; rfl)); intro w54 hw; have hg : w52.grownBy w54 (some go37) := (by rw [hw]; exact HP53.2); have hp_ : Kd.R (Kd.int .i64) 3 w54 w.heap.size (fun k_ => some k_ ≠ (.slice (some ad478) t471.length co31 : Value).ownBlock ∧ some k_ ≠ (.slice (some ad484) x7_1.length co25 : Value).ownBlock ∧ some k_ ≠ (.slice (some ad478) t471.length co31 : Value).ownBlock) (.slice (some ⟨go37, 0, none⟩) x9_2.length co37) y488 := (by rw [hw, Ny488.out]; exact HP53.1); clear HP53; have n0_ := Aside0.mk (Kd.R_after (v := (.slice (some ⟨go37, 0, none⟩) x9_2.length co37)) (v1 := (.slice (some ⟨go37, 0, none⟩) x9_2.length co37)) (ok := (fun k_ => some k_ ≠ (.slice (some ad484) x7_1.length co25 : Value).ownBlock)) (uR HO_6.out) hg (.inl rfl)); have n1_ := Aside0.mk (Kd.R_after (v := (.slice (some ⟨go37, 0, none⟩) x9_2.length co37)) (v1 := (.slice (some ⟨go37, 0, none⟩) x9_2.length co37)) (ok := (fun k_ => some k_ ≠ (.slice (some ad478) t471.length co31 : Value).ownBlock ∧ some k_ ≠ (.slice (some ad478) t471.length co31 : Value).ownBlock)) (uR HO_7.out) hg (.inl rfl)); have n2_ := Aside0.mk (hp_); have n3_ := Aside0.mk (Kd.R_after (v := (.slice (some ⟨go37, 0, none⟩) x9_2.length co37)) (v1 := (.slice (some ⟨go37, 0, none⟩) x9_2.length co37)) (ok := (fun k_ => some k_ ≠ (.slice (some ad484) x7_1.length co25 : Value).ownBlock)) (uR HO_55.out) hg (.inl rfl)); have n4_ := Aside0.mk ((by rw [hw]; exact below_set (HB.out) GB37.out : Below w.heap.size w w54)); clear HO_6; clear HO_7; clear HO_9; clear HO_55; clear HB; have HO_6 := n0_; have HO_7 := n1_; have HO_9 := n2_; have HO_55 := n3_; have HB := n4_; clear n0_ n1_ n2_ n3_ n4_; clear hg hw hp_))
          repeat (go_quiet (first | ((with_reducible refine gate_store (t := 3) (p := 65) rfl ?_); (try (rw [drewN_self wr]; generalize hq_ : World.drewN wr _ = wr; have n0_ := Aside0.mk (Kd.R_at hq_ HO_6.out); have n1_ := Aside0.mk (Kd.R_at hq_ HO_7.out); have n2_ := Aside0.mk (Kd.R_at hq_ HO_9.out); have n3_ := Aside0.mk (Kd.R_at hq_ HO_55.out); have n4_ := Aside0.mk (below_at hq_ HB.out); clear hq_ HO_6 HO_7 HO_9 HO_55 HB; have HO_6 := n0_; have HO_7 := n1_; have HO_9 := n2_; have HO_55 := n3_; have HB := n4_; clear n0_ n1_ n2_ n3_ n4_; (try (have HP51 := Kd.R_putg HO_9.out ((rd t471 x57_2) : Int) x57_2)))); refine store_event (t := 3) (p := 65) (v := ?vo_w52) (w1 := (wr.setCell ⟨go37, ((rd t471 x57_2) : Int).toNat, none⟩ (.int .i64 x57_2))) ?hg ?ho ?hn ?hr ?_; (case ho => rfl); (case hg => rfl); (case hn => rfl); (case hr => first | (go_simp; done) | (go_simp; rfl)); intro w52 hw; have hg : wr.grownBy w52 (some go37) := (by rw [hw]; exact HP51.2); have hp_ : Kd.R (Kd.int .i64) 3 w52 w.heap.size (fun k_ => some k_ ≠ (.slice (some ad478) t471.length co31 : Value).ownBlock ∧ some k_ ≠ (.slice Ao25 x7_1.length co25 : Value).ownBlock ∧ some k_ ≠ (.slice (some ad478) t471.length co31 : Value).ownBlock) (.slice (some ⟨go37, 0, none⟩) x9_2.length co37) y479 := (by rw [hw, Ny479.out]; exact HP51.1); clear HP51; have n0_ := Aside0.mk (Kd.R_after (v := (.slice (some ⟨go37, 0, none⟩) x9_2.length co37)) (v1 := (.slice (some ⟨go37, 0, none⟩) x9_2.length co37)) (ok := (fun k_ => some k_ ≠ (.slice Ao25 x7_1.length co25 : Value).ownBlock)) (uR HO_6.out) hg (.inl rfl)); have n1_ := Aside0.mk (Kd.R_after (v := (.slice (some ⟨go37, 0, none⟩) x9_2.length co37)) (v1 := (.slice (some ⟨go37, 0, none⟩) x9_2.length co37)) (ok := (fun k_ => some k_ ≠ (.slice (some ad478) t471.length co31 : Value).ownBlock ∧ some k_ ≠ (.slice (some ad478) t471.length co31 : Value).ownBlock)) (by (with_reducible repeat (first | apply Kd.R_alloc | apply Kd.R_drewN | apply Kd.R_drew)); exact Kd.R_mono HO_7.out (fun _ hk => ⟨⟨hk.1, hk.2.2⟩, hk.2.1⟩)) hg (.inl rfl)); have n2_ := Aside0.mk (hp_); have n3_ := Aside0.mk (Kd.R_after (v := (.slice (some ⟨go37, 0, none⟩) x9_2.length co37)) (v1 := (.slice (some ⟨go37, 0, none⟩) x9_2.length co37)) (ok := (fun k_ => some k_ ≠ (.slice Ao25 x7_1.length co25 : Value).ownBlock)) (uR HO_55.out) hg (.inl rfl)); have n4_ := Aside0.mk ((by rw [hw]; exact below_set (HB.out) GB37.out : Below w.heap.size w w52)); clear HO_6; clear HO_7; clear HO_9; clear HO_55; clear HB; have HO_6 := n0_; have HO_7 := n1_; have HO_9 := n2_; have HO_55 := n3_; have HB := n4_; clear n0_ n1_ n2_ n3_ n4_; clear hg hw hp_; have p480 : 0 ≤ ((ji39) : Int) := dT; have q480 : (ji39) < (t471.length : Int) := dT; obtain ⟨ad480, e480, hx480_0⟩ := Kd.at_int (Kd.R_reads' HO_6.out).2.2 (ji39) p480 q480; obtain rfl : ad478 = ad480 := (by injection e480); replace p480 := eq_true p480; replace q480 := eq_true q480; have p481 : 0 ≤ ((rd t471 (ji39)) : Int) := dT; have q481 : (rd t471 (ji39)) < (l0.length : Int) := dT; obtain ⟨ad481, e481, hx481_0⟩ := Kd.at_int HR0.out (rd t471 (ji39)) p481 q481; cases e481; replace hx481_0 := (HB.out.cell (World.block_lt_of_cell? w _ hx481_0)).trans hx481_0; replace p481 := eq_true p481; replace q481 := eq_true q481; have p482 : 0 ≤ ((rd t471 x57_2) : Int) := dT; have q482 : (rd t471 x57_2) < (l0.length : Int) := dT; obtain ⟨ad482, e482, hx482_0⟩ := Kd.at_int HR0.out (rd t471 x57_2) p482 q482; obtain rfl : ad481 = ad482 := (by injection e482); replace hx482_0 := (HB.out.cell (World.block_lt_of_cell? w _ hx482_0)).trans hx482_0; replace p482 := eq_true p482; replace q482 := eq_true q482; have p483 : 0 ≤ ((ji39) : Int) := dT; have q483 : (ji39) < (t471.length : Int) := dT; obtain ⟨ad483, e483, hx483_0⟩ := Kd.at_int (Kd.R_reads' HO_6.out).2.2 (ji39) p483 q483; obtain rfl : ad478 = ad483 := (by injection e483); replace p483 := eq_true p483; replace q483 := eq_true q483; have p484 : 0 ≤ ((rd t471 (ji39)) : Int) := dT; have q484 : (rd t471 (ji39)) < (x7_1.length : Int) := dT; obtain ⟨ad484, e484, hx484_0⟩ := Kd.at_int (Kd.R_reads' HO_7.out).2.2 (rd t471 (ji39)) p484 q484; cases e484; replace p484 := eq_true p484; replace q484 := eq_true q484; have p485 : 0 ≤ ((rd t471 x57_2) : Int) := dT; have q485 : (rd t471 x57_2) < (x7_1.length : Int) := dT; obtain ⟨ad485, e485, hx485_0⟩ := Kd.at_int (Kd.R_reads' HO_7.out).2.2 (rd t471 x57_2) p485 q485; obtain rfl : ad484 = ad485 := (by injection e485); replace p485 := eq_true p485; replace q485 := eq_true q485; have p486 : 0 ≤ ((ji39) : Int) := dT; have q486 : (ji39) < (t471.length : Int) := dT; obtain ⟨ad486, e486, hx486_0⟩ := Kd.at_int (Kd.R_reads' HO_6.out).2.2 (ji39) p486 q486; obtain rfl : ad478 = ad486 := (by injection e486); replace p486 := eq_true p486; replace q486 := eq_true q486; have p487 : 0 ≤ ((rd t471 (ji39)) : Int) := dT; have q487 : (rd t471 (ji39)) < (y479.length : Int) := (by have h_ : ((rd t471 (ji39)) : Int) < ((x9_2.length : Int) : Int) := dT; first | (have e_ := (Kd.R_reads' HO_9.out).1; omega) | simpa only [Ny479.out, List.length_set] using h_); have ql487 : (((rd t471 (ji39)) : Int) < ((x9_2.length : Int) : Int)) = True := eq_true dT; obtain ⟨ad487, e487, hx487_0⟩ := Kd.at_int (Kd.R_reads' HO_9.out).2.2 (rd t471 (ji39)) p487 q487; obtain rfl : (⟨go37, 0, none⟩ : Addr) = ad487 := (by injection e487); (first | simp only [add_plain] at hx487_0 | simp only [add_at] at hx487_0 | simp only [Addr.add, Nat.zero_add] at hx487_0 | skip); replace p487 := eq_true p487; replace q487 := eq_true q487; have p50 : 0 ≤ ((rd t471 x57_2) : Int) := dT; have q50 : ((rd t471 x57_2) : Int) < ((x9_2.length : Int) : Int) := dT; obtain ⟨hx50_0, hf50_0⟩ := Kd.R_celln 0 HO_9.out ((rd t471 x57_2) : Int) p50 q50; replace p50 := eq_true p50; replace q50 := eq_true q50; obtain ⟨hy53_, hz53_⟩ := Kd.R_celln 0 HO_9.out ((rd t471 x57_2) : Int) dT dT; have HP53 := Kd.R_putg HO_9.out ((rd t471 x57_2) : Int) (rd y479 (rd t471 (ji39)))) | ((with_reducible refine gate_store (t := 3) (p := 108) rfl ?_); (try (rw [drewN_self w52]; generalize hq_ : World.drewN w52 _ = w52; have n0_ := Aside0.mk (Kd.R_at hq_ HO_6.out); have n1_ := Aside0.mk (Kd.R_at hq_ HO_7.out); have n2_ := Aside0.mk (Kd.R_at hq_ HO_9.out); have n3_ := Aside0.mk (Kd.R_at hq_ HO_55.out); have n4_ := Aside0.mk (below_at hq_ HB.out); clear hq_ HO_6 HO_7 HO_9 HO_55 HB; have HO_6 := n0_; have HO_7 := n1_; have HO_9 := n2_; have HO_55 := n3_; have HB := n4_; clear n0_ n1_ n2_ n3_ n4_; (try (obtain ⟨hy53_, hz53_⟩ := Kd.R_celln 0 HO_9.out ((rd t471 x57_2) : Int) dT dT)); (try (have HP53 := Kd.R_putg HO_9.out ((rd t471 x57_2) : Int) (rd y479 (rd t471 (ji39))))))); refine store_event (t := 3) (p := 108) (v := ?vo_w54) (w1 := (w52.setCell ⟨go37, ((rd t471 x57_2) : Int).toNat, none⟩ (.int .i64 (rd y479 (rd t471 (ji39)))))) ?hg ?ho ?hn ?hr ?_; (case ho => rfl); (case hg => rfl); (case hn => rfl); (case hr => first | (go_simp; done) | (go_simp; rfl)); intro w54 hw; have hg : w52.grownBy w54 (some go37) := (by rw [hw]; exact HP53.2); have hp_ : Kd.R (Kd.int .i64) 3 w54 w.heap.size (fun k_ => some k_ ≠ (.slice (some ad478) t471.length co31 : Value).ownBlock ∧ some k_ ≠ (.slice (some ad484) x7_1.length co25 : Value).ownBlock ∧ some k_ ≠ (.slice (some ad478) t471.length co31 : Value).ownBlock) (.slice (some ⟨go37, 0, none⟩) x9_2.length co37) y488 := (by rw [hw, Ny488.out]; exact HP53.1); clear HP53; have n0_ := Aside0.mk (Kd.R_after (v := (.slice (some ⟨go37, 0, none⟩) x9_2.length co37)) (v1 := (.slice (some ⟨go37, 0, none⟩) x9_2.length co37)) (ok := (fun k_ => some k_ ≠ (.slice (some ad484) x7_1.length co25 : Value).ownBlock)) (uR HO_6.out) hg (.inl rfl)); have n1_ := Aside0.mk (Kd.R_after (v := (.slice (some ⟨go37, 0, none⟩) x9_2.length co37)) (v1 := (.slice (some ⟨go37, 0, none⟩) x9_2.length co37)) (ok := (fun k_ => some k_ ≠ (.slice (some ad478) t471.length co31 : Value).ownBlock ∧ some k_ ≠ (.slice (some ad478) t471.length co31 : Value).ownBlock)) (uR HO_7.out) hg (.inl rfl)); have n2_ := Aside0.mk (hp_); have n3_ := Aside0.mk (Kd.R_after (v := (.slice (some ⟨go37, 0, none⟩) x9_2.length co37)) (v1 := (.slice (some ⟨go37, 0, none⟩) x9_2.length co37)) (ok := (fun k_ => some k_ ≠ (.slice (some ad484) x7_1.length co25 : Value).ownBlock)) (uR HO_55.out) hg (.inl rfl)); have n4_ := Aside0.mk ((by rw [hw]; exact below_set (HB.out) GB37.out : Below w.heap.size w w54)); clear HO_6; clear HO_7; clear HO_9; clear HO_55; clear HB; have HO_6 := n0_; have HO_7 := n1_; have HO_9 := n2_; have HO_55 := n3_; have HB := n4_; clear n0_ n1_ n2_ n3_ n4_; clear hg hw hp_)); try go_wp2_with (first | ((with_reducible refine gate_store (t := 3) (p := 65) rfl ?_); (try (rw [drewN_self wr]; generalize hq_ : World.drewN wr _ = wr; have n0_ := Aside0.mk (Kd.R_at hq_ HO_6.out); have n1_ := Aside0.mk (Kd.R_at hq_ HO_7.out); have n2_ := Aside0.mk (Kd.R_at hq_ HO_9.out); have n3_ := Aside0.mk (Kd.R_at hq_ HO_55.out); have n4_ := Aside0.mk (below_at hq_ HB.out); clear hq_ HO_6 HO_7 HO_9 HO_55 HB; have HO_6 := n0_; have HO_7 := n1_; have HO_9 := n2_; have HO_55 := n3_; have HB := n4_; clear n0_ n1_ n2_ n3_ n4_; (try (have HP51 := Kd.R_putg HO_9.out ((rd t471 x57_2) : Int) x57_2)))); refine store_event (t := 3) (p := 65) (v := ?vo_w52) (w1 := (wr.setCell ⟨go37, ((rd t471 x57_2) : Int).toNat, none⟩ (.int .i64 x57_2))) ?hg ?ho ?hn ?hr ?_; (case ho => rfl); (case hg => rfl); (case hn => rfl); (case hr => first | (go_simp; done) | (go_simp; rfl)); intro w52 hw; have hg : wr.grownBy w52 (some go37) := (by rw [hw]; exact HP51.2); have hp_ : Kd.R (Kd.int .i64) 3 w52 w.heap.size (fun k_ => some k_ ≠ (.slice (some ad478) t471.length co31 : Value).ownBlock ∧ some k_ ≠ (.slice Ao25 x7_1.length co25 : Value).ownBlock ∧ some k_ ≠ (.slice (some ad478) t471.length co31 : Value).ownBlock) (.slice (some ⟨go37, 0, none⟩) x9_2.length co37) y479 := (by rw [hw, Ny479.out]; exact HP51.1); clear HP51; have n0_ := Aside0.mk (Kd.R_after (v := (.slice (some ⟨go37, 0, none⟩) x9_2.length co37)) (v1 := (.slice (some ⟨go37, 0, none⟩) x9_2.length co37)) (ok := (fun k_ => some k_ ≠ (.slice Ao25 x7_1.length co25 : Value).ownBlock)) (uR HO_6.out) hg (.inl rfl)); have n1_ := Aside0.mk (Kd.R_after (v := (.slice (some ⟨go37, 0, none⟩) x9_2.length co37)) (v1 := (.slice (some ⟨go37, 0, none⟩) x9_2.length co37)) (ok := (fun k_ => some k_ ≠ (.slice (some ad478) t471.length co31 : Value).ownBlock ∧ some k_ ≠ (.slice (some ad478) t471.length co31 : Value).ownBlock)) (by (with_reducible repeat (first | apply Kd.R_alloc | apply Kd.R_drewN | apply Kd.R_drew)); exact Kd.R_mono HO_7.out (fun _ hk => ⟨⟨hk.1, hk.2.2⟩, hk.2.1⟩)) hg (.inl rfl)); have n2_ := Aside0.mk (hp_); have n3_ := Aside0.mk (Kd.R_after (v := (.slice (some ⟨go37, 0, none⟩) x9_2.length co37)) (v1 := (.slice (some ⟨go37, 0, none⟩) x9_2.length co37)) (ok := (fun k_ => some k_ ≠ (.slice Ao25 x7_1.length co25 : Value).ownBlock)) (uR HO_55.out) hg (.inl rfl)); have n4_ := Aside0.mk ((by rw [hw]; exact below_set (HB.out) GB37.out : Below w.heap.size w w52)); clear HO_6; clear HO_7; clear HO_9; clear HO_55; clear HB; have HO_6 := n0_; have HO_7 := n1_; have HO_9 := n2_; have HO_55 := n3_; have HB := n4_; clear n0_ n1_ n2_ n3_ n4_; clear hg hw hp_; have p480 : 0 ≤ ((ji39) : Int) := dT; have q480 : (ji39) < (t471.length : Int) := dT; obtain ⟨ad480, e480, hx480_0⟩ := Kd.at_int (Kd.R_reads' HO_6.out).2.2 (ji39) p480 q480; obtain rfl : ad478 = ad480 := (by injection e480); replace p480 := eq_true p480; replace q480 := eq_true q480; have p481 : 0 ≤ ((rd t471 (ji39)) : Int) := dT; have q481 : (rd t471 (ji39)) < (l0.length : Int) := dT; obtain ⟨ad481, e481, hx481_0⟩ := Kd.at_int HR0.out (rd t471 (ji39)) p481 q481; cases e481; replace hx481_0 := (HB.out.cell (World.block_lt_of_cell? w _ hx481_0)).trans hx481_0; replace p481 := eq_true p481; replace q481 := eq_true q481; have p482 : 0 ≤ ((rd t471 x57_2) : Int) := dT; have q482 : (rd t471 x57_2) < (l0.length : Int) := dT; obtain ⟨ad482, e482, hx482_0⟩ := Kd.at_int HR0.out (rd t471 x57_2) p482 q482; obtain rfl : ad481 = ad482 := (by injection e482); replace hx482_0 := (HB.out.cell (World.block_lt_of_cell? w _ hx482_0)).trans hx482_0; replace p482 := eq_true p482; replace q482 := eq_true q482; have p483 : 0 ≤ ((ji39) : Int) := dT; have q483 : (ji39) < (t471.length : Int) := dT; obtain ⟨ad483, e483, hx483_0⟩ := Kd.at_int (Kd.R_reads' HO_6.out).2.2 (ji39) p483 q483; obtain rfl : ad478 = ad483 := (by injection e483); replace p483 := eq_true p483; replace q483 := eq_true q483; have p484 : 0 ≤ ((rd t471 (ji39)) : Int) := dT; have q484 : (rd t471 (ji39)) < (x7_1.length : Int) := dT; obtain ⟨ad484, e484, hx484_0⟩ := Kd.at_int (Kd.R_reads' HO_7.out).2.2 (rd t471 (ji39)) p484 q484; cases e484; replace p484 := eq_true p484; replace q484 := eq_true q484; have p485 : 0 ≤ ((rd t471 x57_2) : Int) := dT; have q485 : (rd t471 x57_2) < (x7_1.length : Int) := dT; obtain ⟨ad485, e485, hx485_0⟩ := Kd.at_int (Kd.R_reads' HO_7.out).2.2 (rd t471 x57_2) p485 q485; obtain rfl : ad484 = ad485 := (by injection e485); replace p485 := eq_true p485; replace q485 := eq_true q485; have p486 : 0 ≤ ((ji39) : Int) := dT; have q486 : (ji39) < (t471.length : Int) := dT; obtain ⟨ad486, e486, hx486_0⟩ := Kd.at_int (Kd.R_reads' HO_6.out).2.2 (ji39) p486 q486; obtain rfl : ad478 = ad486 := (by injection e486); replace p486 := eq_true p486; replace q486 := eq_true q486; have p487 : 0 ≤ ((rd t471 (ji39)) : Int) := dT; have q487 : (rd t471 (ji39)) < (y479.length : Int) := (by have h_ : ((rd t471 (ji39)) : Int) < ((x9_2.length : Int) : Int) := dT; first | (have e_ := (Kd.R_reads' HO_9.out).1; omega) | simpa only [Ny479.out, List.length_set] using h_); have ql487 : (((rd t471 (ji39)) : Int) < ((x9_2.length : Int) : Int)) = True := eq_true dT; obtain ⟨ad487, e487, hx487_0⟩ := Kd.at_int (Kd.R_reads' HO_9.out).2.2 (rd t471 (ji39)) p487 q487; obtain rfl : (⟨go37, 0, none⟩ : Addr) = ad487 := (by injection e487); (first | simp only [add_plain] at hx487_0 | simp only [add_at] at hx487_0 | simp only [Addr.add, Nat.zero_add] at hx487_0 | skip); replace p487 := eq_true p487; replace q487 := eq_true q487; have p50 : 0 ≤ ((rd t471 x57_2) : Int) := dT; have q50 : ((rd t471 x57_2) : Int) < ((x9_2.length : Int) : Int) := dT; obtain ⟨hx50_0, hf50_0⟩ := Kd.R_celln 0 HO_9.out ((rd t471 x57_2) : Int) p50 q50; replace p50 := eq_true p50; replace q50 := eq_true q50; obtain ⟨hy53_, hz53_⟩ := Kd.R_celln 0 HO_9.out ((rd t471 x57_2) : Int) dT dT; have HP53 := Kd.R_putg HO_9.out ((rd t471 x57_2) : Int) (rd y479 (rd t471 (ji39)))) | ((with_reducible refine gate_store (t := 3) (p := 108) rfl ?_); (try (rw [drewN_self w52]; generalize hq_ : World.drewN w52 _ = w52; have n0_ := Aside0.mk (Kd.R_at hq_ HO_6.out); have n1_ := Aside0.mk (Kd.R_at hq_ HO_7.out); have n2_ := Aside0.mk (Kd.R_at hq_ HO_9.out); have n3_ := Aside0.mk (Kd.R_at hq_ HO_55.out); have n4_ := Aside0.mk (below_at hq_ HB.out); clear hq_ HO_6 HO_7 HO_9 HO_55 HB; have HO_6 := n0_; have HO_7 := n1_; have HO_9 := n2_; have HO_55 := n3_; have HB := n4_; clear n0_ n1_ n2_ n3_ n4_; (try (obtain ⟨hy53_, hz53_⟩ := Kd.R_celln 0 HO_9.out ((rd t471 x57_2) : Int) dT dT)); (try (have HP53 := Kd.R_putg HO_9.out ((rd t471 x57_2) : Int) (rd y479 (rd t471 (ji39))))))); refine store_event (t := 3) (p := 108) (v := ?vo_w54) (w1 := (w52.setCell ⟨go37, ((rd t471 x57_2) : Int).toNat, none⟩ (.int .i64 (rd y479 (rd t471 (ji39)))))) ?hg ?ho ?hn ?hr ?_; (case ho => rfl); (case hg => rfl); (case hn => rfl); (case hr => first | (go_simp; done) | (go_simp; rfl)); intro w54 hw; have hg : w52.grownBy w54 (some go37) := (by rw [hw]; exact HP53.2); have hp_ : Kd.R (Kd.int .i64) 3 w54 w.heap.size (fun k_ => some k_ ≠ (.slice (some ad478) t471.length co31 : Value).ownBlock ∧ some k_ ≠ (.slice (some ad484) x7_1.length co25 : Value).ownBlock ∧ some k_ ≠ (.slice (some ad478) t471.length co31 : Value).ownBlock) (.slice (some ⟨go37, 0, none⟩) x9_2.length co37) y488 := (by rw [hw, Ny488.out]; exact HP53.1); clear HP53; have n0_ := Aside0.mk (Kd.R_after (v := (.slice (some ⟨go37, 0, none⟩) x9_2.length co37)) (v1 := (.slice (some ⟨go37, 0, none⟩) x9_2.length co37)) (ok := (fun k_ => some k_ ≠ (.slice (some ad484) x7_1.length co25 : Value).ownBlock)) (uR HO_6.out) hg (.inl rfl)); have n1_ := Aside0.mk (Kd.R_after (v := (.slice (some ⟨go37, 0, none⟩) x9_2.length co37)) (v1 := (.slice (some ⟨go37, 0, none⟩) x9_2.length co37)) (ok := (fun k_ => some k_ ≠ (.slice (some ad478) t471.length co31 : Value).ownBlock ∧ some k_ ≠ (.slice (some ad478) t471.length co31 : Value).ownBlock)) (uR HO_7.out) hg (.inl rfl)); have n2_ := Aside0.mk (hp_); have n3_ := Aside0.mk (Kd.R_after (v := (.slice (some ⟨go37, 0, none⟩) x9_2.length co37)) (v1 := (.slice (some ⟨go37, 0, none⟩) x9_2.length co37)) (ok := (fun k_ => some k_ ≠ (.slice (some ad484) x7_1.length co25 : Value).ownBlock)) (uR HO_55.out) hg (.inl rfl)); have n4_ := Aside0.mk ((by rw [hw]; exact below_set (HB.out) GB37.out : Below w.heap.size w w54)); clear HO_6; clear HO_7; clear HO_9; clear HO_55; clear HB; have HO_6 := n0_; have HO_7 := n1_; have HO_9 := n2_; have HO_55 := n3_; have HB := n4_; clear n0_ n1_ n2_ n3_ n4_; clear hg hw hp_)))
          go_roundg k2
          case measure => have := HK1.out; have := HK2.out; omega
          case rel => exact ⟨(y488), (wrap64 (x57_2 + 1)), sD, H', ⟨by have := HK1.out; have := HK2.out; omega⟩, ⟨uR HO_6.out⟩, ⟨by (with_reducible repeat (first | apply Kd.R_alloc | apply Kd.R_drewN | apply Kd.R_drew)); exact Kd.R_mono HO_7.out (fun _ hk => ⟨hk.1.1, ⟨hk.2, hk.1.2⟩⟩)⟩, ⟨uR HO_9.out⟩, ⟨uR HO_55.out⟩, ⟨uB⟩⟩
         ·rw [if_neg c48] at H
          have c48b0 : ((rd x7_1 (rd t471 (ji39))) == (rd x7_1 (rd t471 x57_2))) = false := beq_eq_false_iff_ne.mpr c48
          have c48b1 : ((rd x7_1 (rd t471 (ji39))) != (rd x7_1 (rd t471 x57_2))) = true := bne_iff_ne.mpr c48
          have H' := Aside0.mk H
          clear H
          obtain ⟨ad478, e478, hx478_0, p478, q478⟩ := rI (Kd.R_reads' HO_55.out).2.2 x57_2
          cases e478
          have p37 : 0 ≤ ((rd t471 x57_2) : Int) := dT
          have q37 : ((rd t471 x57_2) : Int) < ((x9_2.length : Int) : Int) := dT
          obtain ⟨go37, co37, eo37, gb37, gl37, cl37, HG37⟩ := Kd.R_form HO_9.out (by omega)
          (first | cases eo37 | (injection eo37 with ea_ en_ ec_; (first | subst ea_ | (injection ea_ with ea_; subst ea_)); subst ec_; clear en_))
          have GB37 := Aside0.mk gb37
          have GG37 := Aside0.mk HG37
          clear gb37 gl37 HG37
          obtain ⟨hx37_0, hf37_0⟩ := Kd.R_celln 0 HO_9.out ((rd t471 x57_2) : Int) p37 q37
          replace p37 := eq_true p37
          replace q37 := eq_true q37
          have HP55 := Kd.R_putg HO_9.out ((rd t471 x57_2) : Int) x57_2
          go_wp2_with (first | ((with_reducible refine gate_store (t := 3) (p := 65) rfl ?_); (try (rw [drewN_self wr]; generalize hq_ : World.drewN wr _ = wr; have n0_ := Aside0.mk (Kd.R_at hq_ HO_6.out); have n1_ := Aside0.mk (Kd.R_at hq_ HO_7.out); have n2_ := Aside0.mk (Kd.R_at hq_ HO_9.out); have n3_ := Aside0.mk (Kd.R_at hq_ HO_55.out); have n4_ := Aside0.mk (below_at hq_ HB.out); clear hq_ HO_6 HO_7 HO_9 HO_55 HB; have HO_6 := n0_; have HO_7 := n1_; have HO_9 := n2_; have HO_55 := n3_; have HB := n4_; clear n0_ n1_ n2_ n3_ n4_; (try (have HP55 := Kd.R_putg HO_9.out ((rd t471 x57_2) : Int) x57_2)))); refine store_event (t := 3) (p := 65) (v := ?vo_w56) (w1 := (wr.setCell ⟨go37, ((rd t471 x57_2) : Int).toNat, none⟩ (.int .i64 x57_2))) ?hg ?ho ?hn ?hr ?_; (case ho => rfl); (case hg => rfl); (case hn => rfl); (case hr => first | (go_simp; done) | (go_simp; rfl)); intro w56 hw; have hg : wr.grownBy w56 (some go37) := (by rw [hw]; exact HP55.2); have hp_ : Kd.R (Kd.int .i64) 3 w56 w.heap.size (fun k_ => some k_ ≠ (.slice (some ad478) t471.length co31 : Value).ownBlock ∧ some k_ ≠ (.slice Ao25 x7_1.length co25 : Value).ownBlock ∧ some k_ ≠ (.slice (some ad478) t471.length co31 : Value).ownBlock) (.slice (some ⟨go37, 0, none⟩) x9_2.length co37) y479 := (by rw [hw, Ny479.out]; exact HP55.1); clear HP55; have n0_ := Aside0.mk (Kd.R_after (v := (.slice (some ⟨go37, 0, none⟩) x9_2.length co37)) (v1 := (.slice (some ⟨go37, 0, none⟩) x9_2.length co37)) (ok := (fun k_ => some k_ ≠ (.slice Ao25 x7_1.length co25 : Value).ownBlock)) (uR HO_6.out) hg (.inl rfl)); have n1_ := Aside0.mk (Kd.R_after (v := (.slice (some ⟨go37, 0, none⟩) x9_2.length co37)) (v1 := (.slice (some ⟨go37, 0, none⟩) x9_2.length co37)) (ok := (fun k_ => some k_ ≠ (.slice (some ad478) t471.length co31 : Value).ownBlock ∧ some k_ ≠ (.slice (some ad478) t471.length co31 : Value).ownBlock)) (by (with_reducible repeat (first | apply Kd.R_alloc | apply Kd.R_drewN | apply Kd.R_drew)); exact Kd.R_mono HO_7.out (fun _ hk => ⟨⟨hk.1, hk.2.2⟩, hk.2.1⟩)) hg (.inl rfl)); have n2_ := Aside0.mk (hp_); have n3_ := Aside0.mk (Kd.R_after (v := (.slice (some ⟨go37, 0, none⟩) x9_2.length co37)) (v1 := (.slice (some ⟨go37, 0, none⟩) x9_2.length co37)) (ok := (fun k_ => some k_ ≠ (.slice Ao25 x7_1.length co25 : Value).ownBlock)) (uR HO_55.out) hg (.inl rfl)); have n4_ := Aside0.mk ((by rw [hw]; exact below_set (HB.out) GB37.out : Below w.heap.size w w56)); clear HO_6; clear HO_7; clear HO_9; clear HO_55; clear HB; have HO_6 := n0_; have HO_7 := n1_; have HO_9 := n2_; have HO_55 := n3_; have HB := n4_; clear n0_ n1_ n2_ n3_ n4_; clear hg hw hp_; have p480 : 0 ≤ ((ji39) : Int) := dT; have q480 : (ji39) < (t471.length : Int) := dT; obtain ⟨ad480, e480, hx480_0⟩ := Kd.at_int (Kd.R_reads' HO_6.out).2.2 (ji39) p480 q480; obtain rfl : ad478 = ad480 := (by injection e480); replace p480 := eq_true p480; replace q480 := eq_true q480; have p481 : 0 ≤ ((rd t471 (ji39)) : Int) := dT; have q481 : (rd t471 (ji39)) < (l0.length : Int) := dT; obtain ⟨ad481, e481, hx481_0⟩ := Kd.at_int HR0.out (rd t471 (ji39)) p481 q481; cases e481; replace hx481_0 := (HB.out.cell (World.block_lt_of_cell? w _ hx481_0)).trans hx481_0; replace p481 := eq_true p481; replace q481 := eq_true q481; have p482 : 0 ≤ ((rd t471 x57_2) : Int) := dT; have q482 : (rd t471 x57_2) < (l0.length : Int) := dT; obtain ⟨ad482, e482, hx482_0⟩ := Kd.at_int HR0.out (rd t471 x57_2) p482 q482; obtain rfl : ad481 = ad482 := (by injection e482); replace hx482_0 := (HB.out.cell (World.block_lt_of_cell? w _ hx482_0)).trans hx482_0; replace p482 := eq_true p482; replace q482 := eq_true q482; have p483 : 0 ≤ ((ji39) : Int) := dT; have q483 : (ji39) < (t471.length : Int) := dT; obtain ⟨ad483, e483, hx483_0⟩ := Kd.at_int (Kd.R_reads' HO_6.out).2.2 (ji39) p483 q483; obtain rfl : ad478 = ad483 := (by injection e483); replace p483 := eq_true p483; replace q483 := eq_true q483; have p484 : 0 ≤ ((rd t471 (ji39)) : Int) := dT; have q484 : (rd t471 (ji39)) < (x7_1.length : Int) := dT; obtain ⟨ad484, e484, hx484_0⟩ := Kd.at_int (Kd.R_reads' HO_7.out).2.2 (rd t471 (ji39)) p484 q484; cases e484; replace p484 := eq_true p484; replace q484 := eq_true q484; have p485 : 0 ≤ ((rd t471 x57_2) : Int) := dT; have q485 : (rd t471 x57_2) < (x7_1.length : Int) := dT; obtain ⟨ad485, e485, hx485_0⟩ := Kd.at_int (Kd.R_reads' HO_7.out).2.2 (rd t471 x57_2) p485 q485; obtain rfl : ad484 = ad485 := (by injection e485); replace p485 := eq_true p485; replace q485 := eq_true q485))
          repeat (go_quiet (first | ((with_reducible refine gate_store (t := 3) (p := 65) rfl ?_); (try (rw [drewN_self wr]; generalize hq_ : World.drewN wr _ = wr; have n0_ := Aside0.mk (Kd.R_at hq_ HO_6.out); have n1_ := Aside0.mk (Kd.R_at hq_ HO_7.out); have n2_ := Aside0.mk (Kd.R_at hq_ HO_9.out); have n3_ := Aside0.mk (Kd.R_at hq_ HO_55.out); have n4_ := Aside0.mk (below_at hq_ HB.out); clear hq_ HO_6 HO_7 HO_9 HO_55 HB; have HO_6 := n0_; have HO_7 := n1_; have HO_9 := n2_; have HO_55 := n3_; have HB := n4_; clear n0_ n1_ n2_ n3_ n4_; (try (have HP55 := Kd.R_putg HO_9.out ((rd t471 x57_2) : Int) x57_2)))); refine store_event (t := 3) (p := 65) (v := ?vo_w56) (w1 := (wr.setCell ⟨go37, ((rd t471 x57_2) : Int).toNat, none⟩ (.int .i64 x57_2))) ?hg ?ho ?hn ?hr ?_; (case ho => rfl); (case hg => rfl); (case hn => rfl); (case hr => first | (go_simp; done) | (go_simp; rfl)); intro w56 hw; have hg : wr.grownBy w56 (some go37) := (by rw [hw]; exact HP55.2); have hp_ : Kd.R (Kd.int .i64) 3 w56 w.heap.size (fun k_ => some k_ ≠ (.slice (some ad478) t471.length co31 : Value).ownBlock ∧ some k_ ≠ (.slice Ao25 x7_1.length co25 : Value).ownBlock ∧ some k_ ≠ (.slice (some ad478) t471.length co31 : Value).ownBlock) (.slice (some ⟨go37, 0, none⟩) x9_2.length co37) y479 := (by rw [hw, Ny479.out]; exact HP55.1); clear HP55; have n0_ := Aside0.mk (Kd.R_after (v := (.slice (some ⟨go37, 0, none⟩) x9_2.length co37)) (v1 := (.slice (some ⟨go37, 0, none⟩) x9_2.length co37)) (ok := (fun k_ => some k_ ≠ (.slice Ao25 x7_1.length co25 : Value).ownBlock)) (uR HO_6.out) hg (.inl rfl)); have n1_ := Aside0.mk (Kd.R_after (v := (.slice (some ⟨go37, 0, none⟩) x9_2.length co37)) (v1 := (.slice (some ⟨go37, 0, none⟩) x9_2.length co37)) (ok := (fun k_ => some k_ ≠ (.slice (some ad478) t471.length co31 : Value).ownBlock ∧ some k_ ≠ (.slice (some ad478) t471.length co31 : Value).ownBlock)) (by (with_reducible repeat (first | apply Kd.R_alloc | apply Kd.R_drewN | apply Kd.R_drew)); exact Kd.R_mono HO_7.out (fun _ hk => ⟨⟨hk.1, hk.2.2⟩, hk.2.1⟩)) hg (.inl rfl)); have n2_ := Aside0.mk (hp_); have n3_ := Aside0.mk (Kd.R_after (v := (.slice (some ⟨go37, 0, none⟩) x9_2.length co37)) (v1 := (.slice (some ⟨go37, 0, none⟩) x9_2.length co37)) (ok := (fun k_ => some k_ ≠ (.slice Ao25 x7_1.length co25 : Value).ownBlock)) (uR HO_55.out) hg (.inl rfl)); have n4_ := Aside0.mk ((by rw [hw]; exact below_set (HB.out) GB37.out : Below w.heap.size w w56)); clear HO_6; clear HO_7; clear HO_9; clear HO_55; clear HB; have HO_6 := n0_; have HO_7 := n1_; have HO_9 := n2_; have HO_55 := n3_; have HB := n4_; clear n0_ n1_ n2_ n3_ n4_; clear hg hw hp_; have p480 : 0 ≤ ((ji39) : Int) := dT; have q480 : (ji39) < (t471.length : Int) := dT; obtain ⟨ad480, e480, hx480_0⟩ := Kd.at_int (Kd.R_reads' HO_6.out).2.2 (ji39) p480 q480; obtain rfl : ad478 = ad480 := (by injection e480); replace p480 := eq_true p480; replace q480 := eq_true q480; have p481 : 0 ≤ ((rd t471 (ji39)) : Int) := dT; have q481 : (rd t471 (ji39)) < (l0.length : Int) := dT; obtain ⟨ad481, e481, hx481_0⟩ := Kd.at_int HR0.out (rd t471 (ji39)) p481 q481; cases e481; replace hx481_0 := (HB.out.cell (World.block_lt_of_cell? w _ hx481_0)).trans hx481_0; replace p481 := eq_true p481; replace q481 := eq_true q481; have p482 : 0 ≤ ((rd t471 x57_2) : Int) := dT; have q482 : (rd t471 x57_2) < (l0.length : Int) := dT; obtain ⟨ad482, e482, hx482_0⟩ := Kd.at_int HR0.out (rd t471 x57_2) p482 q482; obtain rfl : ad481 = ad482 := (by injection e482); replace hx482_0 := (HB.out.cell (World.block_lt_of_cell? w _ hx482_0)).trans hx482_0; replace p482 := eq_true p482; replace q482 := eq_true q482; have p483 : 0 ≤ ((ji39) : Int) := dT; have q483 : (ji39) < (t471.length : Int) := dT; obtain ⟨ad483, e483, hx483_0⟩ := Kd.at_int (Kd.R_reads' HO_6.out).2.2 (ji39) p483 q483; obtain rfl : ad478 = ad483 := (by injection e483); replace p483 := eq_true p483; replace q483 := eq_true q483; have p484 : 0 ≤ ((rd t471 (ji39)) : Int) := dT; have q484 : (rd t471 (ji39)) < (x7_1.length : Int) := dT; obtain ⟨ad484, e484, hx484_0⟩ := Kd.at_int (Kd.R_reads' HO_7.out).2.2 (rd t471 (ji39)) p484 q484; cases e484; replace p484 := eq_true p484; replace q484 := eq_true q484; have p485 : 0 ≤ ((rd t471 x57_2) : Int) := dT; have q485 : (rd t471 x57_2) < (x7_1.length : Int) := dT; obtain ⟨ad485, e485, hx485_0⟩ := Kd.at_int (Kd.R_reads' HO_7.out).2.2 (rd t471 x57_2) p485 q485; obtain rfl : ad484 = ad485 := (by injection e485); replace p485 := eq_true p485; replace q485 := eq_true q485)); try go_wp2_with (first | ((with_reducible refine gate_store (t := 3) (p := 65) rfl ?_); (try (rw [drewN_self wr]; generalize hq_ : World.drewN wr _ = wr; have n0_ := Aside0.mk (Kd.R_at hq_ HO_6.out); have n1_ := Aside0.mk (Kd.R_at hq_ HO_7.out); have n2_ := Aside0.mk (Kd.R_at hq_ HO_9.out); have n3_ := Aside0.mk (Kd.R_at hq_ HO_55.out); have n4_ := Aside0.mk (below_at hq_ HB.out); clear hq_ HO_6 HO_7 HO_9 HO_55 HB; have HO_6 := n0_; have HO_7 := n1_; have HO_9 := n2_; have HO_55 := n3_; have HB := n4_; clear n0_ n1_ n2_ n3_ n4_; (try (have HP55 := Kd.R_putg HO_9.out ((rd t471 x57_2) : Int) x57_2)))); refine store_event (t := 3) (p := 65) (v := ?vo_w56) (w1 := (wr.setCell ⟨go37, ((rd t471 x57_2) : Int).toNat, none⟩ (.int .i64 x57_2))) ?hg ?ho ?hn ?hr ?_; (case ho => rfl); (case hg => rfl); (case hn => rfl); (case hr => first | (go_simp; done) | (go_simp; rfl)); intro w56 hw; have hg : wr.grownBy w56 (some go37) := (by rw [hw]; exact HP55.2); have hp_ : Kd.R (Kd.int .i64) 3 w56 w.heap.size (fun k_ => some k_ ≠ (.slice (some ad478) t471.length co31 : Value).ownBlock ∧ some k_ ≠ (.slice Ao25 x7_1.length co25 : Value).ownBlock ∧ some k_ ≠ (.slice (some ad478) t471.length co31 : Value).ownBlock) (.slice (some ⟨go37, 0, none⟩) x9_2.length co37) y479 := (by rw [hw, Ny479.out]; exact HP55.1); clear HP55; have n0_ := Aside0.mk (Kd.R_after (v := (.slice (some ⟨go37, 0, none⟩) x9_2.length co37)) (v1 := (.slice (some ⟨go37, 0, none⟩) x9_2.length co37)) (ok := (fun k_ => some k_ ≠ (.slice Ao25 x7_1.length co25 : Value).ownBlock)) (uR HO_6.out) hg (.inl rfl)); have n1_ := Aside0.mk (Kd.R_after (v := (.slice (some ⟨go37, 0, none⟩) x9_2.length co37)) (v1 := (.slice (some ⟨go37, 0, none⟩) x9_2.length co37)) (ok := (fun k_ => some k_ ≠ (.slice (some ad478) t471.length co31 : Value).ownBlock ∧ some k_ ≠ (.slice (some ad478) t471.length co31 : Value).ownBlock)) (by (with_reducible repeat (first | apply Kd.R_alloc | apply Kd.R_drewN | apply Kd.R_drew)); exact Kd.R_mono HO_7.out (fun _ hk => ⟨⟨hk.1, hk.2.2⟩, hk.2.1⟩)) hg (.inl rfl)); have n2_ := Aside0.mk (hp_); have n3_ := Aside0.mk (Kd.R_after (v := (.slice (some ⟨go37, 0, none⟩) x9_2.length co37)) (v1 := (.slice (some ⟨go37, 0, none⟩) x9_2.length co37)) (ok := (fun k_ => some k_ ≠ (.slice Ao25 x7_1.length co25 : Value).ownBlock)) (uR HO_55.out) hg (.inl rfl)); have n4_ := Aside0.mk ((by rw [hw]; exact below_set (HB.out) GB37.out : Below w.heap.size w w56)); clear HO_6; clear HO_7; clear HO_9; clear HO_55; clear HB; have HO_6 := n0_; have HO_7 := n1_; have HO_9 := n2_; have HO_55 := n3_; have HB := n4_; clear n0_ n1_ n2_ n3_ n4_; clear hg hw hp_; have p480 : 0 ≤ ((ji39) : Int) := dT; have q480 : (ji39) < (t471.length : Int) := dT; obtain ⟨ad480, e480, hx480_0⟩ := Kd.at_int (Kd.R_reads' HO_6.out).2.2 (ji39) p480 q480; obtain rfl : ad478 = ad480 := (by injection e480); replace p480 := eq_true p480; replace q480 := eq_true q480; have p481 : 0 ≤ ((rd t471 (ji39)) : Int) := dT; have q481 : (rd t471 (ji39)) < (l0.length : Int) := dT; obtain ⟨ad481, e481, hx481_0⟩ := Kd.at_int HR0.out (rd t471 (ji39)) p481 q481; cases e481; replace hx481_0 := (HB.out.cell (World.block_lt_of_cell? w _ hx481_0)).trans hx481_0; replace p481 := eq_true p481; replace q481 := eq_true q481; have p482 : 0 ≤ ((rd t471 x57_2) : Int) := dT; have q482 : (rd t471 x57_2) < (l0.length : Int) := dT; obtain ⟨ad482, e482, hx482_0⟩ := Kd.at_int HR0.out (rd t471 x57_2) p482 q482; obtain rfl : ad481 = ad482 := (by injection e482); replace hx482_0 := (HB.out.cell (World.block_lt_of_cell? w _ hx482_0)).trans hx482_0; replace p482 := eq_true p482; replace q482 := eq_true q482; have p483 : 0 ≤ ((ji39) : Int) := dT; have q483 : (ji39) < (t471.length : Int) := dT; obtain ⟨ad483, e483, hx483_0⟩ := Kd.at_int (Kd.R_reads' HO_6.out).2.2 (ji39) p483 q483; obtain rfl : ad478 = ad483 := (by injection e483); replace p483 := eq_true p483; replace q483 := eq_true q483; have p484 : 0 ≤ ((rd t471 (ji39)) : Int) := dT; have q484 : (rd t471 (ji39)) < (x7_1.length : Int) := dT; obtain ⟨ad484, e484, hx484_0⟩ := Kd.at_int (Kd.R_reads' HO_7.out).2.2 (rd t471 (ji39)) p484 q484; cases e484; replace p484 := eq_true p484; replace q484 := eq_true q484; have p485 : 0 ≤ ((rd t471 x57_2) : Int) := dT; have q485 : (rd t471 x57_2) < (x7_1.length : Int) := dT; obtain ⟨ad485, e485, hx485_0⟩ := Kd.at_int (Kd.R_reads' HO_7.out).2.2 (rd t471 x57_2) p485 q485; obtain rfl : ad484 = ad485 := (by injection e485); replace p485 := eq_true p485; replace q485 := eq_true q485)))
          go_roundg k2
          case measure => have := HK1.out; have := HK2.out; omega
          case rel => exact ⟨(y479), (wrap64 (x57_2 + 1)), sD, H', ⟨by have := HK1.out; have := HK2.out; omega⟩, ⟨uR HO_6.out⟩, ⟨by (with_reducible repeat (first | apply Kd.R_alloc | apply Kd.R_drewN | apply Kd.R_drew)); exact Kd.R_mono HO_7.out (fun _ hk => ⟨hk.1.1, ⟨hk.2, hk.1.2⟩⟩)⟩, ⟨uR HO_9.out⟩, ⟨uR HO_55.out⟩, ⟨uB⟩⟩
        ·rw [if_neg c45] at H
         have c45b0 : ((rd l0 (rd t471 (ji39))) == (rd l0 (rd t471 x57_2))) = false := beq_eq_false_iff_ne.mpr c45
         have c45b1 : ((rd l0 (rd t471 (ji39))) != (rd l0 (rd t471 x57_2))) = true := bne_iff_ne.mpr c45
         have H' := Aside0.mk H
         clear H
         obtain ⟨ad478, e478, hx478_0, p478, q478⟩ := rI (Kd.R_reads' HO_55.out).2.2 x57_2
         cases e478
         have p37 : 0 ≤ ((rd t471 x57_2) : Int) := dT
         have q37 : ((rd t471 x57_2) : Int) < ((x9_2.length : Int) : Int) := dT
         obtain ⟨go37, co37, eo37, gb37, gl37, cl37, HG37⟩ := Kd.R_form HO_9.out (by omega)
         (first | cases eo37 | (injection eo37 with ea_ en_ ec_; (first | subst ea_ | (injection ea_ with ea_; subst ea_)); subst ec_; clear en_))
         have GB37 := Aside0.mk gb37
         have GG37 := Aside0.mk HG37
         clear gb37 gl37 HG37
         obtain ⟨hx37_0, hf37_0⟩ := Kd.R_celln 0 HO_9.out ((rd t471 x57_2) : Int) p37 q37
         replace p37 := eq_true p37
         replace q37 := eq_true q37
         have HP57 := Kd.R_putg HO_9.out ((rd t471 x57_2) : Int) x57_2
         go_wp2_with (first | ((with_reducible refine gate_store (t := 3) (p := 65) rfl ?_); (try (rw [drewN_self wr]; generalize hq_ : World.drewN wr _ = wr; have n0_ := Aside0.mk (Kd.R_at hq_ HO_6.out); have n1_ := Aside0.mk (Kd.R_at hq_ HO_7.out); have n2_ := Aside0.mk (Kd.R_at hq_ HO_9.out); have n3_ := Aside0.mk (Kd.R_at hq_ HO_55.out); have n4_ := Aside0.mk (below_at hq_ HB.out); clear hq_ HO_6 HO_7 HO_9 HO_55 HB; have HO_6 := n0_; have HO_7 := n1_; have HO_9 := n2_; have HO_55 := n3_; have HB := n4_; clear n0_ n1_ n2_ n3_ n4_; (try (have HP57 := Kd.R_putg HO_9.out ((rd t471 x57_2) : Int) x57_2)))); refine store_event (t := 3) (p := 65) (v := ?vo_w58) (w1 := (wr.setCell ⟨go37, ((rd t471 x57_2) : Int).toNat, none⟩ (.int .i64 x57_2))) ?hg ?ho ?hn ?hr ?_; (case ho => rfl); (case hg => rfl); (case hn => rfl); (case hr => first | (go_simp; done) | (go_simp; rfl)); intro w58 hw; have hg : wr.grownBy w58 (some go37) := (by rw [hw]; exact HP57.2); have hp_ : Kd.R (Kd.int .i64) 3 w58 w.heap.size (fun k_ => some k_ ≠ (.slice (some ad478) t471.length co31 : Value).ownBlock ∧ some k_ ≠ (.slice Ao25 x7_1.length co25 : Value).ownBlock ∧ some k_ ≠ (.slice (some ad478) t471.length co31 : Value).ownBlock) (.slice (some ⟨go37, 0, none⟩) x9_2.length co37) y479 := (by rw [hw, Ny479.out]; exact HP57.1); clear HP57; have n0_ := Aside0.mk (Kd.R_after (v := (.slice (some ⟨go37, 0, none⟩) x9_2.length co37)) (v1 := (.slice (some ⟨go37, 0, none⟩) x9_2.length co37)) (ok := (fun k_ => some k_ ≠ (.slice Ao25 x7_1.length co25 : Value).ownBlock)) (uR HO_6.out) hg (.inl rfl)); have n1_ := Aside0.mk (Kd.R_after (v := (.slice (some ⟨go37, 0, none⟩) x9_2.length co37)) (v1 := (.slice (some ⟨go37, 0, none⟩) x9_2.length co37)) (ok := (fun k_ => some k_ ≠ (.slice (some ad478) t471.length co31 : Value).ownBlock ∧ some k_ ≠ (.slice (some ad478) t471.length co31 : Value).ownBlock)) (by (with_reducible repeat (first | apply Kd.R_alloc | apply Kd.R_drewN | apply Kd.R_drew)); exact Kd.R_mono HO_7.out (fun _ hk => ⟨⟨hk.1, hk.2.2⟩, hk.2.1⟩)) hg (.inl rfl)); have n2_ := Aside0.mk (hp_); have n3_ := Aside0.mk (Kd.R_after (v := (.slice (some ⟨go37, 0, none⟩) x9_2.length co37)) (v1 := (.slice (some ⟨go37, 0, none⟩) x9_2.length co37)) (ok := (fun k_ => some k_ ≠ (.slice Ao25 x7_1.length co25 : Value).ownBlock)) (uR HO_55.out) hg (.inl rfl)); have n4_ := Aside0.mk ((by rw [hw]; exact below_set (HB.out) GB37.out : Below w.heap.size w w58)); clear HO_6; clear HO_7; clear HO_9; clear HO_55; clear HB; have HO_6 := n0_; have HO_7 := n1_; have HO_9 := n2_; have HO_55 := n3_; have HB := n4_; clear n0_ n1_ n2_ n3_ n4_; clear hg hw hp_; have p480 : 0 ≤ ((ji39) : Int) := dT; have q480 : (ji39) < (t471.length : Int) := dT; obtain ⟨ad480, e480, hx480_0⟩ := Kd.at_int (Kd.R_reads' HO_6.out).2.2 (ji39) p480 q480; obtain rfl : ad478 = ad480 := (by injection e480); replace p480 := eq_true p480; replace q480 := eq_true q480; have p481 : 0 ≤ ((rd t471 (ji39)) : Int) := dT; have q481 : (rd t471 (ji39)) < (l0.length : Int) := dT; obtain ⟨ad481, e481, hx481_0⟩ := Kd.at_int HR0.out (rd t471 (ji39)) p481 q481; cases e481; replace hx481_0 := (HB.out.cell (World.block_lt_of_cell? w _ hx481_0)).trans hx481_0; replace p481 := eq_true p481; replace q481 := eq_true q481; have p482 : 0 ≤ ((rd t471 x57_2) : Int) := dT; have q482 : (rd t471 x57_2) < (l0.length : Int) := dT; obtain ⟨ad482, e482, hx482_0⟩ := Kd.at_int HR0.out (rd t471 x57_2) p482 q482; obtain rfl : ad481 = ad482 := (by injection e482); replace hx482_0 := (HB.out.cell (World.block_lt_of_cell? w _ hx482_0)).trans hx482_0; replace p482 := eq_true p482; replace q482 := eq_true q482))
         repeat (go_quiet (first | ((with_reducible refine gate_store (t := 3) (p := 65) rfl ?_); (try (rw [drewN_self wr]; generalize hq_ : World.drewN wr _ = wr; have n0_ := Aside0.mk (Kd.R_at hq_ HO_6.out); have n1_ := Aside0.mk (Kd.R_at hq_ HO_7.out); have n2_ := Aside0.mk (Kd.R_at hq_ HO_9.out); have n3_ := Aside0.mk (Kd.R_at hq_ HO_55.out); have n4_ := Aside0.mk (below_at hq_ HB.out); clear hq_ HO_6 HO_7 HO_9 HO_55 HB; have HO_6 := n0_; have HO_7 := n1_; have HO_9 := n2_; have HO_55 := n3_; have HB := n4_; clear n0_ n1_ n2_ n3_ n4_; (try (have HP57 := Kd.R_putg HO_9.out ((rd t471 x57_2) : Int) x57_2)))); refine store_event (t := 3) (p := 65) (v := ?vo_w58) (w1 := (wr.setCell ⟨go37, ((rd t471 x57_2) : Int).toNat, none⟩ (.int .i64 x57_2))) ?hg ?ho ?hn ?hr ?_; (case ho => rfl); (case hg => rfl); (case hn => rfl); (case hr => first | (go_simp; done) | (go_simp; rfl)); intro w58 hw; have hg : wr.grownBy w58 (some go37) := (by rw [hw]; exact HP57.2); have hp_ : Kd.R (Kd.int .i64) 3 w58 w.heap.size (fun k_ => some k_ ≠ (.slice (some ad478) t471.length co31 : Value).ownBlock ∧ some k_ ≠ (.slice Ao25 x7_1.length co25 : Value).ownBlock ∧ some k_ ≠ (.slice (some ad478) t471.length co31 : Value).ownBlock) (.slice (some ⟨go37, 0, none⟩) x9_2.length co37) y479 := (by rw [hw, Ny479.out]; exact HP57.1); clear HP57; have n0_ := Aside0.mk (Kd.R_after (v := (.slice (some ⟨go37, 0, none⟩) x9_2.length co37)) (v1 := (.slice (some ⟨go37, 0, none⟩) x9_2.length co37)) (ok := (fun k_ => some k_ ≠ (.slice Ao25 x7_1.length co25 : Value).ownBlock)) (uR HO_6.out) hg (.inl rfl)); have n1_ := Aside0.mk (Kd.R_after (v := (.slice (some ⟨go37, 0, none⟩) x9_2.length co37)) (v1 := (.slice (some ⟨go37, 0, none⟩) x9_2.length co37)) (ok := (fun k_ => some k_ ≠ (.slice (some ad478) t471.length co31 : Value).ownBlock ∧ some k_ ≠ (.slice (some ad478) t471.length co31 : Value).ownBlock)) (by (with_reducible repeat (first | apply Kd.R_alloc | apply Kd.R_drewN | apply Kd.R_drew)); exact Kd.R_mono HO_7.out (fun _ hk => ⟨⟨hk.1, hk.2.2⟩, hk.2.1⟩)) hg (.inl rfl)); have n2_ := Aside0.mk (hp_); have n3_ := Aside0.mk (Kd.R_after (v := (.slice (some ⟨go37, 0, none⟩) x9_2.length co37)) (v1 := (.slice (some ⟨go37, 0, none⟩) x9_2.length co37)) (ok := (fun k_ => some k_ ≠ (.slice Ao25 x7_1.length co25 : Value).ownBlock)) (uR HO_55.out) hg (.inl rfl)); have n4_ := Aside0.mk ((by rw [hw]; exact below_set (HB.out) GB37.out : Below w.heap.size w w58)); clear HO_6; clear HO_7; clear HO_9; clear HO_55; clear HB; have HO_6 := n0_; have HO_7 := n1_; have HO_9 := n2_; have HO_55 := n3_; have HB := n4_; clear n0_ n1_ n2_ n3_ n4_; clear hg hw hp_; have p480 : 0 ≤ ((ji39) : Int) := dT; have q480 : (ji39) < (t471.length : Int) := dT; obtain ⟨ad480, e480, hx480_0⟩ := Kd.at_int (Kd.R_reads' HO_6.out).2.2 (ji39) p480 q480; obtain rfl : ad478 = ad480 := (by injection e480); replace p480 := eq_true p480; replace q480 := eq_true q480; have p481 : 0 ≤ ((rd t471 (ji39)) : Int) := dT; have q481 : (rd t471 (ji39)) < (l0.length : Int) := dT; obtain ⟨ad481, e481, hx481_0⟩ := Kd.at_int HR0.out (rd t471 (ji39)) p481 q481; cases e481; replace hx481_0 := (HB.out.cell (World.block_lt_of_cell? w _ hx481_0)).trans hx481_0; replace p481 := eq_true p481; replace q481 := eq_true q481; have p482 : 0 ≤ ((rd t471 x57_2) : Int) := dT; have q482 : (rd t471 x57_2) < (l0.length : Int) := dT; obtain ⟨ad482, e482, hx482_0⟩ := Kd.at_int HR0.out (rd t471 x57_2) p482 q482; obtain rfl : ad481 = ad482 := (by injection e482); replace hx482_0 := (HB.out.cell (World.block_lt_of_cell? w _ hx482_0)).trans hx482_0; replace p482 := eq_true p482; replace q482 := eq_true q482)); try go_wp2_with (first | ((with_reducible refine gate_store (t := 3) (p := 65) rfl ?_); (try (rw [drewN_self wr]; generalize hq_ : World.drewN wr _ = wr; have n0_ := Aside0.mk (Kd.R_at hq_ HO_6.out); have n1_ := Aside0.mk (Kd.R_at hq_ HO_7.out); have n2_ := Aside0.mk (Kd.R_at hq_ HO_9.out); have n3_ := Aside0.mk (Kd.R_at hq_ HO_55.out); have n4_ := Aside0.mk (below_at hq_ HB.out); clear hq_ HO_6 HO_7 HO_9 HO_55 HB; have HO_6 := n0_; have HO_7 := n1_; have HO_9 := n2_; have HO_55 := n3_; have HB := n4_; clear n0_ n1_ n2_ n3_ n4_; (try (have HP57 := Kd.R_putg HO_9.out ((rd t471 x57_2) : Int) x57_2)))); refine store_event (t := 3) (p := 65) (v := ?vo_w58) (w1 := (wr.setCell ⟨go37, ((rd t471 x57_2) : Int).toNat, none⟩ (.int .i64 x57_2))) ?hg ?ho ?hn ?hr ?_; (case ho => rfl); (case hg => rfl); (case hn => rfl); (case hr => first | (go_simp; done) | (go_simp; rfl)); intro w58 hw; have hg : wr.grownBy w58 (some go37) := (by rw [hw]; exact HP57.2); have hp_ : Kd.R (Kd.int .i64) 3 w58 w.heap.size (fun k_ => some k_ ≠ (.slice (some ad478) t471.length co31 : Value).ownBlock ∧ some k_ ≠ (.slice Ao25 x7_1.length co25 : Value).ownBlock ∧ some k_ ≠ (.slice (some ad478) t471.length co31 : Value).ownBlock) (.slice (some ⟨go37, 0, none⟩) x9_2.length co37) y479 := (by rw [hw, Ny479.out]; exact HP57.1); clear HP57; have n0_ := Aside0.mk (Kd.R_after (v := (.slice (some ⟨go37, 0, none⟩) x9_2.length co37)) (v1 := (.slice (some ⟨go37, 0, none⟩) x9_2.length co37)) (ok := (fun k_ => some k_ ≠ (.slice Ao25 x7_1.length co25 : Value).ownBlock)) (uR HO_6.out) hg (.inl rfl)); have n1_ := Aside0.mk (Kd.R_after (v := (.slice (some ⟨go37, 0, none⟩) x9_2.length co37)) (v1 := (.slice (some ⟨go37, 0, none⟩) x9_2.length co37)) (ok := (fun k_ => some k_ ≠ (.slice (some ad478) t471.length co31 : Value).ownBlock ∧ some k_ ≠ (.slice (some ad478) t471.length co31 : Value).ownBlock)) (by (with_reducible repeat (first | apply Kd.R_alloc | apply Kd.R_drewN | apply Kd.R_drew)); exact Kd.R_mono HO_7.out (fun _ hk => ⟨⟨hk.1, hk.2.2⟩, hk.2.1⟩)) hg (.inl rfl)); have n2_ := Aside0.mk (hp_); have n3_ := Aside0.mk (Kd.R_after (v := (.slice (some ⟨go37, 0, none⟩) x9_2.length co37)) (v1 := (.slice (some ⟨go37, 0, none⟩) x9_2.length co37)) (ok := (fun k_ => some k_ ≠ (.slice Ao25 x7_1.length co25 : Value).ownBlock)) (uR HO_55.out) hg (.inl rfl)); have n4_ := Aside0.mk ((by rw [hw]; exact below_set (HB.out) GB37.out : Below w.heap.size w w58)); clear HO_6; clear HO_7; clear HO_9; clear HO_55; clear HB; have HO_6 := n0_; have HO_7 := n1_; have HO_9 := n2_; have HO_55 := n3_; have HB := n4_; clear n0_ n1_ n2_ n3_ n4_; clear hg hw hp_; have p480 : 0 ≤ ((ji39) : Int) := dT; have q480 : (ji39) < (t471.length : Int) := dT; obtain ⟨ad480, e480, hx480_0⟩ := Kd.at_int (Kd.R_reads' HO_6.out).2.2 (ji39) p480 q480; obtain rfl : ad478 = ad480 := (by injection e480); replace p480 := eq_true p480; replace q480 := eq_true q480; have p481 : 0 ≤ ((rd t471 (ji39)) : Int) := dT; have q481 : (rd t471 (ji39)) < (l0.length : Int) := dT; obtain ⟨ad481, e481, hx481_0⟩ := Kd.at_int HR0.out (rd t471 (ji39)) p481 q481; cases e481; replace hx481_0 := (HB.out.cell (World.block_lt_of_cell? w _ hx481_0)).trans hx481_0; replace p481 := eq_true p481; replace q481 := eq_true q481; have p482 : 0 ≤ ((rd t471 x57_2) : Int) := dT; have q482 : (rd t471 x57_2) < (l0.length : Int) := dT; obtain ⟨ad482, e482, hx482_0⟩ := Kd.at_int HR0.out (rd t471 x57_2) p482 q482; obtain rfl : ad481 = ad482 := (by injection e482); replace hx482_0 := (HB.out.cell (World.block_lt_of_cell? w _ hx482_0)).trans hx482_0; replace p482 := eq_true p482; replace q482 := eq_true q482)))
         go_roundg k2
         case measure => have := HK1.out; have := HK2.out; omega
         case rel => exact ⟨(y479), (wrap64 (x57_2 + 1)), sD, H', ⟨by have := HK1.out; have := HK2.out; omega⟩, ⟨uR HO_6.out⟩, ⟨by (with_reducible repeat (first | apply Kd.R_alloc | apply Kd.R_drewN | apply Kd.R_drew)); exact Kd.R_mono HO_7.out (fun _ hk => ⟨hk.1.1, ⟨hk.2, hk.1.2⟩⟩)⟩, ⟨uR HO_9.out⟩, ⟨uR HO_55.out⟩, ⟨uB⟩⟩
       ·have H' := Aside0.mk H
        clear H
        obtain ⟨ad478, e478, hx478_0, p478, q478⟩ := rI (Kd.R_reads' HO_55.out).2.2 x57_2
        cases e478
        have p37 : 0 ≤ ((rd t471 x57_2) : Int) := dT
        have q37 : ((rd t471 x57_2) : Int) < ((x9_2.length : Int) : Int) := dT
        obtain ⟨go37, co37, eo37, gb37, gl37, cl37, HG37⟩ := Kd.R_form HO_9.out (by omega)
        (first | cases eo37 | (injection eo37 with ea_ en_ ec_; (first | subst ea_ | (injection ea_ with ea_; subst ea_)); subst ec_; clear en_))
        have GB37 := Aside0.mk gb37
        have GG37 := Aside0.mk HG37
        clear gb37 gl37 HG37
        obtain ⟨hx37_0, hf37_0⟩ := Kd.R_celln 0 HO_9.out ((rd t471 x57_2) : Int) p37 q37
        replace p37 := eq_true p37
        replace q37 := eq_true q37
        have HP59 := Kd.R_putg HO_9.out ((rd t471 x57_2) : Int) x57_2
        go_wp2_with (first | ((with_reducible refine gate_store (t := 3) (p := 65) rfl ?_); (try (rw [drewN_self wr]; generalize hq_ : World.drewN wr _ = wr; have n0_ := Aside0.mk (Kd.R_at hq_ HO_6.out); have n1_ := Aside0.mk (Kd.R_at hq_ HO_7.out); have n2_ := Aside0.mk (Kd.R_at hq_ HO_9.out); have n3_ := Aside0.mk (Kd.R_at hq_ HO_55.out); have n4_ := Aside0.mk (below_at hq_ HB.out); clear hq_ HO_6 HO_7 HO_9 HO_55 HB; have HO_6 := n0_; have HO_7 := n1_; have HO_9 := n2_; have HO_55 := n3_; have HB := n4_; clear n0_ n1_ n2_ n3_ n4_; (try (have HP59 := Kd.R_putg HO_9.out ((rd t471 x57_2) : Int) x57_2)))); refine store_event (t := 3) (p := 65) (v := ?vo_w60) (w1 := (wr.setCell ⟨go37, ((rd t471 x57_2) : Int).toNat, none⟩ (.int .i64 x57_2))) ?hg ?ho ?hn ?hr ?_; (case ho => rfl); (case hg => rfl); (case hn => rfl); (case hr => first | (go_simp; done) | (go_simp; rfl)); intro w60 hw; have hg : wr.grownBy w60 (some go37) := (by rw [hw]; exact HP59.2); have hp_ : Kd.R (Kd.int .i64) 3 w60 w.heap.size (fun k_ => some k_ ≠ (.slice (some ad478) t471.length co31 : Value).ownBlock ∧ some k_ ≠ (.slice Ao25 x7_1.length co25 : Value).ownBlock ∧ some k_ ≠ (.slice (some ad478) t471.length co31 : Value).ownBlock) (.slice (some ⟨go37, 0, none⟩) x9_2.length co37) y479 := (by rw [hw, Ny479.out]; exact HP59.1); clear HP59; have n0_ := Aside0.mk (Kd.R_after (v := (.slice (some ⟨go37, 0, none⟩) x9_2.length co37)) (v1 := (.slice (some ⟨go37, 0, none⟩) x9_2.length co37)) (ok := (fun k_ => some k_ ≠ (.slice Ao25 x7_1.length co25 : Value).ownBlock)) (uR HO_6.out) hg (.inl rfl)); have n1_ := Aside0.mk (Kd.R_after (v := (.slice (some ⟨go37, 0, none⟩) x9_2.length co37)) (v1 := (.slice (some ⟨go37, 0, none⟩) x9_2.length co37)) (ok := (fun k_ => some k_ ≠ (.slice (some ad478) t471.length co31 : Value).ownBlock ∧ some k_ ≠ (.slice (some ad478) t471.length co31 : Value).ownBlock)) (by (with_reducible repeat (first | apply Kd.R_alloc | apply Kd.R_drewN | apply Kd.R_drew)); exact Kd.R_mono HO_7.out (fun _ hk => ⟨⟨hk.1, hk.2.2⟩, hk.2.1⟩)) hg (.inl rfl)); have n2_ := Aside0.mk (hp_); have n3_ := Aside0.mk (Kd.R_after (v := (.slice (some ⟨go37, 0, none⟩) x9_2.length co37)) (v1 := (.slice (some ⟨go37, 0, none⟩) x9_2.length co37)) (ok := (fun k_ => some k_ ≠ (.slice Ao25 x7_1.length co25 : Value).ownBlock)) (uR HO_55.out) hg (.inl rfl)); have n4_ := Aside0.mk ((by rw [hw]; exact below_set (HB.out) GB37.out : Below w.heap.size w w60)); clear HO_6; clear HO_7; clear HO_9; clear HO_55; clear HB; have HO_6 := n0_; have HO_7 := n1_; have HO_9 := n2_; have HO_55 := n3_; have HB := n4_; clear n0_ n1_ n2_ n3_ n4_; clear hg hw hp_))
        repeat (go_quiet (first | ((with_reducible refine gate_store (t := 3) (p := 65) rfl ?_); (try (rw [drewN_self wr]; generalize hq_ : World.drewN wr _ = wr; have n0_ := Aside0.mk (Kd.R_at hq_ HO_6.out); have n1_ := Aside0.mk (Kd.R_at hq_ HO_7.out); have n2_ := Aside0.mk (Kd.R_at hq_ HO_9.out); have n3_ := Aside0.mk (Kd.R_at hq_ HO_55.out); have n4_ := Aside0.mk (below_at hq_ HB.out); clear hq_ HO_6 HO_7 HO_9 HO_55 HB; have HO_6 := n0_; have HO_7 := n1_; have HO_9 := n2_; have HO_55 := n3_; have HB := n4_; clear n0_ n1_ n2_ n3_ n4_; (try (have HP59 := Kd.R_putg HO_9.out ((rd t471 x57_2) : Int) x57_2)))); refine store_event (t := 3) (p := 65) (v := ?vo_w60) (w1 := (wr.setCell ⟨go37, ((rd t471 x57_2) : Int).toNat, none⟩ (.int .i64 x57_2))) ?hg ?ho ?hn ?hr ?_; (case ho => rfl); (case hg => rfl); (case hn => rfl); (case hr => first | (go_simp; done) | (go_simp; rfl)); intro w60 hw; have hg : wr.grownBy w60 (some go37) := (by rw [hw]; exact HP59.2); have hp_ : Kd.R (Kd.int .i64) 3 w60 w.heap.size (fun k_ => some k_ ≠ (.slice (some ad478) t471.length co31 : Value).ownBlock ∧ some k_ ≠ (.slice Ao25 x7_1.length co25 : Value).ownBlock ∧ some k_ ≠ (.slice (some ad478) t471.length co31 : Value).ownBlock) (.slice (some ⟨go37, 0, none⟩) x9_2.length co37) y479 := (by rw [hw, Ny479.out]; exact HP59.1); clear HP59; have n0_ := Aside0.mk (Kd.R_after (v := (.slice (some ⟨go37, 0, none⟩) x9_2.length co37)) (v1 := (.slice (some ⟨go37, 0, none⟩) x9_2.length co37)) (ok := (fun k_ => some k_ ≠ (.slice Ao25 x7_1.length co25 : Value).ownBlock)) (uR HO_6.out) hg (.inl rfl)); have n1_ := Aside0.mk (Kd.R_after (v := (.slice (some ⟨go37, 0, none⟩) x9_2.length co37)) (v1 := (.slice (some ⟨go37, 0, none⟩) x9_2.length co37)) (ok := (fun k_ => some k_ ≠ (.slice (some ad478) t471.length co31 : Value).ownBlock ∧ some k_ ≠ (.slice (some ad478) t471.length co31 : Value).ownBlock)) (by (with_reducible repeat (first | apply Kd.R_alloc | apply Kd.R_drewN | apply Kd.R_drew)); exact Kd.R_mono HO_7.out (fun _ hk => ⟨⟨hk.1, hk.2.2⟩, hk.2.1⟩)) hg (.inl rfl)); have n2_ := Aside0.mk (hp_); have n3_ := Aside0.mk (Kd.R_after (v := (.slice (some ⟨go37, 0, none⟩) x9_2.length co37)) (v1 := (.slice (some ⟨go37, 0, none⟩) x9_2.length co37)) (ok := (fun k_ => some k_ ≠ (.slice Ao25 x7_1.length co25 : Value).ownBlock)) (uR HO_55.out) hg (.inl rfl)); have n4_ := Aside0.mk ((by rw [hw]; exact below_set (HB.out) GB37.out : Below w.heap.size w w60)); clear HO_6; clear HO_7; clear HO_9; clear HO_55; clear HB; have HO_6 := n0_; have HO_7 := n1_; have HO_9 := n2_; have HO_55 := n3_; have HB := n4_; clear n0_ n1_ n2_ n3_ n4_; clear hg hw hp_)); try go_wp2_with (first | ((with_reducible refine gate_store (t := 3) (p := 65) rfl ?_); (try (rw [drewN_self wr]; generalize hq_ : World.drewN wr _ = wr; have n0_ := Aside0.mk (Kd.R_at hq_ HO_6.out); have n1_ := Aside0.mk (Kd.R_at hq_ HO_7.out); have n2_ := Aside0.mk (Kd.R_at hq_ HO_9.out); have n3_ := Aside0.mk (Kd.R_at hq_ HO_55.out); have n4_ := Aside0.mk (below_at hq_ HB.out); clear hq_ HO_6 HO_7 HO_9 HO_55 HB; have HO_6 := n0_; have HO_7 := n1_; have HO_9 := n2_; have HO_55 := n3_; have HB := n4_; clear n0_ n1_ n2_ n3_ n4_; (try (have HP59 := Kd.R_putg HO_9.out ((rd t471 x57_2) : Int) x57_2)))); refine store_event (t := 3) (p := 65) (v := ?vo_w60) (w1 := (wr.setCell ⟨go37, ((rd t471 x57_2) : Int).toNat, none⟩ (.int .i64 x57_2))) ?hg ?ho ?hn ?hr ?_; (case ho => rfl); (case hg => rfl); (case hn => rfl); (case hr => first | (go_simp; done) | (go_simp; rfl)); intro w60 hw; have hg : wr.grownBy w60 (some go37) := (by rw [hw]; exact HP59.2); have hp_ : Kd.R (Kd.int .i64) 3 w60 w.heap.size (fun k_ => some k_ ≠ (.slice (some ad478) t471.length co31 : Value).ownBlock ∧ some k_ ≠ (.slice Ao25 x7_1.length co25 : Value).ownBlock ∧ some k_ ≠ (.slice (some ad478) t471.length co31 : Value).ownBlock) (.slice (some ⟨go37, 0, none⟩) x9_2.length co37) y479 := (by rw [hw, Ny479.out]; exact HP59.1); clear HP59; have n0_ := Aside0.mk (Kd.R_after (v := (.slice (some ⟨go37, 0, none⟩) x9_2.length co37)) (v1 := (.slice (some ⟨go37, 0, none⟩) x9_2.length co37)) (ok := (fun k_ => some k_ ≠ (.slice Ao25 x7_1.length co25 : Value).ownBlock)) (uR HO_6.out) hg (.inl rfl)); have n1_ := Aside0.mk (Kd.R_after (v := (.slice (some ⟨go37, 0, none⟩) x9_2.length co37)) (v1 := (.slice (some ⟨go37, 0, none⟩) x9_2.length co37)) (ok := (fun k_ => some k_ ≠ (.slice (some ad478) t471.length co31 : Value).ownBlock ∧ some k_ ≠ (.slice (some ad478) t471.length co31 : Value).ownBlock)) (by (with_reducible repeat (first | apply Kd.R_alloc | apply Kd.R_drewN | apply Kd.R_drew)); exact Kd.R_mono HO_7.out (fun _ hk => ⟨⟨hk.1, hk.2.2⟩, hk.2.1⟩)) hg (.inl rfl)); have n2_ := Aside0.mk (hp_); have n3_ := Aside0.mk (Kd.R_after (v := (.slice (some ⟨go37, 0, none⟩) x9_2.length co37)) (v1 := (.slice (some ⟨go37, 0, none⟩) x9_2.length co37)) (ok := (fun k_ => some k_ ≠ (.slice Ao25 x7_1.length co25 : Value).ownBlock)) (uR HO_55.out) hg (.inl rfl)); have n4_ := Aside0.mk ((by rw [hw]; exact below_set (HB.out) GB37.out : Below w.heap.size w w60)); clear HO_6; clear HO_7; clear HO_9; clear HO_55; clear HB; have HO_6 := n0_; have HO_7 := n1_; have HO_9 := n2_; have HO_55 := n3_; have HB := n4_; clear n0_ n1_ n2_ n3_ n4_; clear hg hw hp_)))
        go_roundg k2
        case measure => have := HK1.out; have := HK2.out; omega
        case rel => exact ⟨(y479), (wrap64 (x57_2 + 1)), sD, H', ⟨by have := HK1.out; have := HK2.out; omega⟩, ⟨uR HO_6.out⟩, ⟨by (with_reducible repeat (first | apply Kd.R_alloc | apply Kd.R_drewN | apply Kd.R_drew)); exact Kd.R_mono HO_7.out (fun _ hk => ⟨hk.1.1, ⟨hk.2, hk.1.2⟩⟩)⟩, ⟨uR HO_9.out⟩, ⟨uR HO_55.out⟩, ⟨uB⟩⟩
      ·simp only [Option.some.injEq, Prod.mk.injEq] at H
       obtain ⟨rfl, rfl⟩ := H
       go_wp2
       repeat (go_quiet (fail); try go_wp2)
       go_ret2
       exact ⟨_, _, eR, by (with_reducible repeat (first | apply Kd.R_alloc | apply Kd.R_drewN | apply Kd.R_drew)); exact Kd.R_mono HO_9.out (fun _ hk => hk.1), by (with_reducible repeat (first | apply Kd.R_alloc | apply Kd.R_drewN | apply Kd.R_drew)); exact Kd.R_mono HO_6.out (fun _ hk => hk.2), uB⟩
end Go.Proofs.YtbbpplnnegdenaaGreat.PTopPipe
end
section
namespace Go.Proofs.YtbbpplnnegdenaaGreat.PTopPipe
open Go.RowKit Go.Proofs.YtbbpplnnegdenaaGreatW.PrintWords Go.Proofs.YtbbpplnnegdenaaGreatW.PrintLast Go.Proofs.YtbbpplnnegdenaaGreatW.PrintMore
attribute [local go_sem] max2_int min2_int max_two min_two max_three min_three max_four min_four
set_option linter.unusedVariables false
set_option linter.unusedSimpArgs false
mutual
def double_Ranks.j0 : Nat → List Int → Int → Bool → Option (List Int)
  | 0, _, _, _ => none
  | k + 1, x0, x1, x14 => if x14 = true then (some ([] : List Int)) else (if 0 ≤ (x0.length : Int) then (if ((x0.length : Int) : Int).toNat ≤ 35184372088832 then (if x1 = 0 then (some (List.replicate ((x0.length : Int) : Int).toNat 0)) else ((double_ranks.f k x0).bind fun t492 => (double_Ranks.l0 k (mn x1 (x0.length : Int)) t492 1))) else (none)) else (none))
def double_Ranks.l0 : Nat → Int → List Int → Int → Option (List Int)
  | 0, _, _, _ => none
  | k + 1, x1, x5, x6 => if x6 < x1 then ((double_joined.f k x5 (mn x6 (wrap64 (x1 - x6)))).bind fun bt495 => (double_Ranks.l0 k x1 bt495.1 (wrap64 (x6 + (mn x6 (wrap64 (x1 - x6))))))) else (some x5)
end
def double_Ranks.f (k : Nat) (l0 : List Int) (a1 : Int) : Option (List Int) := if a1 < 0 then (double_Ranks.j0 k l0 a1 true) else (double_Ranks.j0 k l0 a1 (decide ((l0.length : Int) > 100000)))
theorem double_Ranks.mono_l : ∀ k, (∀ y0 y1 y2, LeO (double_Ranks.j0 k y0 y1 y2) (double_Ranks.j0 (k + 1) y0 y1 y2)) ∧ (∀ y0 y1 y2, LeO (double_Ranks.l0 k y0 y1 y2) (double_Ranks.l0 (k + 1) y0 y1 y2))
  | 0 => ⟨fun _ _ _ r h => by simp [double_Ranks.j0] at h, fun _ _ _ r h => by simp [double_Ranks.l0] at h⟩
  | k + 1 => by
    obtain ⟨ih0, ih1⟩ := double_Ranks.mono_l k
    refine ⟨?_, ?_⟩
    · intro y0 y1 y2
      unfold double_Ranks.j0
      have m0 := @double_joined.mono
      have m1 := @double_ranks.mono
      exact mB
    · intro y0 y1 y2
      unfold double_Ranks.l0
      have m0 := @double_joined.mono
      have m1 := @double_ranks.mono
      exact mB
theorem double_Ranks.mono : ∀ a0 a1 k, LeO (double_Ranks.f k a0 a1) (double_Ranks.f (k + 1) a0 a1) := by
  intro a0 a1 k
  obtain ⟨ih0, ih1⟩ := double_Ranks.mono_l k
  unfold double_Ranks.f
  have m0 := @double_joined.mono
  have m1 := @double_ranks.mono
  exact mB
set_option maxHeartbeats 8000000 in
set_option maxRecDepth 100000 in
theorem double_Ranks.calls (k : Nat) (A0 : Option Addr) (c0 : Nat) (l0 : List Int) (a1 : Int) (r : List Int) (w : World) (hr0 : Kd.C (Kd.int .i64) w A0 l0.length l0) (hc0 : l0.length ≤ c0) (h : double_Ranks.f k l0 a1 = some r) :
    Calls Tryz.prog 109 #[.slice A0 l0.length c0, .int .i64 a1] w fun e w' => ∃ v0_ : Value, e = .returned (v0_) ∧ Kd.R (Kd.int .i64) 3 w' w.heap.size (fun _ => True) v0_ r ∧ Below w.heap.size w w' := by
 have HR0 := Aside0.mk hr0
 have HC0 := Aside0.mk hc0
 clear hr0 hc0
 have HB := Aside0.mk (Below.refl w.heap.size w)
 have H := h
 clear h
 unfold double_Ranks.f at H
 have HC3 := Aside0.mk H
 clear H
 go_enter Tryz.func109, Tryz.ntmps109
 go_upto_region 1 with (fail)
 go_cut [14] (fun v14 wc => ∃ (kq : Nat) (x14_2 : Bool), v14 = .bool x14_2 ∧ Aside0 (double_Ranks.j0 kq l0 a1 x14_2 = some r) ∧ Aside0 (kq ≤ k) ∧ Aside0 (Below w.heap.size w wc))
 case first =>
  have H := HC3.out
  clear HC3
  rcases ifC H with ⟨c4b0, H⟩ | ⟨c4b0, H⟩
  ·(first | rw [c4b0] | (simp only [i64_w, i32_w]; rw [c4b0]) | skip)
   have H' := Aside0.mk H
   clear H
   go_wp2
   go_meet
   case rel => exact ⟨_, (true), sD, H', ⟨by first | omega | exact Nat.le_refl _⟩, ⟨uB⟩⟩
  ·(first | rw [c4b0] | (simp only [i64_w, i32_w]; rw [c4b0]) | skip)
   have H' := Aside0.mk H
   clear H
   go_wp2
   go_meet
   case rel => exact ⟨_, (decide ((l0.length : Int) > 100000)), sD, H', ⟨by first | omega | exact Nat.le_refl _⟩, ⟨uB⟩⟩
 case rest =>
  clear HC3
  try clear c1
  try clear p2
  try clear c4
  try clear c4b0
  obtain ⟨kq, x14_2, rfl, HA, HJ2, HB⟩ := hcut
  cases kq with
  | zero => exact absurd HA.out (by simp [double_Ranks.j0])
  | succ kj2 =>
   have H := HA.out
   clear HA
   simp only [double_Ranks.j0] at H
   by_cases c5 : x14_2 = true
   ·subst c5
    rw [if_pos rfl] at H
    obtain rfl := Option.some.inj H
    go_wp2
    go_ret
    exact ⟨_, eR, nL, uB⟩
   ·replace c5 := Bool.eq_false_iff.mpr c5
    subst c5
    rw [if_neg (by decide)] at H
    obtain ⟨c6b0, c6b1, H⟩ := ifE H
    obtain ⟨c7b0, c7b1, H⟩ := ifE H
    generalize hy489 : (List.replicate ((l0.length : Int) : Int).toNat 0 : List Int) = y489 at H
    try simp only [Option.bind_some] at H
    have Ny489 := Aside0.mk hy489.symm
    clear hy489
    by_cases c8 : a1 = 0
    ·rw [if_pos c8] at H
     have c8b0 : (a1 == 0) = true := beq_iff_eq.mpr c8
     have c8b1 : (a1 != 0) = false := bne_eq_false_iff_eq.mpr c8
     clear c8
     obtain rfl := Option.some.inj H
     go_wp2_with (first | ((with_reducible refine gate_dst (N := 17) rfl ?_); (try (refine gate_guard (by rfl) ?_; dsimp only)); refine Kd.R_make (Kd.int .i64) _ 3 rfl (N := 17) rfl 29 _ _ rfl (l0.length : Int) rfl rfl Tryz.underlying29 (.int .i64 0) 8 info3 rfl (by decide) (by omega) 0 (ok := fun _ => True) (okp := fun _ => True) rfl (fun _ hk => hk) trivial dT (Nat.le_trans (Nat.mul_le_mul_right _ (dT : (l0.length : Int).toNat ≤ 35184372088832)) (by omega)) (Below.refl _ _) (Nat.le_refl _) ?_; intro v490 w9 ho10 hb hg_ hnew_; clear hg_ hnew_; (first | rw [← Ny489.out] at ho10 | (simp only [Int.reduceToNat] at ho10; rw [← Ny489.out] at ho10)); have n0_ := Aside0.mk (Kd.R_lower ho10 (below_size uB)); have n1_ := Aside0.mk (below_step uB hb); clear HB; have HO491 := n0_; have HB := n1_; clear n0_ n1_; clear hb ho10))
     go_ret
     exact ⟨_, eR, uR HO491.out, uB⟩
    ·rw [if_neg c8] at H
     have c8b0 : (a1 == 0) = false := beq_eq_false_iff_ne.mpr c8
     have c8b1 : (a1 != 0) = true := bne_iff_ne.mpr c8
     obtain ⟨t492, A11, H⟩ := bdS H
     try dsimp only at H
     obtain ⟨ji12, hji12⟩ : ∃ j_ : Int, (mn a1 (l0.length : Int)) = j_ := ⟨_, rfl⟩
     first | rw [hji12] at H | simp only [hji12] at H
     (try rw [hji12] at A11)
     have hji12_ : (if (l0.length : Int) < a1 then (l0.length : Int) else a1) = ji12 := hji12
     have H' := Aside0.mk H
     clear H
     go_wp2_with (first | ((with_reducible refine gate_dst (N := 17) rfl ?_); (try (refine gate_guard (by rfl) ?_; dsimp only)); refine Kd.R_make (Kd.int .i64) _ 3 rfl (N := 17) rfl 29 _ _ rfl (l0.length : Int) rfl rfl Tryz.underlying29 (.int .i64 0) 8 info3 rfl (by decide) (by omega) 0 (ok := fun _ => True) (okp := fun _ => True) rfl (fun _ hk => hk) trivial dT (Nat.le_trans (Nat.mul_le_mul_right _ (dT : (l0.length : Int).toNat ≤ 35184372088832)) (by omega)) (Below.refl _ _) (Nat.le_refl _) ?_; intro v490 w13 ho14 hb hg_ hnew_; clear hg_ hnew_; (first | rw [← Ny489.out] at ho14 | (simp only [Int.reduceToNat] at ho14; rw [← Ny489.out] at ho14)); have n0_ := Aside0.mk (Kd.R_lower ho14 (below_size uB)); have n1_ := Aside0.mk (below_step uB hb); clear HB; have HO491 := n0_; have HB := n1_; clear n0_ n1_; clear hb ho14) | ((with_reducible refine gate_callee (f := 133) rfl ?_); refine goesL_ (some 22) rfl rfl Tryz.func133 (by kernel_rfl) rfl #[.slice A0 l0.length c0] rfl aE ?_; (with_reducible refine (double_ranks.calls kj2 _ _ l0 t492 _ ?side1 ?side2 A11.out).mono ?_); (case side1 => exact uC (Kd.C_below HR0.out HB.out)); (case side2 => exact HC0.out); rintro e w15 ⟨v493, rfl, ho0, hb⟩; refine ⟨_, rfl, ?_⟩; have n0_ := Aside0.mk (Kd.R_elder' (uR HO491.out) (Kd.R_base ho0) hb); have n1_ := Aside0.mk (Kd.R_lower (Kd.R_new' ho0 (Kd.R_lt (uR HO491.out))) (below_size uB)); have n2_ := Aside0.mk (below_step uB hb); clear HO491; clear HB; have HO491 := n0_; have HO494 := n1_; have HB := n2_; clear n0_ n1_ n2_; (try clear hb); (try clear hb2); (try clear hk); (try clear hi); (try clear ho0)))
     go_loopg [5, 6] kj2 (fun kq v5 v6 w' => ∃ (x5_2 : List Int) (x6_2 : Int), v6 = .int .i64 x6_2 ∧ Aside0 (double_Ranks.l0 kq ji12 x5_2 x6_2 = some r) ∧ Aside0 (kq ≤ kj2) ∧ Aside0 (Kd.R (Kd.int .i64) 3 w' w.heap.size (fun _ => True) v5 x5_2) ∧ Aside0 (Below w.heap.size w w'))
     case atStart => exact ⟨(t492), (1), sD, H', ⟨Nat.le_refl _⟩, ⟨by (with_reducible repeat (first | apply Kd.R_alloc | apply Kd.R_drewN | apply Kd.R_drew)); exact Kd.R_mono HO494.out (fun _ hk => trivial)⟩, ⟨uB⟩⟩
     case round =>
      clear H'
      try clear c1
      try clear p2
      try clear c4
      try clear c4b0
      try clear c5
      try clear c6
      try clear c6b0
      try clear c6b1
      try clear c7
      try clear c7b0
      try clear c7b1
      try clear c8
      try clear c8b0
      try clear c8b1
      try clear c10
      try clear c13
      try clear p2
      obtain ⟨x5_2, x6_2, rfl, HA, HK2, HO_5, HB⟩ := hrel
      cases gk with
      | zero => exact absurd HA.out (by simp [double_Ranks.l0])
      | succ k2 =>
       have H := HA.out
       clear HA
       simp only [double_Ranks.l0] at H
       rcases ifC H with ⟨c16b0, H⟩ | ⟨c16b0, H⟩
       ·obtain ⟨ji17, hji17⟩ : ∃ j_ : Int, (mn x6_2 (wrap64 (ji12 - x6_2))) = j_ := ⟨_, rfl⟩
        first | rw [hji17] at H | simp only [hji17] at H
        have hji17_ : (if (wrap64 (ji12 - x6_2)) < x6_2 then (wrap64 (ji12 - x6_2)) else x6_2) = ji17 := hji17
        obtain ⟨⟨t495, t496⟩, A18, H⟩ := bdS H
        try dsimp only at H
        have H' := Aside0.mk H
        clear H
        obtain ⟨Ao19, co19, eo19⟩ := Kd.R_slice HO_5.out
        subst eo19
        go_wp2_with (first | ((with_reducible refine gate_callee (f := 134) rfl ?_); refine goesL_ (some 38) rfl rfl Tryz.func134 (by kernel_rfl) rfl #[.slice Ao19 x5_2.length co19, .int .i64 ji17] rfl (by (try simp only [List.map_toArray, List.map_cons, List.map_nil]); first | done | (simp only [hji17]; rfl) | rfl | (simp only [List.length_drop, List.length_take]; rfl)) ?_; (with_reducible refine (double_joined.calls k2 _ _ x5_2 ji17 t495 t496 _ ?side1 ?side2 A18.out).mono ?_); (case side1 => exact uC (Kd.R_reads' HO_5.out).2.2); (case side2 => exact (Kd.R_reads' HO_5.out).2.1); rintro e w20 ⟨v497, v499, rfl, ho0, ho1, hb⟩; refine ⟨_, rfl, ?_⟩; have n0_ := Aside0.mk (Kd.R_mono (Kd.R_told (Kd.R_told (Kd.R_old (uR HO_5.out) hb) (Kd.R_base ho0)) (Kd.R_base ho1)) (fun _ h_ => h_.1)); have n1_ := Aside0.mk (Kd.R_lower (Kd.R_new' ho0 (Kd.R_lt (uR HO_5.out))) (below_size uB)); have n2_ := Aside0.mk (Kd.R_lower (Kd.R_new' ho1 (Kd.R_lt (uR HO_5.out))) (below_size uB)); have n3_ := Aside0.mk (below_step uB hb); clear HO_5; clear HB; have HO_5 := n0_; have HO498 := n1_; have HO500 := n2_; have HB := n3_; clear n0_ n1_ n2_ n3_; (try clear hb); (try clear hb2); (try clear hk); (try clear hi); (try clear ho0); (try clear ho1)))
        go_roundg k2
        case measure => have := HJ2.out; have := HK2.out; omega
        case rel => exact ⟨(t495), (wrap64 (x6_2 + (ji17))), (by first | rfl | (simp; done) | (simp only [← hji17] <;> (first | rfl | simp)) | (simp [*]; done)), H', ⟨by have := HJ2.out; have := HK2.out; omega⟩, ⟨by (with_reducible repeat (first | apply Kd.R_alloc | apply Kd.R_drewN | apply Kd.R_drew)); exact Kd.R_mono HO498.out (fun _ hk => trivial)⟩, ⟨uB⟩⟩
       ·obtain rfl := Option.some.inj H
        go_wp2
        go_ret
        exact ⟨_, by first | rfl | (simp [errW_none, errW_some] <;> rfl) | (simp only [← hji12]; first | rfl | (simp [errW_none, errW_some] <;> rfl)) | (simp [*, errW_none, errW_some] <;> rfl), uR HO_5.out, uB⟩
def double_Ints.l0 : Nat → List Int → List Int → Int → Int → Option (List Int × Int)
  | 0, _, _, _, _ => none
  | k + 1, x8, x28, x29, x30 => if x30 < x29 then (if 0 ≤ x30 then (if x30 < (x28.length : Int) then (if 0 ≤ (rd x28 x30) then (if (rd x28 x30) < (x8.length : Int) then (double_Ints.l0 k (x8.set ((rd x28 x30) : Int).toNat x30) x28 x29 (wrap64 (x30 + 1))) else (none)) else (none)) else (none)) else (none)) else (some (x8, 0))
def double_Ints.f (k : Nat) (l0 : List Int) (a1 : Int) : Option (List Int × Int) := if (l0.length : Int) > 100000 then (some (([] : List Int), 2)) else ((bucket_Counts.f k l0 a1).bind fun bt501 => (if bt501.2 = true then (if 0 ≤ (l0.length : Int) then (if ((l0.length : Int) : Int).toNat ≤ 35184372088832 then ((double_Ranks.f k l0 (l0.length : Int)).bind fun t508 => (double_Ints.l0 k (List.replicate ((l0.length : Int) : Int).toNat 0) t508 (t508.length : Int) 0)) else (none)) else (none)) else (some (([] : List Int), 1))))
theorem double_Ints.mono_l : ∀ k, (∀ y0 y1 y2 y3, LeO (double_Ints.l0 k y0 y1 y2 y3) (double_Ints.l0 (k + 1) y0 y1 y2 y3))
  | 0 => fun _ _ _ _ r h => by simp [double_Ints.l0] at h
  | k + 1 => by
    have ih0 := double_Ints.mono_l k
    · intro y0 y1 y2 y3
      unfold double_Ints.l0
      have m0 := @bucket_Counts.mono
      have m1 := @double_Ranks.mono
      exact mB
theorem double_Ints.mono : ∀ a0 a1 k, LeO (double_Ints.f k a0 a1) (double_Ints.f (k + 1) a0 a1) := by
  intro a0 a1 k
  have ih0 := double_Ints.mono_l k
  unfold double_Ints.f
  have m0 := @bucket_Counts.mono
  have m1 := @double_Ranks.mono
  exact mB
set_option maxHeartbeats 8000000 in
set_option maxRecDepth 100000 in
theorem double_Ints.calls (k : Nat) (A0 : Option Addr) (c0 : Nat) (l0 : List Int) (a1 : Int) (r1 : List Int) (r2 : Int) (w : World) (hr0 : Kd.C (Kd.int .i64) w A0 l0.length l0) (hc0 : l0.length ≤ c0) (h : double_Ints.f k l0 a1 = some (r1, r2)) :
    Calls Tryz.prog 95 #[.slice A0 l0.length c0, .int .i64 a1] w fun e w' => ∃ v0_ : Value, e = .returned (.tuple #[v0_, .int .i64 r2]) ∧ Kd.R (Kd.int .i64) 3 w' w.heap.size (fun _ => True) v0_ r1 ∧ Below w.heap.size w w' := by
 have HR0 := Aside0.mk hr0
 have HC0 := Aside0.mk hc0
 clear hr0 hc0
 have HB := Aside0.mk (Below.refl w.heap.size w)
 have H := h
 clear h
 unfold double_Ints.f at H
 by_cases c3 : (l0.length : Int) > 100000
 ·rw [if_pos c3] at H
  have c3b0 : decide (100000 < (l0.length : Int)) = true := decide_eq_true c3
  have c3b1 : decide (100000 < l0.length) = true := decide_eq_true (by omega)
  clear c3
  simp only [Option.some.injEq, Prod.mk.injEq] at H
  obtain ⟨rfl, rfl⟩ := H
  go_enter Tryz.func95, Tryz.ntmps95
  go_wp2
  go_ret2
  exact ⟨_, eR, nL, uB⟩
 ·rw [if_neg c3] at H
  have c3b0 : decide (100000 < (l0.length : Int)) = false := decide_eq_false c3
  have c3b1 : decide (100000 < l0.length) = false := decide_eq_false (by omega)
  clear c3
  obtain ⟨⟨t501, t502⟩, A4, H⟩ := bdS H
  try dsimp only at H
  by_cases c5 : t502 = true
  ·subst c5
   rw [if_pos rfl] at H
   obtain ⟨c6b0, c6b1, H⟩ := ifE H
   obtain ⟨c7b0, c7b1, H⟩ := ifE H
   generalize hy505 : (List.replicate ((l0.length : Int) : Int).toNat 0 : List Int) = y505 at H
   try simp only [Option.bind_some] at H
   have Ny505 := Aside0.mk hy505.symm
   clear hy505
   obtain ⟨t508, A8, H⟩ := bdS H
   try dsimp only at H
   have H' := Aside0.mk H
   clear H
   go_enter Tryz.func95, Tryz.ntmps95
   go_wp2_with (first | ((with_reducible refine gate_callee (f := 91) rfl ?_); refine goesL_ (some 17) rfl rfl Tryz.func91 (by kernel_rfl) rfl #[.slice A0 l0.length c0, .int .i64 a1] rfl aE ?_; (with_reducible refine (bucket_Counts.calls k _ _ l0 a1 t501 true _ ?side1 ?side2 A4.out).mono ?_); (case side1 => exact uC HR0.out); (case side2 => exact HC0.out); rintro e w9 ⟨v503, rfl, ho0, hb⟩; refine ⟨_, rfl, ?_⟩; have n0_ := Aside0.mk (Kd.R_lower ho0 (below_size uB)); have n1_ := Aside0.mk (below_step uB hb); clear HB; have HO504 := n0_; have HB := n1_; clear n0_ n1_; (try clear hb); (try clear hb2); (try clear hk); (try clear hi); (try clear ho0)) | ((with_reducible refine gate_dst (N := 24) rfl ?_); refine Kd.R_make (Kd.int .i64) _ 3 rfl (N := 24) rfl 29 _ _ rfl (l0.length : Int) rfl rfl Tryz.underlying29 (.int .i64 0) 8 info3 rfl (by decide) (by omega) 0 (ok := fun _ => True) (okp := fun _ => True) rfl (fun _ hk => hk) trivial dT (Nat.le_trans (Nat.mul_le_mul_right _ (dT : (l0.length : Int).toNat ≤ 35184372088832)) (by omega)) (Below.refl _ _) (Nat.le_refl _) ?_; intro v506 w10 ho11 hb hg_ hnew_; clear hg_ hnew_; (first | rw [← Ny505.out] at ho11 | (simp only [Int.reduceToNat] at ho11; rw [← Ny505.out] at ho11)); have n0_ := Aside0.mk (Kd.R_elder' (uR HO504.out) (Kd.R_base ho11) hb); have n1_ := Aside0.mk (Kd.R_lower (Kd.R_new' ho11 (Kd.R_lt (uR HO504.out))) (below_size uB)); have n2_ := Aside0.mk (below_step uB hb); clear HO504; clear HB; have HO504 := n0_; have HO507 := n1_; have HB := n2_; clear n0_ n1_ n2_; clear hb ho11) | ((with_reducible refine gate_callee (f := 109) rfl ?_); refine goesL_ (some 28) rfl rfl Tryz.func109 (by kernel_rfl) rfl #[.slice A0 l0.length c0, .int .i64 (l0.length : Int)] rfl aE ?_; (with_reducible refine (double_Ranks.calls k _ _ l0 (l0.length : Int) t508 _ ?side1 ?side2 A8.out).mono ?_); (case side1 => exact uC (Kd.C_below HR0.out HB.out)); (case side2 => exact HC0.out); rintro e w12 ⟨v509, rfl, ho0, hb⟩; refine ⟨_, rfl, ?_⟩; have n0_ := Aside0.mk (Kd.R_elder' (uR HO504.out) (Kd.R_base ho0) hb); have n1_ := Aside0.mk (Kd.R_elder' (uR HO507.out) (Kd.R_base ho0) hb); have n2_ := Aside0.mk (Kd.R_lower (Kd.R_new' (Kd.R_new' ho0 (Kd.R_lt (uR HO504.out))) (Kd.R_lt (uR HO507.out))) (below_size uB)); have n3_ := Aside0.mk (below_step uB hb); clear HO504; clear HO507; clear HB; have HO504 := n0_; have HO507 := n1_; have HO510 := n2_; have HB := n3_; clear n0_ n1_ n2_ n3_; (try clear hb); (try clear hb2); (try clear hk); (try clear hi); (try clear ho0); obtain ⟨Ao13, co13, eo13⟩ := Kd.R_slice HO510.out; subst eo13))
   go_loopg [30] k (fun kq v30 w' => ∃ (x8_1 : List Int) (x30_1 : Int), v30 = .int .i64 x30_1 ∧ Aside0 (double_Ints.l0 kq x8_1 t508 (t508.length : Int) x30_1 = some (r1, r2)) ∧ Aside0 (kq ≤ k) ∧ Aside0 (Kd.R (Kd.int .i64) 3 w' w.heap.size (fun k_ => some k_ ≠ ((.slice Ao13 t508.length co13) : Value).ownBlock) v506 x8_1) ∧ Aside0 (Kd.R (Kd.int .i64) 3 w' w.heap.size (fun k_ => some k_ ≠ (v506 : Value).ownBlock) (.slice Ao13 t508.length co13) t508) ∧ Aside0 (Below w.heap.size w w'))
   case atStart => exact ⟨(y505), (0), sD, H', ⟨Nat.le_refl _⟩, ⟨by (with_reducible repeat (first | apply Kd.R_alloc | apply Kd.R_drewN | apply Kd.R_drew)); exact Kd.R_mono HO507.out (fun _ hk => hk.2)⟩, ⟨by (with_reducible repeat (first | apply Kd.R_alloc | apply Kd.R_drewN | apply Kd.R_drew)); exact Kd.R_mono HO510.out (fun _ hk => hk.2)⟩, ⟨uB⟩⟩
   case round =>
    clear H'
    try clear c1
    try clear p2
    try clear c3
    try clear c3b0
    try clear c3b1
    try clear c5
    try clear c6
    try clear c6b0
    try clear c6b1
    try clear c7
    try clear c7b0
    try clear c7b1
    try clear c9
    try clear c10
    obtain ⟨x8_1, x30_1, rfl, HA, HK1, HO_8, HO_28, HB⟩ := hrel
    cases gk with
    | zero => exact absurd HA.out (by simp [double_Ints.l0])
    | succ k1 =>
     have H := HA.out
     clear HA
     simp only [double_Ints.l0] at H
     rcases ifC H with ⟨c14b0, H⟩ | ⟨c14b0, H⟩
     ·obtain ⟨c15b0, c16b0, H⟩ := ifD2 H
      obtain ⟨c17b0, c18b0, H⟩ := ifD2 H
      generalize hy512 : (x8_1.set ((rd t508 x30_1) : Int).toNat x30_1 : List Int) = y512 at H
      try simp only [Option.bind_some] at H
      have Ny512 := Aside0.mk hy512.symm
      clear hy512
      have H' := Aside0.mk H
      clear H
      obtain ⟨ad511, e511, hx511_0, p511, q511⟩ := rI (Kd.R_reads' HO_28.out).2.2 x30_1
      cases e511
      have p19 : 0 ≤ ((rd t508 x30_1) : Int) := dT
      have q19 : ((rd t508 x30_1) : Int) < ((x8_1.length : Int) : Int) := dT
      obtain ⟨go19, co19, eo19, gb19, gl19, cl19, HG19⟩ := Kd.R_form HO_8.out (by omega)
      (first | cases eo19 | (injection eo19 with ea_ en_ ec_; (first | subst ea_ | (injection ea_ with ea_; subst ea_)); subst ec_; clear en_))
      have GB19 := Aside0.mk gb19
      have GG19 := Aside0.mk HG19
      clear gb19 gl19 HG19
      obtain ⟨hx19_0, hf19_0⟩ := Kd.R_celln 0 HO_8.out ((rd t508 x30_1) : Int) p19 q19
      replace p19 := eq_true p19
      replace q19 := eq_true q19
      have HP20 := Kd.R_putg HO_8.out ((rd t508 x30_1) : Int) x30_1
      go_wp2_with (first | ((with_reducible refine gate_store (t := 3) (p := 38) rfl ?_); refine store_event (t := 3) (p := 38) (v := ?vo_w21) (w1 := (wr.setCell ⟨go19, ((rd t508 x30_1) : Int).toNat, none⟩ (.int .i64 x30_1))) ?hg ?ho ?hn ?hr ?_; (case ho => rfl); (case hg => rfl); (case hn => rfl); (case hr => first | (go_simp; done) | (go_simp; rfl)); intro w21 hw; have hg : wr.grownBy w21 (some go19) := (by rw [hw]; exact HP20.2); have hp_ : Kd.R (Kd.int .i64) 3 w21 w.heap.size (fun k_ => some k_ ≠ (.slice (some ad511) t508.length co13 : Value).ownBlock) (.slice (some ⟨go19, 0, none⟩) x8_1.length co19) y512 := (by rw [hw, Ny512.out]; exact HP20.1); clear HP20; have n0_ := Aside0.mk (hp_); have n1_ := Aside0.mk (Kd.R_after (v := (.slice (some ⟨go19, 0, none⟩) x8_1.length co19)) (v1 := (.slice (some ⟨go19, 0, none⟩) x8_1.length co19)) (ok := (fun _ => True)) (by (with_reducible repeat (first | apply Kd.R_alloc | apply Kd.R_drewN | apply Kd.R_drew)); exact Kd.R_mono HO_28.out (fun _ hk => ⟨trivial, hk⟩)) hg (.inl rfl)); have n2_ := Aside0.mk ((by rw [hw]; exact below_set (HB.out) GB19.out : Below w.heap.size w w21)); clear HO_8; clear HO_28; clear HB; have HO_8 := n0_; have HO_28 := n1_; have HB := n2_; clear n0_ n1_ n2_; clear hg hw hp_))
      go_roundg k1
      case measure => have := HK1.out; omega
      case rel => exact ⟨(y512), (wrap64 (x30_1 + 1)), sD, H', ⟨by have := HK1.out; omega⟩, ⟨uR HO_8.out⟩, ⟨by (with_reducible repeat (first | apply Kd.R_alloc | apply Kd.R_drewN | apply Kd.R_drew)); exact Kd.R_mono HO_28.out (fun _ hk => hk.2)⟩, ⟨uB⟩⟩
     ·simp only [Option.some.injEq, Prod.mk.injEq] at H
      obtain ⟨rfl, rfl⟩ := H
      go_wp2
      go_ret2
      exact ⟨_, eR, by (with_reducible repeat (first | apply Kd.R_alloc | apply Kd.R_drewN | apply Kd.R_drew)); exact Kd.R_mono HO_8.out (fun _ hk => trivial), uB⟩
  ·replace c5 := Bool.eq_false_iff.mpr c5
   subst c5
   rw [if_neg (by decide)] at H
   simp only [Option.some.injEq, Prod.mk.injEq] at H
   obtain ⟨rfl, rfl⟩ := H
   go_enter Tryz.func95, Tryz.ntmps95
   go_wp2_with (first | ((with_reducible refine gate_callee (f := 91) rfl ?_); refine goesL_ (some 17) rfl rfl Tryz.func91 (by kernel_rfl) rfl #[.slice A0 l0.length c0, .int .i64 a1] rfl aE ?_; (with_reducible refine (bucket_Counts.calls k _ _ l0 a1 t501 false _ ?side1 ?side2 A4.out).mono ?_); (case side1 => exact uC HR0.out); (case side2 => exact HC0.out); rintro e w22 ⟨v503, rfl, ho0, hb⟩; refine ⟨_, rfl, ?_⟩; have n0_ := Aside0.mk (Kd.R_lower ho0 (below_size uB)); have n1_ := Aside0.mk (below_step uB hb); clear HB; have HO504 := n0_; have HB := n1_; clear n0_ n1_; (try clear hb); (try clear hb2); (try clear hk); (try clear hi); (try clear ho0)))
   go_ret2
   exact ⟨_, eR, nL, uB⟩
def double_Bytes.l0 : Nat → List Int → List Int → Int → Int → Option (List Int × Int)
  | 0, _, _, _, _ => none
  | k + 1, x4, x13, x14, x15 => if x15 < x14 then (if 0 ≤ x15 then (if x15 < (x13.length : Int) then (if x15 < (x4.length : Int) then (double_Bytes.l0 k (x4.set (x15 : Int).toNat (wrap64 (rd x13 x15))) x13 x14 (wrap64 (x15 + 1))) else (none)) else (none)) else (none)) else ((double_Ints.f k x4 256).bind fun bt518 => (some (bt518.1, bt518.2)))
def double_Bytes.f (k : Nat) (l0 : List Int) : Option (List Int × Int) := if (l0.length : Int) > 100000 then (some (([] : List Int), 2)) else (if 0 ≤ (l0.length : Int) then (if ((l0.length : Int) : Int).toNat ≤ 35184372088832 then (double_Bytes.l0 k (List.replicate ((l0.length : Int) : Int).toNat 0) l0 (l0.length : Int) 0) else (none)) else (none))
theorem double_Bytes.mono_l : ∀ k, (∀ y0 y1 y2 y3, LeO (double_Bytes.l0 k y0 y1 y2 y3) (double_Bytes.l0 (k + 1) y0 y1 y2 y3))
  | 0 => fun _ _ _ _ r h => by simp [double_Bytes.l0] at h
  | k + 1 => by
    have ih0 := double_Bytes.mono_l k
    · intro y0 y1 y2 y3
      unfold double_Bytes.l0
      have m0 := @double_Ints.mono
      exact mB
theorem double_Bytes.mono : ∀ a0 k, LeO (double_Bytes.f k a0) (double_Bytes.f (k + 1) a0) := by
  intro a0 k
  have ih0 := double_Bytes.mono_l k
  unfold double_Bytes.f
  have m0 := @double_Ints.mono
  exact mB
set_option maxHeartbeats 8000000 in
set_option maxRecDepth 100000 in
theorem double_Bytes.calls (k : Nat) (A0 : Option Addr) (c0 : Nat) (l0 : List Int) (r1 : List Int) (r2 : Int) (w : World) (hr0 : Kd.C (Kd.int .u8) w A0 l0.length l0) (hc0 : l0.length ≤ c0) (h : double_Bytes.f k l0 = some (r1, r2)) :
    Calls Tryz.prog 78 #[.slice A0 l0.length c0] w fun e w' => ∃ v0_ : Value, e = .returned (.tuple #[v0_, .int .i64 r2]) ∧ Kd.R (Kd.int .i64) 3 w' w.heap.size (fun _ => True) v0_ r1 ∧ Below w.heap.size w w' := by
 have HR0 := Aside0.mk hr0
 have HC0 := Aside0.mk hc0
 clear hr0 hc0
 have HB := Aside0.mk (Below.refl w.heap.size w)
 have H := h
 clear h
 unfold double_Bytes.f at H
 by_cases c2 : (l0.length : Int) > 100000
 ·rw [if_pos c2] at H
  have c2b0 : decide (100000 < (l0.length : Int)) = true := decide_eq_true c2
  have c2b1 : decide (100000 < l0.length) = true := decide_eq_true (by omega)
  clear c2
  simp only [Option.some.injEq, Prod.mk.injEq] at H
  obtain ⟨rfl, rfl⟩ := H
  go_enter Tryz.func78, Tryz.ntmps78
  go_wp2
  go_ret2
  exact ⟨_, eR, nL, uB⟩
 ·rw [if_neg c2] at H
  have c2b0 : decide (100000 < (l0.length : Int)) = false := decide_eq_false c2
  have c2b1 : decide (100000 < l0.length) = false := decide_eq_false (by omega)
  clear c2
  obtain ⟨c3b0, c3b1, H⟩ := ifE H
  obtain ⟨c4b0, c4b1, H⟩ := ifE H
  generalize hy513 : (List.replicate ((l0.length : Int) : Int).toNat 0 : List Int) = y513 at H
  try simp only [Option.bind_some] at H
  have Ny513 := Aside0.mk hy513.symm
  clear hy513
  have H' := Aside0.mk H
  clear H
  go_enter Tryz.func78, Tryz.ntmps78
  go_wp2_with (first | ((with_reducible refine gate_dst (N := 12) rfl ?_); refine Kd.R_make (Kd.int .i64) _ 3 rfl (N := 12) rfl 29 _ _ rfl (l0.length : Int) rfl rfl Tryz.underlying29 (.int .i64 0) 8 info3 rfl (by decide) (by omega) 0 (ok := fun _ => True) (okp := fun _ => True) rfl (fun _ hk => hk) trivial dT (Nat.le_trans (Nat.mul_le_mul_right _ (dT : (l0.length : Int).toNat ≤ 35184372088832)) (by omega)) (Below.refl _ _) (Nat.le_refl _) ?_; intro v514 w5 ho6 hb hg_ hnew_; clear hg_ hnew_; (first | rw [← Ny513.out] at ho6 | (simp only [Int.reduceToNat] at ho6; rw [← Ny513.out] at ho6)); have n0_ := Aside0.mk (Kd.R_lower ho6 (below_size uB)); have n1_ := Aside0.mk (below_step uB hb); clear HB; have HO515 := n0_; have HB := n1_; clear n0_ n1_; clear hb ho6))
  go_loopg [15] k (fun kq v15 w' => ∃ (x4_1 : List Int) (x15_1 : Int), v15 = .int .i64 x15_1 ∧ Aside0 (double_Bytes.l0 kq x4_1 l0 (l0.length : Int) x15_1 = some (r1, r2)) ∧ Aside0 (kq ≤ k) ∧ Aside0 (Kd.R (Kd.int .i64) 3 w' w.heap.size (fun _ => True) v514 x4_1) ∧ Aside0 (Below w.heap.size w w'))
  case atStart => exact ⟨(y513), (0), sD, H', ⟨Nat.le_refl _⟩, ⟨uR HO515.out⟩, ⟨uB⟩⟩
  case round =>
   clear H'
   try clear c2
   try clear c2b0
   try clear c2b1
   try clear p2
   try clear c3
   try clear c3b0
   try clear c3b1
   try clear c4
   try clear c4b0
   try clear c4b1
   obtain ⟨x4_1, x15_1, rfl, HA, HK1, HO_4, HB⟩ := hrel
   cases gk with
   | zero => exact absurd HA.out (by simp [double_Bytes.l0])
   | succ k1 =>
    have H := HA.out
    clear HA
    simp only [double_Bytes.l0] at H
    rcases ifC H with ⟨c7b0, H⟩ | ⟨c7b0, H⟩
    ·obtain ⟨c8b0, H⟩ := ifD H
     obtain ⟨c9b0, c10b0, H⟩ := ifD2 H
     generalize hy517 : (x4_1.set (x15_1 : Int).toNat (wrap64 (rd l0 x15_1)) : List Int) = y517 at H
     try simp only [Option.bind_some] at H
     have Ny517 := Aside0.mk hy517.symm
     clear hy517
     have H' := Aside0.mk H
     clear H
     obtain ⟨ad516, e516, hx516_0, p516, q516⟩ := rIO HB.out HR0.out x15_1
     cases e516
     have p11 : 0 ≤ (x15_1 : Int) := dT
     have q11 : (x15_1 : Int) < ((x4_1.length : Int) : Int) := dT
     obtain ⟨go11, co11, eo11, gb11, gl11, cl11, HG11⟩ := Kd.R_form HO_4.out (by omega)
     (first | cases eo11 | (injection eo11 with ea_ en_ ec_; (first | subst ea_ | (injection ea_ with ea_; subst ea_)); subst ec_; clear en_))
     have GB11 := Aside0.mk gb11
     have GG11 := Aside0.mk HG11
     clear gb11 gl11 HG11
     obtain ⟨hx11_0, hf11_0⟩ := Kd.R_celln 0 HO_4.out (x15_1 : Int) p11 q11
     replace p11 := eq_true p11
     replace q11 := eq_true q11
     have HP12 := Kd.R_putg HO_4.out (x15_1 : Int) (wrap64 (rd l0 x15_1))
     go_wp2_with (first | ((with_reducible refine gate_store (t := 3) (p := 24) rfl ?_); refine store_event (t := 3) (p := 24) (v := ?vo_w13) (w1 := (wr.setCell ⟨go11, (x15_1 : Int).toNat, none⟩ (.int .i64 (wrap64 (rd l0 x15_1))))) ?hg ?ho ?hn ?hr ?_; (case ho => rfl); (case hg => rfl); (case hn => rfl); (case hr => first | (go_simp; done) | (go_simp; rfl)); intro w13 hw; have hg : wr.grownBy w13 (some go11) := (by rw [hw]; exact HP12.2); have hp_ : Kd.R (Kd.int .i64) 3 w13 w.heap.size (fun _ => True) (.slice (some ⟨go11, 0, none⟩) x4_1.length co11) y517 := (by rw [hw, Ny517.out]; exact HP12.1); clear HP12; have n0_ := Aside0.mk (hp_); have n1_ := Aside0.mk ((by rw [hw]; exact below_set (HB.out) GB11.out : Below w.heap.size w w13)); clear HO_4; clear HB; have HO_4 := n0_; have HB := n1_; clear n0_ n1_; clear hg hw hp_))
     go_roundg k1
     case measure => have := HK1.out; omega
     case rel => exact ⟨(y517), (wrap64 (x15_1 + 1)), sD, H', ⟨by have := HK1.out; omega⟩, ⟨uR HO_4.out⟩, ⟨uB⟩⟩
    ·obtain ⟨⟨t518, t519⟩, A14, H⟩ := bdS H
     try dsimp only at H
     simp only [Option.some.injEq, Prod.mk.injEq] at H
     obtain ⟨rfl, rfl⟩ := H
     obtain ⟨Ao15, co15, eo15⟩ := Kd.R_slice HO_4.out
     subst eo15
     go_wp2_with (first | ((with_reducible refine gate_callee (f := 95) rfl ?_); refine goesL_ (some 27) rfl rfl Tryz.func95 (by kernel_rfl) rfl #[.slice Ao15 x4_1.length co15, .int .i64 256] rfl aE ?_; (with_reducible refine (double_Ints.calls k1 _ _ x4_1 256 t518 t519 _ ?side1 ?side2 A14.out).mono ?_); (case side1 => exact uC (Kd.R_reads' HO_4.out).2.2); (case side2 => exact (Kd.R_reads' HO_4.out).2.1); rintro e w16 ⟨v520, rfl, ho0, hb⟩; refine ⟨_, rfl, ?_⟩; have n0_ := Aside0.mk (Kd.R_elder' (uR HO_4.out) (Kd.R_base ho0) hb); have n1_ := Aside0.mk (Kd.R_lower (Kd.R_new' ho0 (Kd.R_lt (uR HO_4.out))) (below_size uB)); have n2_ := Aside0.mk (below_step uB hb); clear HO_4; clear HB; have HO_4 := n0_; have HO521 := n1_; have HB := n2_; clear n0_ n1_ n2_; (try clear hb); (try clear hb2); (try clear hk); (try clear hi); (try clear ho0)))
     go_ret2
     exact ⟨_, eR, by (with_reducible repeat (first | apply Kd.R_alloc | apply Kd.R_drewN | apply Kd.R_drew)); exact Kd.R_mono HO521.out (fun _ hk => trivial), uB⟩
def rank_Inverse.l0 : Nat → List Int → List Int → List Bool → List Int → Int → Int → Option (List Int × Bool)
  | 0, _, _, _, _, _, _ => none
  | k + 1, x0, x4, x5, x14, x15, x16 => if x16 < x15 then (if 0 ≤ x16 then (if x16 < (x14.length : Int) then (if (rd x14 x16) < 0 then (some (([] : List Int), false)) else (if (rd x14 x16) ≥ (x0.length : Int) then (some (([] : List Int), false)) else (if 0 ≤ (rd x14 x16) then (if (rd x14 x16) < (x5.length : Int) then (if rdOf false x5 (rd x14 x16) = true then (some (([] : List Int), false)) else (if (rd x14 x16) < (x4.length : Int) then (rank_Inverse.l0 k x0 (x4.set ((rd x14 x16) : Int).toNat x16) (x5.set ((rd x14 x16) : Int).toNat true) x14 x15 (wrap64 (x16 + 1))) else (none))) else (none)) else (none)))) else (none)) else (none)) else (some (x4, true))
def rank_Inverse.f (k : Nat) (l0 : List Int) : Option (List Int × Bool) := if 0 ≤ (l0.length : Int) then (if ((l0.length : Int) : Int).toNat ≤ 35184372088832 then (if ((l0.length : Int) : Int).toNat ≤ 281474976710656 then (rank_Inverse.l0 k l0 (List.replicate ((l0.length : Int) : Int).toNat 0) (List.replicate ((l0.length : Int) : Int).toNat false) l0 (l0.length : Int) 0) else (none)) else (none)) else (none)
theorem rank_Inverse.mono_l : ∀ k, (∀ y0 y1 y2 y3 y4 y5, LeO (rank_Inverse.l0 k y0 y1 y2 y3 y4 y5) (rank_Inverse.l0 (k + 1) y0 y1 y2 y3 y4 y5))
  | 0 => fun _ _ _ _ _ _ r h => by simp [rank_Inverse.l0] at h
  | k + 1 => by
    have ih0 := rank_Inverse.mono_l k
    · intro y0 y1 y2 y3 y4 y5
      unfold rank_Inverse.l0
      exact mB
theorem rank_Inverse.mono : ∀ a0 k, LeO (rank_Inverse.f k a0) (rank_Inverse.f (k + 1) a0) := by
  intro a0 k
  have ih0 := rank_Inverse.mono_l k
  unfold rank_Inverse.f
  exact mB
set_option maxHeartbeats 8000000 in
set_option maxRecDepth 100000 in
theorem rank_Inverse.calls (k : Nat) (A0 : Option Addr) (c0 : Nat) (l0 : List Int) (r1 : List Int) (r2 : Bool) (w : World) (hr0 : Kd.C (Kd.int .i64) w A0 l0.length l0) (hc0 : l0.length ≤ c0) (h : rank_Inverse.f k l0 = some (r1, r2)) :
    Calls Tryz.prog 72 #[.slice A0 l0.length c0] w fun e w' => ∃ v0_ : Value, e = .returned (.tuple #[v0_, .bool r2]) ∧ Kd.R (Kd.int .i64) 3 w' w.heap.size (fun _ => True) v0_ r1 ∧ Below w.heap.size w w' := by
 have HR0 := Aside0.mk hr0
 have HC0 := Aside0.mk hc0
 clear hr0 hc0
 have HB := Aside0.mk (Below.refl w.heap.size w)
 have H := h
 clear h
 unfold rank_Inverse.f at H
 obtain ⟨c2b0, c2b1, H⟩ := ifE H
 obtain ⟨c3b0, c3b1, H⟩ := ifE H
 generalize hy522 : (List.replicate ((l0.length : Int) : Int).toNat 0 : List Int) = y522 at H
 try simp only [Option.bind_some] at H
 have Ny522 := Aside0.mk hy522.symm
 clear hy522
 obtain ⟨c4b0, c4b1, H⟩ := ifE H
 generalize hy525 : (List.replicate ((l0.length : Int) : Int).toNat false : List Bool) = y525 at H
 try simp only [Option.bind_some] at H
 have Ny525 := Aside0.mk hy525.symm
 clear hy525
 have H' := Aside0.mk H
 clear H
 go_enter Tryz.func72, Tryz.ntmps72
 go_wp2_with (first | ((with_reducible refine gate_dst (N := 10) rfl ?_); (try (refine gate_guard (by rfl) ?_; dsimp only)); refine Kd.R_make (Kd.int .i64) _ 3 rfl (N := 10) rfl 29 _ _ rfl (l0.length : Int) rfl rfl Tryz.underlying29 (.int .i64 0) 8 info3 rfl (by decide) (by omega) 0 (ok := fun _ => True) (okp := fun _ => True) rfl (fun _ hk => hk) trivial dT (Nat.le_trans (Nat.mul_le_mul_right _ (dT : (l0.length : Int).toNat ≤ 35184372088832)) (by omega)) (Below.refl _ _) (Nat.le_refl _) ?_; intro v523 w5 ho6 hb hg_ hnew_; clear hg_ hnew_; (first | rw [← Ny522.out] at ho6 | (simp only [Int.reduceToNat] at ho6; rw [← Ny522.out] at ho6)); have n0_ := Aside0.mk (Kd.R_lower ho6 (below_size uB)); have n1_ := Aside0.mk (below_step uB hb); clear HB; have HO524 := n0_; have HB := n1_; clear n0_ n1_; clear hb ho6) | ((with_reducible refine gate_dst (N := 13) rfl ?_); (try (refine gate_guard (by rfl) ?_; dsimp only)); refine Kd.R_make Kd.bool _ 4 rfl (N := 13) rfl 122 _ _ rfl (l0.length : Int) rfl rfl Tryz.underlying122 (.bool false) 1 info4 rfl (by decide) (by omega) false (ok := fun _ => True) (okp := fun _ => True) rfl (fun _ hk => hk) trivial dT (Nat.le_trans (Nat.mul_le_mul_right _ (dT : (l0.length : Int).toNat ≤ 281474976710656)) (by omega)) (Below.refl _ _) (Nat.le_refl _) ?_; intro v526 w7 ho8 hb hg_ hnew_; clear hg_ hnew_; (first | rw [← Ny525.out] at ho8 | (simp only [Int.reduceToNat] at ho8; rw [← Ny525.out] at ho8)); have n0_ := Aside0.mk (Kd.R_below (uR HO524.out) hb); have n1_ := Aside0.mk (Kd.R_lower ho8 (below_size uB)); have n2_ := Aside0.mk (below_step uB hb); clear HO524; clear HB; have HO524 := n0_; have HO527 := n1_; have HB := n2_; clear n0_ n1_ n2_; clear hb ho8))
 go_loopg [16] k (fun kq v16 w' => ∃ (x4_1 : List Int) (x5_1 : List Bool) (x16_1 : Int), v16 = .int .i64 x16_1 ∧ Aside0 (rank_Inverse.l0 kq l0 x4_1 x5_1 l0 (l0.length : Int) x16_1 = some (r1, r2)) ∧ Aside0 (kq ≤ k) ∧ Aside0 (Kd.R (Kd.int .i64) 3 w' w.heap.size (fun _ => True) v523 x4_1) ∧ Aside0 (Kd.R Kd.bool 4 w' w.heap.size (fun _ => True) v526 x5_1) ∧ Aside0 (Below w.heap.size w w'))
 case atStart => exact ⟨(y522), (y525), (0), sD, H', ⟨Nat.le_refl _⟩, ⟨uR HO524.out⟩, ⟨uR HO527.out⟩, ⟨uB⟩⟩
 case round =>
  clear H'
  try clear c2
  try clear c2b0
  try clear c2b1
  try clear p2
  try clear c3
  try clear c3b0
  try clear c3b1
  try clear c4
  try clear c4b0
  try clear c4b1
  try clear c7
  obtain ⟨x4_1, x5_1, x16_1, rfl, HA, HK1, HO_4, HO_5, HB⟩ := hrel
  cases gk with
  | zero => exact absurd HA.out (by simp [rank_Inverse.l0])
  | succ k1 =>
   have H := HA.out
   clear HA
   simp only [rank_Inverse.l0] at H
   rcases ifC H with ⟨c9b0, H⟩ | ⟨c9b0, H⟩
   ·obtain ⟨c10b0, c11b0, H⟩ := ifD2 H
    rcases ifC H with ⟨c12b0, H⟩ | ⟨c12b0, H⟩
    ·simp only [Option.some.injEq, Prod.mk.injEq] at H
     obtain ⟨rfl, rfl⟩ := H
     obtain ⟨ad528, e528, hx528_0, p528, q528⟩ := rIO HB.out HR0.out x16_1
     cases e528
     go_wp2
     go_ret2
     exact ⟨_, eR, nL, uB⟩
    ·rcases ifG H with ⟨c13b0, H⟩ | ⟨c13b0, H⟩
     ·simp only [Option.some.injEq, Prod.mk.injEq] at H
      obtain ⟨rfl, rfl⟩ := H
      obtain ⟨ad528, e528, hx528_0, p528, q528⟩ := rIO HB.out HR0.out x16_1
      cases e528
      go_wp2
      go_ret2
      exact ⟨_, eR, nL, uB⟩
     ·obtain ⟨c14b0, c15b0, H⟩ := ifD2 H
      obtain ⟨bq16, hbq16⟩ : ∃ b_ : Bool, b_ = (rdOf false x5_1 (rd l0 x16_1)) := ⟨_, rfl⟩
      replace H : (if bq16 = true then (some (([] : List Int), false)) else (if (rd l0 x16_1) < (x4_1.length : Int) then (rank_Inverse.l0 k1 l0 (x4_1.set ((rd l0 x16_1) : Int).toNat x16_1) (x5_1.set ((rd l0 x16_1) : Int).toNat true) l0 (l0.length : Int) (wrap64 (x16_1 + 1))) else (none))) = some (r1, r2) := by rw [← hbq16] at H; exact H
      have Nbq16 := Aside0.mk hbq16
      clear hbq16
      by_cases c17 : bq16 = true
      ·subst c17
       rw [if_pos rfl] at H
       simp only [Option.some.injEq, Prod.mk.injEq] at H
       obtain ⟨rfl, rfl⟩ := H
       obtain ⟨ad528, e528, hx528_0, p528, q528⟩ := rIO HB.out HR0.out x16_1
       cases e528
       obtain ⟨Ao18, co18, eo18⟩ := Kd.R_slice HO_5.out
       subst eo18
       have p529 : 0 ≤ ((rd l0 x16_1) : Int) := dT
       have q529 : (rd l0 x16_1) < (x5_1.length : Int) := dT
       obtain ⟨ad529, e529, hx529_0⟩ := Kd.at_bool (Kd.R_reads' HO_5.out).2.2 (rd l0 x16_1) p529 q529
       (try rw [← Nbq16.out] at hx529_0)
       cases e529
       replace p529 := eq_true p529
       replace q529 := eq_true q529
       go_wp2
       go_ret2
       exact ⟨_, eR, nL, uB⟩
      ·replace c17 := Bool.eq_false_iff.mpr c17
       subst c17
       rw [if_neg (by decide)] at H
       obtain ⟨c19b0, H⟩ := ifD H
       generalize hy530 : (x4_1.set ((rd l0 x16_1) : Int).toNat x16_1 : List Int) = y530 at H
       try simp only [Option.bind_some] at H
       have Ny530 := Aside0.mk hy530.symm
       clear hy530
       generalize hy531 : (x5_1.set ((rd l0 x16_1) : Int).toNat true : List Bool) = y531 at H
       try simp only [Option.bind_some] at H
       have Ny531 := Aside0.mk hy531.symm
       clear hy531
       have H' := Aside0.mk H
       clear H
       obtain ⟨ad528, e528, hx528_0, p528, q528⟩ := rIO HB.out HR0.out x16_1
       cases e528
       obtain ⟨Ao22, co22, eo22⟩ := Kd.R_slice HO_5.out
       subst eo22
       have p529 : 0 ≤ ((rd l0 x16_1) : Int) := dT
       have q529 : (rd l0 x16_1) < (x5_1.length : Int) := dT
       obtain ⟨ad529, e529, hx529_0⟩ := Kd.at_bool (Kd.R_reads' HO_5.out).2.2 (rd l0 x16_1) p529 q529
       (try rw [← Nbq16.out] at hx529_0)
       cases e529
       replace p529 := eq_true p529
       replace q529 := eq_true q529
       have p20 : 0 ≤ ((rd l0 x16_1) : Int) := dT
       have q20 : ((rd l0 x16_1) : Int) < ((x4_1.length : Int) : Int) := dT
       obtain ⟨go20, co20, eo20, gb20, gl20, cl20, HG20⟩ := Kd.R_form HO_4.out (by omega)
       (first | cases eo20 | (injection eo20 with ea_ en_ ec_; (first | subst ea_ | (injection ea_ with ea_; subst ea_)); subst ec_; clear en_))
       have GB20 := Aside0.mk gb20
       have GG20 := Aside0.mk HG20
       clear gb20 gl20 HG20
       obtain ⟨hx20_0, hf20_0⟩ := Kd.R_celln 0 HO_4.out ((rd l0 x16_1) : Int) p20 q20
       replace p20 := eq_true p20
       replace q20 := eq_true q20
       have HP23 := Kd.R_putg HO_4.out ((rd l0 x16_1) : Int) x16_1
       go_wp2_with (first | ((with_reducible refine gate_store (t := 3) (p := 40) rfl ?_); refine store_event (t := 3) (p := 40) (v := ?vo_w24) (w1 := (wr.setCell ⟨go20, ((rd l0 x16_1) : Int).toNat, none⟩ (.int .i64 x16_1))) ?hg ?ho ?hn ?hr ?_; (case ho => rfl); (case hg => rfl); (case hn => rfl); (case hr => first | (go_simp; done) | (go_simp; rfl)); intro w24 hw; have hg : wr.grownBy w24 (some go20) := (by rw [hw]; exact HP23.2); have hp_ : Kd.R (Kd.int .i64) 3 w24 w.heap.size (fun _ => True) (.slice (some ⟨go20, 0, none⟩) x4_1.length co20) y530 := (by rw [hw, Ny530.out]; exact HP23.1); clear HP23; have n0_ := Aside0.mk (hp_); have n1_ := Aside0.mk (Kd.R_over' (v := (.slice (some ⟨go20, 0, none⟩) x4_1.length co20)) (uR HO_5.out) (Kd.R_typed HO_4.out) (by decide) hg); have n2_ := Aside0.mk ((by rw [hw]; exact below_set (HB.out) GB20.out : Below w.heap.size w w24)); clear HO_4; clear HO_5; clear HB; have HO_4 := n0_; have HO_5 := n1_; have HB := n2_; clear n0_ n1_ n2_; clear hg hw hp_; have p21 : 0 ≤ ((rd l0 x16_1) : Int) := dT; have q21 : ((rd l0 x16_1) : Int) < ((x5_1.length : Int) : Int) := dT; obtain ⟨go21, co21, eo21, gb21, gl21, cl21, HG21⟩ := Kd.R_form HO_5.out (by omega); (first | cases eo21 | (injection eo21 with ea_ en_ ec_; (first | subst ea_ | (injection ea_ with ea_; subst ea_)); subst ec_; clear en_)); have GB21 := Aside0.mk gb21; have GG21 := Aside0.mk HG21; clear gb21 gl21 HG21; (first | simp only [add_plain] at hx529_0 | skip); obtain ⟨hx21_0, hf21_0⟩ := Kd.R_celln false HO_5.out ((rd l0 x16_1) : Int) p21 q21; replace p21 := eq_true p21; replace q21 := eq_true q21; obtain ⟨hy25_, hz25_⟩ := Kd.R_celln false HO_5.out ((rd l0 x16_1) : Int) dT dT; have HP25 := Kd.R_putg HO_5.out ((rd l0 x16_1) : Int) true) | ((with_reducible refine gate_store (t := 4) (p := 41) rfl ?_); refine store_event (t := 4) (p := 41) (v := ?vo_w26) (w1 := (w24.setCell ⟨go21, ((rd l0 x16_1) : Int).toNat, none⟩ (.bool true))) ?hg ?ho ?hn ?hr ?_; (case ho => rfl); (case hg => rfl); (case hn => rfl); (case hr => first | (go_simp; done) | (go_simp; rfl)); intro w26 hw; have hg : w24.grownBy w26 (some go21) := (by rw [hw]; exact HP25.2); have hp_ : Kd.R Kd.bool 4 w26 w.heap.size (fun _ => True) (.slice (some ⟨go21, 0, none⟩) x5_1.length co22) y531 := (by rw [hw, Ny531.out]; exact HP25.1); clear HP25; have n0_ := Aside0.mk (Kd.R_over' (v := (.slice (some ⟨go21, 0, none⟩) x5_1.length co22)) (uR HO_4.out) (Kd.R_typed HO_5.out) (by decide) hg); have n1_ := Aside0.mk (hp_); have n2_ := Aside0.mk ((by rw [hw]; exact below_set (HB.out) GB21.out : Below w.heap.size w w26)); clear HO_4; clear HO_5; clear HB; have HO_4 := n0_; have HO_5 := n1_; have HB := n2_; clear n0_ n1_ n2_; clear hg hw hp_))
       go_roundg k1
       case measure => have := HK1.out; omega
       case rel => exact ⟨(y530), (y531), (wrap64 (x16_1 + 1)), sD, H', ⟨by have := HK1.out; omega⟩, ⟨uR HO_4.out⟩, ⟨uR HO_5.out⟩, ⟨uB⟩⟩
   ·simp only [Option.some.injEq, Prod.mk.injEq] at H
    obtain ⟨rfl, rfl⟩ := H
    go_wp2
    go_ret2
    exact ⟨_, eR, uR HO_4.out, uB⟩
end Go.Proofs.YtbbpplnnegdenaaGreat.PTopPipe
end
section
namespace Go.Proofs.YtbbpplnnegdenaaGreat.PTopPipe
open Go.RowKit Go.Proofs.YtbbpplnnegdenaaGreatW.PrintWords Go.Proofs.YtbbpplnnegdenaaGreatW.PrintLast Go.Proofs.YtbbpplnnegdenaaGreatW.PrintMore
attribute [local go_sem] max2_int min2_int max_two min_two max_three min_three max_four min_four
set_option linter.unusedVariables false
set_option linter.unusedSimpArgs false
def kasai_behind.f (l0 : List Int) (a1 : Int) : Option (Int) := if (wrap64 (a1 + 1)) = (l0.length : Int) then (some (-1)) else (if 0 ≤ (wrap64 (a1 + 1)) then (if (wrap64 (a1 + 1)) < (l0.length : Int) then (some (rd l0 (wrap64 (a1 + 1)))) else (none)) else (none))
set_option maxHeartbeats 8000000 in
set_option maxRecDepth 100000 in
theorem kasai_behind.calls (A0 : Option Addr) (c0 : Nat) (l0 : List Int) (a1 : Int) (r : Int) (w : World) (hr0 : Kd.C (Kd.int .i64) w A0 l0.length l0) (hc0 : l0.length ≤ c0) (h : kasai_behind.f l0 a1 = some r) :
    Calls Tryz.prog 97 #[.slice A0 l0.length c0, .int .i64 a1] w fun e w' => e = .returned (.int .i64 r) ∧ Drawn0 w w' := by
 have HR0 := Aside0.mk hr0
 have HC0 := Aside0.mk hc0
 clear hr0 hc0
 have H := h
 clear h
 unfold kasai_behind.f at H
 by_cases c3 : (wrap64 (a1 + 1)) = (l0.length : Int)
 ·rw [if_pos c3] at H
  have c3b0 : ((wrap64 (a1 + 1)) == (l0.length : Int)) = true := beq_iff_eq.mpr c3
  have c3b1 : ((wrap64 (a1 + 1)) != (l0.length : Int)) = false := bne_eq_false_iff_eq.mpr c3
  clear c3
  obtain rfl := Option.some.inj H
  go_enter Tryz.func97, Tryz.ntmps97
  go_wp2
  go_ret
  exact ⟨sD, dD⟩
 ·rw [if_neg c3] at H
  have c3b0 : ((wrap64 (a1 + 1)) == (l0.length : Int)) = false := beq_eq_false_iff_ne.mpr c3
  have c3b1 : ((wrap64 (a1 + 1)) != (l0.length : Int)) = true := bne_iff_ne.mpr c3
  obtain ⟨ji4, hji4⟩ : ∃ j_ : Int, (wrap64 (a1 + 1)) = j_ := ⟨_, rfl⟩
  first | rw [hji4] at H | simp only [hji4] at H
  (try rw [hji4] at c3b0)
  (try rw [hji4] at c3b1)
  have hji4w : (IntKind.i64.wrap (a1 + 1)) = ji4 := (i64_w _).trans hji4
  obtain ⟨c5b0, c6b0, H⟩ := ifD2 H
  obtain rfl := Option.some.inj H
  obtain ⟨ad532, e532, hx532_0, p532, q532⟩ := rI HR0.out (ji4)
  cases e532
  go_enter Tryz.func97, Tryz.ntmps97
  go_wp2
  go_ret
  exact ⟨by first | rfl | (simp; done) | (simp only [← hji4] <;> (first | rfl | simp)) | (simp [*]; done), dD⟩
def kasai_ordered.l0 : Nat → List Int → List Int → List Int → Int → Option (Bool)
  | 0, _, _, _, _ => none
  | k + 1, x0, x1, x2, x7 => if x7 < (x1.length : Int) then (if 0 ≤ (wrap64 (x7 - 1)) then (if (wrap64 (x7 - 1)) < (x1.length : Int) then (if 0 ≤ x7 then (if 0 ≤ (rd x1 (wrap64 (x7 - 1))) then (if (rd x1 (wrap64 (x7 - 1))) < (x0.length : Int) then (if 0 ≤ (rd x1 x7) then (if (rd x1 x7) < (x0.length : Int) then (if (rd x0 (rd x1 (wrap64 (x7 - 1)))) > (rd x0 (rd x1 x7)) then (some false) else (if (rd x0 (rd x1 (wrap64 (x7 - 1)))) = (rd x0 (rd x1 x7)) then ((kasai_behind.f x2 (rd x1 (wrap64 (x7 - 1)))).bind fun t539 => ((kasai_behind.f x2 (rd x1 x7)).bind fun t540 => (if t539 > t540 then (some false) else (kasai_ordered.l0 k x0 x1 x2 (wrap64 (x7 + 1)))))) else (kasai_ordered.l0 k x0 x1 x2 (wrap64 (x7 + 1))))) else (none)) else (none)) else (none)) else (none)) else (none)) else (none)) else (none)) else (some true)
def kasai_ordered.f (k : Nat) (l0 : List Int) (l1 : List Int) (l2 : List Int) : Option (Bool) := kasai_ordered.l0 k l0 l1 l2 1
theorem kasai_ordered.mono_l : ∀ k, (∀ y0 y1 y2 y3, LeO (kasai_ordered.l0 k y0 y1 y2 y3) (kasai_ordered.l0 (k + 1) y0 y1 y2 y3))
  | 0 => fun _ _ _ _ r h => by simp [kasai_ordered.l0] at h
  | k + 1 => by
    have ih0 := kasai_ordered.mono_l k
    · intro y0 y1 y2 y3
      unfold kasai_ordered.l0
      exact mB
theorem kasai_ordered.mono : ∀ a0 a1 a2 k, LeO (kasai_ordered.f k a0 a1 a2) (kasai_ordered.f (k + 1) a0 a1 a2) := by
  intro a0 a1 a2 k
  have ih0 := kasai_ordered.mono_l k
  unfold kasai_ordered.f
  exact mB
set_option maxHeartbeats 8000000 in
set_option maxRecDepth 100000 in
theorem kasai_ordered.calls (k : Nat) (A0 : Option Addr) (c0 : Nat) (l0 : List Int) (A1 : Option Addr) (c1 : Nat) (l1 : List Int) (A2 : Option Addr) (c2 : Nat) (l2 : List Int) (r : Bool) (w : World) (hr0 : Kd.C (Kd.int .u8) w A0 l0.length l0) (hc0 : l0.length ≤ c0) (hr1 : Kd.C (Kd.int .i64) w A1 l1.length l1) (hc1 : l1.length ≤ c1) (hr2 : Kd.C (Kd.int .i64) w A2 l2.length l2) (hc2 : l2.length ≤ c2) (h : kasai_ordered.f k l0 l1 l2 = some r) :
    Calls Tryz.prog 80 #[.slice A0 l0.length c0, .slice A1 l1.length c1, .slice A2 l2.length c2] w fun e w' => e = .returned (.bool r) ∧ Drawn0 w w' := by
 have HR0 := Aside0.mk hr0
 have HC0 := Aside0.mk hc0
 clear hr0 hc0
 have HR1 := Aside0.mk hr1
 have HC1 := Aside0.mk hc1
 clear hr1 hc1
 have HR2 := Aside0.mk hr2
 have HC2 := Aside0.mk hc2
 clear hr2 hc2
 have H := h
 clear h
 unfold kasai_ordered.f at H
 have H' := Aside0.mk H
 clear H
 go_enter Tryz.func80, Tryz.ntmps80
 go_wp2
 repeat (go_quiet (fail); try go_wp2)
 go_loopg [7] k (fun kq v7 w' => ∃ (x7_1 : Int), v7 = .int .i64 x7_1 ∧ Aside0 (kasai_ordered.l0 kq l0 l1 l2 x7_1 = some r) ∧ Aside0 (kq ≤ k) ∧ Drawn0 w w')
 case atStart => exact ⟨(1), sD, H', ⟨Nat.le_refl _⟩, dD⟩
 case round =>
  clear H'
  try clear c1
  try clear c2
  try clear p2
  obtain ⟨x7_1, rfl, HA, HK1, ⟨m1, rfl⟩⟩ := hrel
  cases gk with
  | zero => exact absurd HA.out (by simp [kasai_ordered.l0])
  | succ k1 =>
   have H := HA.out
   clear HA
   simp only [kasai_ordered.l0] at H
   rcases ifC H with ⟨c4b0, H⟩ | ⟨c4b0, H⟩
   ·obtain ⟨ji5, hji5⟩ : ∃ j_ : Int, (wrap64 (x7_1 - 1)) = j_ := ⟨_, rfl⟩
    first | rw [hji5] at H | simp only [hji5] at H
    have hji5w : (IntKind.i64.wrap (x7_1 - 1)) = ji5 := (i64_w _).trans hji5
    obtain ⟨c6b0, H⟩ := ifD H
    obtain ⟨c7b0, c8b0, H⟩ := ifD2 H
    obtain ⟨c9b0, c10b0, H⟩ := ifD2 H
    obtain ⟨c11b0, c12b0, H⟩ := ifD2 H
    rcases ifK H with ⟨c13b0, H⟩ | ⟨c13b0, H⟩
    ·obtain rfl := Option.some.inj H
     obtain ⟨ad533, e533, hx533_0, p533, q533⟩ := rI HR1.out (ji5)
     cases e533
     obtain ⟨ad534, e534, hx534_0, p534, q534⟩ := rI HR1.out x7_1
     obtain rfl : ad533 = ad534 := (by injection e534)
     obtain ⟨ad535, e535, hx535_0, p535, q535⟩ := rI HR0.out (rd l1 (ji5))
     cases e535
     obtain ⟨ad536, e536, hx536_0, p536, q536⟩ := rI HR0.out (rd l1 x7_1)
     obtain rfl : ad535 = ad536 := (by injection e536)
     go_wp2
     repeat (go_quiet (fail); try go_wp2)
     go_ret
     exact ⟨by first | rfl | (simp; done) | (simp only [← hji5] <;> (first | rfl | simp)) | (simp [*]; done), dD⟩
    ·by_cases c14 : (rd l0 (rd l1 (ji5))) = (rd l0 (rd l1 x7_1))
     ·rw [if_pos c14] at H
      have c14b0 : ((rd l0 (rd l1 (ji5))) == (rd l0 (rd l1 x7_1))) = true := beq_iff_eq.mpr c14
      have c14b1 : ((rd l0 (rd l1 (ji5))) != (rd l0 (rd l1 x7_1))) = false := bne_eq_false_iff_eq.mpr c14
      clear c14
      obtain ⟨t539, A15, H⟩ := bdS H
      try dsimp only at H
      obtain ⟨t540, A16, H⟩ := bdS H
      try dsimp only at H
      rcases ifK H with ⟨c17b0, H⟩ | ⟨c17b0, H⟩
      ·obtain rfl := Option.some.inj H
       obtain ⟨ad533, e533, hx533_0, p533, q533⟩ := rI HR1.out (ji5)
       cases e533
       obtain ⟨ad534, e534, hx534_0, p534, q534⟩ := rI HR1.out x7_1
       obtain rfl : ad533 = ad534 := (by injection e534)
       obtain ⟨ad535, e535, hx535_0, p535, q535⟩ := rI HR0.out (rd l1 (ji5))
       cases e535
       obtain ⟨ad536, e536, hx536_0, p536, q536⟩ := rI HR0.out (rd l1 x7_1)
       obtain rfl : ad535 = ad536 := (by injection e536)
       obtain ⟨ad537, e537, hx537_0, p537, q537⟩ := rI HR0.out (rd l1 (ji5))
       obtain rfl : ad535 = ad537 := (by injection e537)
       obtain ⟨ad538, e538, hx538_0, p538, q538⟩ := rI HR0.out (rd l1 x7_1)
       obtain rfl : ad535 = ad538 := (by injection e538)
       go_wp2_with (first | (go_at_call 97; (with_reducible refine (kasai_behind.calls _ _ l2 (rd l1 (ji5)) t539 _ ?side1 ?side2 A15.out).mono ?_); (case side1 => exact uC HR2.out); (case side2 => exact HC2.out); rintro e w' ⟨rfl, ⟨nd, rfl⟩⟩; (try first | exact ⟨rfl, _, World.drewN_drewN _ _ _⟩ | exact ⟨rfl, _, Eq.trans (World.drewN_drewN _ _ _) (congrArg (World.drewN _) (Nat.add_assoc _ _ _))⟩)) | (go_at_call 97; (with_reducible refine (kasai_behind.calls _ _ l2 (rd l1 x7_1) t540 _ ?side1 ?side2 A16.out).mono ?_); (case side1 => exact uC HR2.out); (case side2 => exact HC2.out); rintro e w' ⟨rfl, ⟨nd, rfl⟩⟩; (try first | exact ⟨rfl, _, World.drewN_drewN _ _ _⟩ | exact ⟨rfl, _, Eq.trans (World.drewN_drewN _ _ _) (congrArg (World.drewN _) (Nat.add_assoc _ _ _))⟩)))
       repeat (go_quiet (first | (go_at_call 97; (with_reducible refine (kasai_behind.calls _ _ l2 (rd l1 (ji5)) t539 _ ?side1 ?side2 A15.out).mono ?_); (case side1 => exact uC HR2.out); (case side2 => exact HC2.out); rintro e w' ⟨rfl, ⟨nd, rfl⟩⟩; (try first | exact ⟨rfl, _, World.drewN_drewN _ _ _⟩ | exact ⟨rfl, _, Eq.trans (World.drewN_drewN _ _ _) (congrArg (World.drewN _) (Nat.add_assoc _ _ _))⟩)) | (go_at_call 97; (with_reducible refine (kasai_behind.calls _ _ l2 (rd l1 x7_1) t540 _ ?side1 ?side2 A16.out).mono ?_); (case side1 => exact uC HR2.out); (case side2 => exact HC2.out); rintro e w' ⟨rfl, ⟨nd, rfl⟩⟩; (try first | exact ⟨rfl, _, World.drewN_drewN _ _ _⟩ | exact ⟨rfl, _, Eq.trans (World.drewN_drewN _ _ _) (congrArg (World.drewN _) (Nat.add_assoc _ _ _))⟩))); try go_wp2_with (first | (go_at_call 97; (with_reducible refine (kasai_behind.calls _ _ l2 (rd l1 (ji5)) t539 _ ?side1 ?side2 A15.out).mono ?_); (case side1 => exact uC HR2.out); (case side2 => exact HC2.out); rintro e w' ⟨rfl, ⟨nd, rfl⟩⟩; (try first | exact ⟨rfl, _, World.drewN_drewN _ _ _⟩ | exact ⟨rfl, _, Eq.trans (World.drewN_drewN _ _ _) (congrArg (World.drewN _) (Nat.add_assoc _ _ _))⟩)) | (go_at_call 97; (with_reducible refine (kasai_behind.calls _ _ l2 (rd l1 x7_1) t540 _ ?side1 ?side2 A16.out).mono ?_); (case side1 => exact uC HR2.out); (case side2 => exact HC2.out); rintro e w' ⟨rfl, ⟨nd, rfl⟩⟩; (try first | exact ⟨rfl, _, World.drewN_drewN _ _ _⟩ | exact ⟨rfl, _, Eq.trans (World.drewN_drewN _ _ _) (congrArg (World.drewN _) (Nat.add_assoc _ _ _))⟩))))
       go_ret
       exact ⟨by first | rfl | (simp; done) | (simp only [← hji5] <;> (first | rfl | simp)) | (simp [*]; done), dD⟩
      ·have H' := Aside0.mk H
       clear H
       obtain ⟨ad533, e533, hx533_0, p533, q533⟩ := rI HR1.out (ji5)
       cases e533
       obtain ⟨ad534, e534, hx534_0, p534, q534⟩ := rI HR1.out x7_1
       obtain rfl : ad533 = ad534 := (by injection e534)
       obtain ⟨ad535, e535, hx535_0, p535, q535⟩ := rI HR0.out (rd l1 (ji5))
       cases e535
       obtain ⟨ad536, e536, hx536_0, p536, q536⟩ := rI HR0.out (rd l1 x7_1)
       obtain rfl : ad535 = ad536 := (by injection e536)
       obtain ⟨ad537, e537, hx537_0, p537, q537⟩ := rI HR0.out (rd l1 (ji5))
       obtain rfl : ad535 = ad537 := (by injection e537)
       obtain ⟨ad538, e538, hx538_0, p538, q538⟩ := rI HR0.out (rd l1 x7_1)
       obtain rfl : ad535 = ad538 := (by injection e538)
       go_wp2_with (first | (go_at_call 97; (with_reducible refine (kasai_behind.calls _ _ l2 (rd l1 (ji5)) t539 _ ?side1 ?side2 A15.out).mono ?_); (case side1 => exact uC HR2.out); (case side2 => exact HC2.out); rintro e w' ⟨rfl, ⟨nd, rfl⟩⟩; (try first | exact ⟨rfl, _, World.drewN_drewN _ _ _⟩ | exact ⟨rfl, _, Eq.trans (World.drewN_drewN _ _ _) (congrArg (World.drewN _) (Nat.add_assoc _ _ _))⟩)) | (go_at_call 97; (with_reducible refine (kasai_behind.calls _ _ l2 (rd l1 x7_1) t540 _ ?side1 ?side2 A16.out).mono ?_); (case side1 => exact uC HR2.out); (case side2 => exact HC2.out); rintro e w' ⟨rfl, ⟨nd, rfl⟩⟩; (try first | exact ⟨rfl, _, World.drewN_drewN _ _ _⟩ | exact ⟨rfl, _, Eq.trans (World.drewN_drewN _ _ _) (congrArg (World.drewN _) (Nat.add_assoc _ _ _))⟩)))
       repeat (go_quiet (first | (go_at_call 97; (with_reducible refine (kasai_behind.calls _ _ l2 (rd l1 (ji5)) t539 _ ?side1 ?side2 A15.out).mono ?_); (case side1 => exact uC HR2.out); (case side2 => exact HC2.out); rintro e w' ⟨rfl, ⟨nd, rfl⟩⟩; (try first | exact ⟨rfl, _, World.drewN_drewN _ _ _⟩ | exact ⟨rfl, _, Eq.trans (World.drewN_drewN _ _ _) (congrArg (World.drewN _) (Nat.add_assoc _ _ _))⟩)) | (go_at_call 97; (with_reducible refine (kasai_behind.calls _ _ l2 (rd l1 x7_1) t540 _ ?side1 ?side2 A16.out).mono ?_); (case side1 => exact uC HR2.out); (case side2 => exact HC2.out); rintro e w' ⟨rfl, ⟨nd, rfl⟩⟩; (try first | exact ⟨rfl, _, World.drewN_drewN _ _ _⟩ | exact ⟨rfl, _, Eq.trans (World.drewN_drewN _ _ _) (congrArg (World.drewN _) (Nat.add_assoc _ _ _))⟩))); try go_wp2_with (first | (go_at_call 97; (with_reducible refine (kasai_behind.calls _ _ l2 (rd l1 (ji5)) t539 _ ?side1 ?side2 A15.out).mono ?_); (case side1 => exact uC HR2.out); (case side2 => exact HC2.out); rintro e w' ⟨rfl, ⟨nd, rfl⟩⟩; (try first | exact ⟨rfl, _, World.drewN_drewN _ _ _⟩ | exact ⟨rfl, _, Eq.trans (World.drewN_drewN _ _ _) (congrArg (World.drewN _) (Nat.add_assoc _ _ _))⟩)) | (go_at_call 97; (with_reducible refine (kasai_behind.calls _ _ l2 (rd l1 x7_1) t540 _ ?side1 ?side2 A16.out).mono ?_); (case side1 => exact uC HR2.out); (case side2 => exact HC2.out); rintro e w' ⟨rfl, ⟨nd, rfl⟩⟩; (try first | exact ⟨rfl, _, World.drewN_drewN _ _ _⟩ | exact ⟨rfl, _, Eq.trans (World.drewN_drewN _ _ _) (congrArg (World.drewN _) (Nat.add_assoc _ _ _))⟩))))
       go_roundg k1
       case measure => have := HK1.out; omega
       case rel => exact ⟨(wrap64 (x7_1 + 1)), sD, H', ⟨by have := HK1.out; omega⟩, dD⟩
     ·rw [if_neg c14] at H
      have c14b0 : ((rd l0 (rd l1 (ji5))) == (rd l0 (rd l1 x7_1))) = false := beq_eq_false_iff_ne.mpr c14
      have c14b1 : ((rd l0 (rd l1 (ji5))) != (rd l0 (rd l1 x7_1))) = true := bne_iff_ne.mpr c14
      have H' := Aside0.mk H
      clear H
      obtain ⟨ad533, e533, hx533_0, p533, q533⟩ := rI HR1.out (ji5)
      cases e533
      obtain ⟨ad534, e534, hx534_0, p534, q534⟩ := rI HR1.out x7_1
      obtain rfl : ad533 = ad534 := (by injection e534)
      obtain ⟨ad535, e535, hx535_0, p535, q535⟩ := rI HR0.out (rd l1 (ji5))
      cases e535
      obtain ⟨ad536, e536, hx536_0, p536, q536⟩ := rI HR0.out (rd l1 x7_1)
      obtain rfl : ad535 = ad536 := (by injection e536)
      obtain ⟨ad537, e537, hx537_0, p537, q537⟩ := rI HR0.out (rd l1 (ji5))
      obtain rfl : ad535 = ad537 := (by injection e537)
      obtain ⟨ad538, e538, hx538_0, p538, q538⟩ := rI HR0.out (rd l1 x7_1)
      obtain rfl : ad535 = ad538 := (by injection e538)
      go_wp2
      repeat (go_quiet (fail); try go_wp2)
      go_roundg k1
      case measure => have := HK1.out; omega
      case rel => exact ⟨(wrap64 (x7_1 + 1)), sD, H', ⟨by have := HK1.out; omega⟩, dD⟩
   ·obtain rfl := Option.some.inj H
    go_wp2
    repeat (go_quiet (fail); try go_wp2)
    go_ret
    exact ⟨sD, dD⟩
mutual
def kasai_quick.l0 : Nat → List Int → List Int → List Int → Int → List Int → Int → Int → Option (List Int)
  | 0, _, _, _, _, _, _, _ => none
  | k + 1, x0, x1, x7, x8, x15, x16, x17 => if x17 < x16 then (if 0 ≤ x17 then (if x17 < (x15.length : Int) then (if (rd x15 x17) = 0 then (kasai_quick.l0 k x0 x1 x7 0 x15 x16 (wrap64 (x17 + 1))) else (if 0 ≤ (wrap64 ((rd x15 x17) - 1)) then (if (wrap64 ((rd x15 x17) - 1)) < (x1.length : Int) then (kasai_quick.l1 k x0 x1 x7 x8 x17 (rd x15 x17) (rd x1 (wrap64 ((rd x15 x17) - 1))) x15 x16 x17) else (none)) else (none))) else (none)) else (none)) else (some x7)
def kasai_quick.l1 : Nat → List Int → List Int → List Int → Int → Int → Int → Int → List Int → Int → Int → Option (List Int)
  | 0, _, _, _, _, _, _, _, _, _, _ => none
  | k + 1, x0, x1, x7, x8, x9, x10, x11, x15, x16, x17 => if (wrap64 ((mx x9 x11) + x8)) < (x0.length : Int) then (if 0 ≤ (wrap64 (x9 + x8)) then (if (wrap64 (x9 + x8)) < (x0.length : Int) then (if 0 ≤ (wrap64 (x11 + x8)) then (if (wrap64 (x11 + x8)) < (x0.length : Int) then (if (rd x0 (wrap64 (x9 + x8))) = (rd x0 (wrap64 (x11 + x8))) then (kasai_quick.l1 k x0 x1 x7 (wrap64 (x8 + 1)) x9 x10 x11 x15 x16 x17) else (if 0 ≤ x10 then (if x10 < (x7.length : Int) then (kasai_quick.l0 k x0 x1 (x7.set (x10 : Int).toNat x8) (mx (wrap64 (x8 - 1)) 0) x15 x16 (wrap64 (x17 + 1))) else (none)) else (none))) else (none)) else (none)) else (none)) else (none)) else (if 0 ≤ x10 then (if x10 < (x7.length : Int) then (kasai_quick.l0 k x0 x1 (x7.set (x10 : Int).toNat x8) (mx (wrap64 (x8 - 1)) 0) x15 x16 (wrap64 (x17 + 1))) else (none)) else (none))
end
def kasai_quick.f (k : Nat) (l0 : List Int) (l1 : List Int) (l2 : List Int) : Option (List Int) := if 0 ≤ (l1.length : Int) then (if ((l1.length : Int) : Int).toNat ≤ 35184372088832 then (kasai_quick.l0 k l0 l1 (List.replicate ((l1.length : Int) : Int).toNat 0) 0 l2 (l2.length : Int) 0) else (none)) else (none)
theorem kasai_quick.mono_l : ∀ k, (∀ y0 y1 y2 y3 y4 y5 y6, LeO (kasai_quick.l0 k y0 y1 y2 y3 y4 y5 y6) (kasai_quick.l0 (k + 1) y0 y1 y2 y3 y4 y5 y6)) ∧ (∀ y0 y1 y2 y3 y4 y5 y6 y7 y8 y9, LeO (kasai_quick.l1 k y0 y1 y2 y3 y4 y5 y6 y7 y8 y9) (kasai_quick.l1 (k + 1) y0 y1 y2 y3 y4 y5 y6 y7 y8 y9))
  | 0 => ⟨fun _ _ _ _ _ _ _ r h => by simp [kasai_quick.l0] at h, fun _ _ _ _ _ _ _ _ _ _ r h => by simp [kasai_quick.l1] at h⟩
  | k + 1 => by
    obtain ⟨ih0, ih1⟩ := kasai_quick.mono_l k
    refine ⟨?_, ?_⟩
    · intro y0 y1 y2 y3 y4 y5 y6
      unfold kasai_quick.l0
      exact mB
    · intro y0 y1 y2 y3 y4 y5 y6 y7 y8 y9
      unfold kasai_quick.l1
      exact mB
theorem kasai_quick.mono : ∀ a0 a1 a2 k, LeO (kasai_quick.f k a0 a1 a2) (kasai_quick.f (k + 1) a0 a1 a2) := by
  intro a0 a1 a2 k
  obtain ⟨ih0, ih1⟩ := kasai_quick.mono_l k
  unfold kasai_quick.f
  exact mB
set_option maxHeartbeats 8000000 in
set_option maxRecDepth 100000 in
theorem kasai_quick.calls (k : Nat) (A0 : Option Addr) (c0 : Nat) (l0 : List Int) (A1 : Option Addr) (c1 : Nat) (l1 : List Int) (A2 : Option Addr) (c2 : Nat) (l2 : List Int) (r : List Int) (w : World) (hr0 : Kd.C (Kd.int .u8) w A0 l0.length l0) (hc0 : l0.length ≤ c0) (hr1 : Kd.C (Kd.int .i64) w A1 l1.length l1) (hc1 : l1.length ≤ c1) (hr2 : Kd.C (Kd.int .i64) w A2 l2.length l2) (hc2 : l2.length ≤ c2) (h : kasai_quick.f k l0 l1 l2 = some r) :
    Calls Tryz.prog 81 #[.slice A0 l0.length c0, .slice A1 l1.length c1, .slice A2 l2.length c2] w fun e w' => ∃ v0_ : Value, e = .returned (v0_) ∧ Kd.R (Kd.int .i64) 3 w' w.heap.size (fun _ => True) v0_ r ∧ Below w.heap.size w w' := by
 have HR0 := Aside0.mk hr0
 have HC0 := Aside0.mk hc0
 clear hr0 hc0
 have HR1 := Aside0.mk hr1
 have HC1 := Aside0.mk hc1
 clear hr1 hc1
 have HR2 := Aside0.mk hr2
 have HC2 := Aside0.mk hc2
 clear hr2 hc2
 have HB := Aside0.mk (Below.refl w.heap.size w)
 have H := h
 clear h
 unfold kasai_quick.f at H
 obtain ⟨c4b0, c4b1, H⟩ := ifE H
 obtain ⟨c5b0, c5b1, H⟩ := ifE H
 generalize hy541 : (List.replicate ((l1.length : Int) : Int).toNat 0 : List Int) = y541 at H
 try simp only [Option.bind_some] at H
 have Ny541 := Aside0.mk hy541.symm
 clear hy541
 have H' := Aside0.mk H
 clear H
 go_enter Tryz.func81, Tryz.ntmps81
 go_wp2_with (first | ((with_reducible refine gate_dst (N := 14) rfl ?_); refine Kd.R_make (Kd.int .i64) _ 3 rfl (N := 14) rfl 29 _ _ rfl (l1.length : Int) rfl rfl Tryz.underlying29 (.int .i64 0) 8 info3 rfl (by decide) (by omega) 0 (ok := fun _ => True) (okp := fun _ => True) rfl (fun _ hk => hk) trivial dT (Nat.le_trans (Nat.mul_le_mul_right _ (dT : (l1.length : Int).toNat ≤ 35184372088832)) (by omega)) (Below.refl _ _) (Nat.le_refl _) ?_; intro v542 w6 ho7 hb hg_ hnew_; clear hg_ hnew_; (first | rw [← Ny541.out] at ho7 | (simp only [Int.reduceToNat] at ho7; rw [← Ny541.out] at ho7)); have n0_ := Aside0.mk (Kd.R_lower ho7 (below_size uB)); have n1_ := Aside0.mk (below_step uB hb); clear HB; have HO543 := n0_; have HB := n1_; clear n0_ n1_; clear hb ho7))
 repeat (go_quiet (first | ((with_reducible refine gate_dst (N := 14) rfl ?_); refine Kd.R_make (Kd.int .i64) _ 3 rfl (N := 14) rfl 29 _ _ rfl (l1.length : Int) rfl rfl Tryz.underlying29 (.int .i64 0) 8 info3 rfl (by decide) (by omega) 0 (ok := fun _ => True) (okp := fun _ => True) rfl (fun _ hk => hk) trivial dT (Nat.le_trans (Nat.mul_le_mul_right _ (dT : (l1.length : Int).toNat ≤ 35184372088832)) (by omega)) (Below.refl _ _) (Nat.le_refl _) ?_; intro v542 w6 ho7 hb hg_ hnew_; clear hg_ hnew_; (first | rw [← Ny541.out] at ho7 | (simp only [Int.reduceToNat] at ho7; rw [← Ny541.out] at ho7)); have n0_ := Aside0.mk (Kd.R_lower ho7 (below_size uB)); have n1_ := Aside0.mk (below_step uB hb); clear HB; have HO543 := n0_; have HB := n1_; clear n0_ n1_; clear hb ho7)); try go_wp2_with (first | ((with_reducible refine gate_dst (N := 14) rfl ?_); refine Kd.R_make (Kd.int .i64) _ 3 rfl (N := 14) rfl 29 _ _ rfl (l1.length : Int) rfl rfl Tryz.underlying29 (.int .i64 0) 8 info3 rfl (by decide) (by omega) 0 (ok := fun _ => True) (okp := fun _ => True) rfl (fun _ hk => hk) trivial dT (Nat.le_trans (Nat.mul_le_mul_right _ (dT : (l1.length : Int).toNat ≤ 35184372088832)) (by omega)) (Below.refl _ _) (Nat.le_refl _) ?_; intro v542 w6 ho7 hb hg_ hnew_; clear hg_ hnew_; (first | rw [← Ny541.out] at ho7 | (simp only [Int.reduceToNat] at ho7; rw [← Ny541.out] at ho7)); have n0_ := Aside0.mk (Kd.R_lower ho7 (below_size uB)); have n1_ := Aside0.mk (below_step uB hb); clear HB; have HO543 := n0_; have HB := n1_; clear n0_ n1_; clear hb ho7)))
 go_loopg [8, 17] k (fun kq v8 v17 w' => ∃ (x7_1 : List Int) (x8_1 : Int) (x17_1 : Int), v8 = .int .i64 x8_1 ∧ v17 = .int .i64 x17_1 ∧ Aside0 (kasai_quick.l0 kq l0 l1 x7_1 x8_1 l2 (l2.length : Int) x17_1 = some r) ∧ Aside0 (kq ≤ k) ∧ Aside0 (Kd.R (Kd.int .i64) 3 w' w.heap.size (fun _ => True) v542 x7_1) ∧ Aside0 (Below w.heap.size w w'))
 case atStart => exact ⟨(y541), (0), (0), sD, sD, H', ⟨Nat.le_refl _⟩, ⟨uR HO543.out⟩, ⟨uB⟩⟩
 case round =>
  clear H'
  try clear c1
  try clear c2
  try clear p2
  try clear c4
  try clear c4b0
  try clear c4b1
  try clear c5
  try clear c5b0
  try clear c5b1
  obtain ⟨x7_1, x8_1, x17_1, rfl, rfl, HA, HK1, HO_7, HB⟩ := hrel
  cases gk with
  | zero => exact absurd HA.out (by simp [kasai_quick.l0])
  | succ k1 =>
   have H := HA.out
   clear HA
   simp only [kasai_quick.l0] at H
   rcases ifC H with ⟨c8b0, H⟩ | ⟨c8b0, H⟩
   ·obtain ⟨c9b0, c10b0, H⟩ := ifD2 H
    by_cases c11 : (rd l2 x17_1) = 0
    ·rw [if_pos c11] at H
     have c11b0 : ((rd l2 x17_1) == 0) = true := beq_iff_eq.mpr c11
     have c11b1 : ((rd l2 x17_1) != 0) = false := bne_eq_false_iff_eq.mpr c11
     clear c11
     have H' := Aside0.mk H
     clear H
     obtain ⟨ad544, e544, hx544_0, p544, q544⟩ := rIO HB.out HR2.out x17_1
     cases e544
     go_wp2
     repeat (go_quiet (fail); try go_wp2)
     go_roundg k1
     case measure => have := HK1.out; omega
     case rel => exact ⟨(x7_1), (0), (wrap64 (x17_1 + 1)), sD, sD, H', ⟨by have := HK1.out; omega⟩, ⟨uR HO_7.out⟩, ⟨uB⟩⟩
    ·rw [if_neg c11] at H
     have c11b0 : ((rd l2 x17_1) == 0) = false := beq_eq_false_iff_ne.mpr c11
     have c11b1 : ((rd l2 x17_1) != 0) = true := bne_iff_ne.mpr c11
     obtain ⟨ji12, hji12⟩ : ∃ j_ : Int, (wrap64 ((rd l2 x17_1) - 1)) = j_ := ⟨_, rfl⟩
     first | rw [hji12] at H | simp only [hji12] at H
     have hji12w : (IntKind.i64.wrap ((rd l2 x17_1) - 1)) = ji12 := (i64_w _).trans hji12
     obtain ⟨c13b0, c14b0, H⟩ := ifD2 H
     have H' := Aside0.mk H
     clear H
     obtain ⟨ad544, e544, hx544_0, p544, q544⟩ := rIO HB.out HR2.out x17_1
     cases e544
     obtain ⟨ad545, e545, hx545_0, p545, q545⟩ := rIO HB.out HR1.out (ji12)
     cases e545
     go_wp2
     repeat (go_quiet (fail); try go_wp2)
     go_loopg [8] k1 (fun kq v8 w' => ∃ (x8_2 : Int), v8 = .int .i64 x8_2 ∧ Aside0 (kasai_quick.l1 kq l0 l1 x7_1 x8_2 x17_1 (rd l2 x17_1) (rd l1 (ji12)) l2 (l2.length : Int) x17_1 = some r) ∧ Aside0 (kq ≤ k1) ∧ Aside0 (Kd.R (Kd.int .i64) 3 w' w.heap.size (fun _ => True) v542 x7_1) ∧ Aside0 (Below w.heap.size w w'))
     case atStart => exact ⟨(x8_1), sD, H', ⟨Nat.le_refl _⟩, ⟨uR HO_7.out⟩, ⟨uB⟩⟩
     case round =>
      clear H'
      try clear c1
      try clear c2
      try clear p2
      try clear c4
      try clear c4b0
      try clear c4b1
      try clear c5
      try clear c5b0
      try clear c5b1
      try clear p5
      try clear q5
      try clear hx5
      try clear p6
      try clear c8
      try clear c8b0
      try clear c9
      try clear c9b0
      try clear c10
      try clear c10b0
      try clear c11
      try clear c11b0
      try clear c11b1
      try clear c13
      try clear c13b0
      try clear c14
      try clear c14b0
      try clear hx544_0
      try clear hx545_0
      try clear p2
      try clear p544
      try clear p545
      try clear q544
      try clear q545
      obtain ⟨x8_2, rfl, HA, HK2, HO_7, HB⟩ := hrel
      cases gk with
      | zero => exact absurd HA.out (by simp [kasai_quick.l1])
      | succ k2 =>
       have H := HA.out
       clear HA
       simp only [kasai_quick.l1] at H
       obtain ⟨ji15, hji15⟩ : ∃ j_ : Int, (mx x17_1 (rd l1 (ji12))) = j_ := ⟨_, rfl⟩
       first | rw [hji15] at H | simp only [hji15] at H
       have hji15_ : (if x17_1 < (rd l1 (ji12)) then (rd l1 (ji12)) else x17_1) = ji15 := hji15
       rcases ifC H with ⟨c16b0, H⟩ | ⟨c16b0, H⟩
       ·obtain ⟨ji17, hji17⟩ : ∃ j_ : Int, (wrap64 (x17_1 + x8_2)) = j_ := ⟨_, rfl⟩
        first | rw [hji17] at H | simp only [hji17] at H
        have hji17w : (IntKind.i64.wrap (x17_1 + x8_2)) = ji17 := (i64_w _).trans hji17
        obtain ⟨c18b0, c19b0, H⟩ := ifD2 H
        obtain ⟨ji20, hji20⟩ : ∃ j_ : Int, (wrap64 ((rd l1 (ji12)) + x8_2)) = j_ := ⟨_, rfl⟩
        first | rw [hji20] at H | simp only [hji20] at H
        have hji20w : (IntKind.i64.wrap ((rd l1 (ji12)) + x8_2)) = ji20 := (i64_w _).trans hji20
        obtain ⟨c21b0, c22b0, H⟩ := ifD2 H
        by_cases c23 : (rd l0 (ji17)) = (rd l0 (ji20))
        ·rw [if_pos c23] at H
         have c23b0 : ((rd l0 (ji17)) == (rd l0 (ji20))) = true := beq_iff_eq.mpr c23
         have c23b1 : ((rd l0 (ji17)) != (rd l0 (ji20))) = false := bne_eq_false_iff_eq.mpr c23
         clear c23
         have H' := Aside0.mk H
         clear H
         obtain ⟨ad546, e546, hx546_0, p546, q546⟩ := rIO HB.out HR0.out (ji17)
         cases e546
         obtain ⟨ad547, e547, hx547_0, p547, q547⟩ := rIO HB.out HR0.out (ji20)
         obtain rfl : ad546 = ad547 := (by injection e547)
         go_wp2
         repeat (go_quiet (fail); try go_wp2)
         go_roundg k2
         case measure => have := HK1.out; have := HK2.out; omega
         case rel => exact ⟨(wrap64 (x8_2 + 1)), sD, H', ⟨by have := HK1.out; have := HK2.out; omega⟩, ⟨uR HO_7.out⟩, ⟨uB⟩⟩
        ·rw [if_neg c23] at H
         have c23b0 : ((rd l0 (ji17)) == (rd l0 (ji20))) = false := beq_eq_false_iff_ne.mpr c23
         have c23b1 : ((rd l0 (ji17)) != (rd l0 (ji20))) = true := bne_iff_ne.mpr c23
         obtain ⟨c24b0, c25b0, H⟩ := ifD2 H
         generalize hy548 : (x7_1.set ((rd l2 x17_1) : Int).toNat x8_2 : List Int) = y548 at H
         try simp only [Option.bind_some] at H
         have Ny548 := Aside0.mk hy548.symm
         clear hy548
         obtain ⟨ji27, hji27⟩ : ∃ j_ : Int, (mx (wrap64 (x8_2 - 1)) 0) = j_ := ⟨_, rfl⟩
         first | rw [hji27] at H | simp only [hji27] at H
         have hji27_ : (if (wrap64 (x8_2 - 1)) < 0 then 0 else (wrap64 (x8_2 - 1))) = ji27 := hji27
         have H' := Aside0.mk H
         clear H
         obtain ⟨ad546, e546, hx546_0, p546, q546⟩ := rIO HB.out HR0.out (ji17)
         cases e546
         obtain ⟨ad547, e547, hx547_0, p547, q547⟩ := rIO HB.out HR0.out (ji20)
         obtain rfl : ad546 = ad547 := (by injection e547)
         have p26 : 0 ≤ ((rd l2 x17_1) : Int) := dT
         have q26 : ((rd l2 x17_1) : Int) < ((x7_1.length : Int) : Int) := dT
         obtain ⟨go26, co26, eo26, gb26, gl26, cl26, HG26⟩ := Kd.R_form HO_7.out (by omega)
         (first | cases eo26 | (injection eo26 with ea_ en_ ec_; (first | subst ea_ | (injection ea_ with ea_; subst ea_)); subst ec_; clear en_))
         have GB26 := Aside0.mk gb26
         have GG26 := Aside0.mk HG26
         clear gb26 gl26 HG26
         obtain ⟨hx26_0, hf26_0⟩ := Kd.R_celln 0 HO_7.out ((rd l2 x17_1) : Int) p26 q26
         replace p26 := eq_true p26
         replace q26 := eq_true q26
         have HP28 := Kd.R_putg HO_7.out ((rd l2 x17_1) : Int) x8_2
         go_wp2_with (first | ((with_reducible refine gate_store (t := 3) (p := 57) rfl ?_); (try (rw [drewN_self wr]; generalize hq_ : World.drewN wr _ = wr; have n0_ := Aside0.mk (Kd.R_at hq_ HO_7.out); have n1_ := Aside0.mk (below_at hq_ HB.out); clear hq_ HO_7 HB; have HO_7 := n0_; have HB := n1_; clear n0_ n1_; (try (have HP28 := Kd.R_putg HO_7.out ((rd l2 x17_1) : Int) x8_2)))); refine store_event (t := 3) (p := 57) (v := ?vo_w29) (w1 := (wr.setCell ⟨go26, ((rd l2 x17_1) : Int).toNat, none⟩ (.int .i64 x8_2))) ?hg ?ho ?hn ?hr ?_; (case ho => rfl); (case hg => rfl); (case hn => rfl); (case hr => first | (go_simp; done) | (go_simp; rfl)); intro w29 hw; have hg : wr.grownBy w29 (some go26) := (by rw [hw]; exact HP28.2); have hp_ : Kd.R (Kd.int .i64) 3 w29 w.heap.size (fun _ => True) (.slice (some ⟨go26, 0, none⟩) x7_1.length co26) y548 := (by rw [hw, Ny548.out]; exact HP28.1); clear HP28; have n0_ := Aside0.mk (hp_); have n1_ := Aside0.mk ((by rw [hw]; exact below_set (HB.out) GB26.out : Below w.heap.size w w29)); clear HO_7; clear HB; have HO_7 := n0_; have HB := n1_; clear n0_ n1_; clear hg hw hp_))
         repeat (go_quiet (first | ((with_reducible refine gate_store (t := 3) (p := 57) rfl ?_); (try (rw [drewN_self wr]; generalize hq_ : World.drewN wr _ = wr; have n0_ := Aside0.mk (Kd.R_at hq_ HO_7.out); have n1_ := Aside0.mk (below_at hq_ HB.out); clear hq_ HO_7 HB; have HO_7 := n0_; have HB := n1_; clear n0_ n1_; (try (have HP28 := Kd.R_putg HO_7.out ((rd l2 x17_1) : Int) x8_2)))); refine store_event (t := 3) (p := 57) (v := ?vo_w29) (w1 := (wr.setCell ⟨go26, ((rd l2 x17_1) : Int).toNat, none⟩ (.int .i64 x8_2))) ?hg ?ho ?hn ?hr ?_; (case ho => rfl); (case hg => rfl); (case hn => rfl); (case hr => first | (go_simp; done) | (go_simp; rfl)); intro w29 hw; have hg : wr.grownBy w29 (some go26) := (by rw [hw]; exact HP28.2); have hp_ : Kd.R (Kd.int .i64) 3 w29 w.heap.size (fun _ => True) (.slice (some ⟨go26, 0, none⟩) x7_1.length co26) y548 := (by rw [hw, Ny548.out]; exact HP28.1); clear HP28; have n0_ := Aside0.mk (hp_); have n1_ := Aside0.mk ((by rw [hw]; exact below_set (HB.out) GB26.out : Below w.heap.size w w29)); clear HO_7; clear HB; have HO_7 := n0_; have HB := n1_; clear n0_ n1_; clear hg hw hp_)); try go_wp2_with (first | ((with_reducible refine gate_store (t := 3) (p := 57) rfl ?_); (try (rw [drewN_self wr]; generalize hq_ : World.drewN wr _ = wr; have n0_ := Aside0.mk (Kd.R_at hq_ HO_7.out); have n1_ := Aside0.mk (below_at hq_ HB.out); clear hq_ HO_7 HB; have HO_7 := n0_; have HB := n1_; clear n0_ n1_; (try (have HP28 := Kd.R_putg HO_7.out ((rd l2 x17_1) : Int) x8_2)))); refine store_event (t := 3) (p := 57) (v := ?vo_w29) (w1 := (wr.setCell ⟨go26, ((rd l2 x17_1) : Int).toNat, none⟩ (.int .i64 x8_2))) ?hg ?ho ?hn ?hr ?_; (case ho => rfl); (case hg => rfl); (case hn => rfl); (case hr => first | (go_simp; done) | (go_simp; rfl)); intro w29 hw; have hg : wr.grownBy w29 (some go26) := (by rw [hw]; exact HP28.2); have hp_ : Kd.R (Kd.int .i64) 3 w29 w.heap.size (fun _ => True) (.slice (some ⟨go26, 0, none⟩) x7_1.length co26) y548 := (by rw [hw, Ny548.out]; exact HP28.1); clear HP28; have n0_ := Aside0.mk (hp_); have n1_ := Aside0.mk ((by rw [hw]; exact below_set (HB.out) GB26.out : Below w.heap.size w w29)); clear HO_7; clear HB; have HO_7 := n0_; have HB := n1_; clear n0_ n1_; clear hg hw hp_)))
         go_roundg k2
         case measure => have := HK1.out; have := HK2.out; omega
         case rel => exact ⟨(y548), (ji27), (wrap64 (x17_1 + 1)), (by first | rfl | (simp; done) | (simp only [← hji27] <;> (first | rfl | simp)) | (simp [*]; done)), sD, H', ⟨by have := HK1.out; have := HK2.out; omega⟩, ⟨by first | ((with_reducible repeat (first | apply Kd.R_alloc | apply Kd.R_drewN | apply Kd.R_drew)); exact HO_7.out) | (rw [Ny548.out]; exact (Kd.R_putg (Kd.R_drewN HO_7.out _) _ _).1) | (rw [Ny548.out]; exact (Kd.R_putg HO_7.out _ _).1)⟩, ⟨by first | ((repeat (first | (with_reducible first | exact HB.out | apply below_alloc | apply pw_below_drewN | apply below_drew1) | exact HB.out)); done) | exact Below.setCell (pw_below_drewN HB.out _) GB26.out _ | exact Below.setCell HB.out GB26.out _⟩⟩
       ·obtain ⟨c30b0, c31b0, H⟩ := ifD2 H
        generalize hy549 : (x7_1.set ((rd l2 x17_1) : Int).toNat x8_2 : List Int) = y549 at H
        try simp only [Option.bind_some] at H
        have Ny549 := Aside0.mk hy549.symm
        clear hy549
        obtain ⟨ji33, hji33⟩ : ∃ j_ : Int, (mx (wrap64 (x8_2 - 1)) 0) = j_ := ⟨_, rfl⟩
        first | rw [hji33] at H | simp only [hji33] at H
        have hji33_ : (if (wrap64 (x8_2 - 1)) < 0 then 0 else (wrap64 (x8_2 - 1))) = ji33 := hji33
        have H' := Aside0.mk H
        clear H
        have p32 : 0 ≤ ((rd l2 x17_1) : Int) := dT
        have q32 : ((rd l2 x17_1) : Int) < ((x7_1.length : Int) : Int) := dT
        obtain ⟨go32, co32, eo32, gb32, gl32, cl32, HG32⟩ := Kd.R_form HO_7.out (by omega)
        (first | cases eo32 | (injection eo32 with ea_ en_ ec_; (first | subst ea_ | (injection ea_ with ea_; subst ea_)); subst ec_; clear en_))
        have GB32 := Aside0.mk gb32
        have GG32 := Aside0.mk HG32
        clear gb32 gl32 HG32
        obtain ⟨hx32_0, hf32_0⟩ := Kd.R_celln 0 HO_7.out ((rd l2 x17_1) : Int) p32 q32
        replace p32 := eq_true p32
        replace q32 := eq_true q32
        have HP34 := Kd.R_putg HO_7.out ((rd l2 x17_1) : Int) x8_2
        go_wp2_with (first | ((with_reducible refine gate_store (t := 3) (p := 57) rfl ?_); (try (rw [drewN_self wr]; generalize hq_ : World.drewN wr _ = wr; have n0_ := Aside0.mk (Kd.R_at hq_ HO_7.out); have n1_ := Aside0.mk (below_at hq_ HB.out); clear hq_ HO_7 HB; have HO_7 := n0_; have HB := n1_; clear n0_ n1_; (try (have HP34 := Kd.R_putg HO_7.out ((rd l2 x17_1) : Int) x8_2)))); refine store_event (t := 3) (p := 57) (v := ?vo_w35) (w1 := (wr.setCell ⟨go32, ((rd l2 x17_1) : Int).toNat, none⟩ (.int .i64 x8_2))) ?hg ?ho ?hn ?hr ?_; (case ho => rfl); (case hg => rfl); (case hn => rfl); (case hr => first | (go_simp; done) | (go_simp; rfl)); intro w35 hw; have hg : wr.grownBy w35 (some go32) := (by rw [hw]; exact HP34.2); have hp_ : Kd.R (Kd.int .i64) 3 w35 w.heap.size (fun _ => True) (.slice (some ⟨go32, 0, none⟩) x7_1.length co32) y549 := (by rw [hw, Ny549.out]; exact HP34.1); clear HP34; have n0_ := Aside0.mk (hp_); have n1_ := Aside0.mk ((by rw [hw]; exact below_set (HB.out) GB32.out : Below w.heap.size w w35)); clear HO_7; clear HB; have HO_7 := n0_; have HB := n1_; clear n0_ n1_; clear hg hw hp_))
        repeat (go_quiet (first | ((with_reducible refine gate_store (t := 3) (p := 57) rfl ?_); (try (rw [drewN_self wr]; generalize hq_ : World.drewN wr _ = wr; have n0_ := Aside0.mk (Kd.R_at hq_ HO_7.out); have n1_ := Aside0.mk (below_at hq_ HB.out); clear hq_ HO_7 HB; have HO_7 := n0_; have HB := n1_; clear n0_ n1_; (try (have HP34 := Kd.R_putg HO_7.out ((rd l2 x17_1) : Int) x8_2)))); refine store_event (t := 3) (p := 57) (v := ?vo_w35) (w1 := (wr.setCell ⟨go32, ((rd l2 x17_1) : Int).toNat, none⟩ (.int .i64 x8_2))) ?hg ?ho ?hn ?hr ?_; (case ho => rfl); (case hg => rfl); (case hn => rfl); (case hr => first | (go_simp; done) | (go_simp; rfl)); intro w35 hw; have hg : wr.grownBy w35 (some go32) := (by rw [hw]; exact HP34.2); have hp_ : Kd.R (Kd.int .i64) 3 w35 w.heap.size (fun _ => True) (.slice (some ⟨go32, 0, none⟩) x7_1.length co32) y549 := (by rw [hw, Ny549.out]; exact HP34.1); clear HP34; have n0_ := Aside0.mk (hp_); have n1_ := Aside0.mk ((by rw [hw]; exact below_set (HB.out) GB32.out : Below w.heap.size w w35)); clear HO_7; clear HB; have HO_7 := n0_; have HB := n1_; clear n0_ n1_; clear hg hw hp_)); try go_wp2_with (first | ((with_reducible refine gate_store (t := 3) (p := 57) rfl ?_); (try (rw [drewN_self wr]; generalize hq_ : World.drewN wr _ = wr; have n0_ := Aside0.mk (Kd.R_at hq_ HO_7.out); have n1_ := Aside0.mk (below_at hq_ HB.out); clear hq_ HO_7 HB; have HO_7 := n0_; have HB := n1_; clear n0_ n1_; (try (have HP34 := Kd.R_putg HO_7.out ((rd l2 x17_1) : Int) x8_2)))); refine store_event (t := 3) (p := 57) (v := ?vo_w35) (w1 := (wr.setCell ⟨go32, ((rd l2 x17_1) : Int).toNat, none⟩ (.int .i64 x8_2))) ?hg ?ho ?hn ?hr ?_; (case ho => rfl); (case hg => rfl); (case hn => rfl); (case hr => first | (go_simp; done) | (go_simp; rfl)); intro w35 hw; have hg : wr.grownBy w35 (some go32) := (by rw [hw]; exact HP34.2); have hp_ : Kd.R (Kd.int .i64) 3 w35 w.heap.size (fun _ => True) (.slice (some ⟨go32, 0, none⟩) x7_1.length co32) y549 := (by rw [hw, Ny549.out]; exact HP34.1); clear HP34; have n0_ := Aside0.mk (hp_); have n1_ := Aside0.mk ((by rw [hw]; exact below_set (HB.out) GB32.out : Below w.heap.size w w35)); clear HO_7; clear HB; have HO_7 := n0_; have HB := n1_; clear n0_ n1_; clear hg hw hp_)))
        go_roundg k2
        case measure => have := HK1.out; have := HK2.out; omega
        case rel => exact ⟨(y549), (ji33), (wrap64 (x17_1 + 1)), (by first | rfl | (simp; done) | (simp only [← hji33] <;> (first | rfl | simp)) | (simp [*]; done)), sD, H', ⟨by have := HK1.out; have := HK2.out; omega⟩, ⟨by first | ((with_reducible repeat (first | apply Kd.R_alloc | apply Kd.R_drewN | apply Kd.R_drew)); exact HO_7.out) | (rw [Ny549.out]; exact (Kd.R_putg (Kd.R_drewN HO_7.out _) _ _).1) | (rw [Ny549.out]; exact (Kd.R_putg HO_7.out _ _).1)⟩, ⟨by first | ((repeat (first | (with_reducible first | exact HB.out | apply below_alloc | apply pw_below_drewN | apply below_drew1) | exact HB.out)); done) | exact Below.setCell (pw_below_drewN HB.out _) GB32.out _ | exact Below.setCell HB.out GB32.out _⟩⟩
   ·obtain rfl := Option.some.inj H
    go_wp2
    repeat (go_quiet (fail); try go_wp2)
    go_ret
    exact ⟨_, eR, uR HO_7.out, uB⟩
def lex_isEnding.f (l0 : List Int) (a1 : Int) : Option (Bool) := if a1 ≥ 0 then (some (decide (a1 ≤ (l0.length : Int)))) else (some false)
set_option maxHeartbeats 8000000 in
set_option maxRecDepth 100000 in
theorem lex_isEnding.calls (A0 : Option Addr) (c0 : Nat) (l0 : List Int) (a1 : Int) (r : Bool) (w : World) (hr0 : Kd.C (Kd.int .u8) w A0 l0.length l0) (hc0 : l0.length ≤ c0) (h : lex_isEnding.f l0 a1 = some r) :
    Calls Tryz.prog 98 #[.slice A0 l0.length c0, .int .i64 a1] w fun e w' => e = .returned (.bool r) ∧ Drawn0 w w' := by
 have HR0 := Aside0.mk hr0
 have HC0 := Aside0.mk hc0
 clear hr0 hc0
 have H := h
 clear h
 unfold lex_isEnding.f at H
 rcases ifG H with ⟨c3b0, H⟩ | ⟨c3b0, H⟩
 ·obtain rfl := Option.some.inj H
  go_enter Tryz.func98, Tryz.ntmps98
  go_wp2
  go_ret
  exact ⟨sD, dD⟩
 ·obtain rfl := Option.some.inj H
  go_enter Tryz.func98, Tryz.ntmps98
  go_wp2
  go_ret
  exact ⟨sD, dD⟩
end Go.Proofs.YtbbpplnnegdenaaGreat.PTopPipe
end
section
namespace Go.Proofs.YtbbpplnnegdenaaGreat.PTopPipe
open Go.RowKit Go.Proofs.YtbbpplnnegdenaaGreatW.PrintWords Go.Proofs.YtbbpplnnegdenaaGreatW.PrintLast Go.Proofs.YtbbpplnnegdenaaGreatW.PrintMore
attribute [local go_sem] max2_int min2_int max_two min_two max_three min_three max_four min_four
set_option linter.unusedVariables false
set_option linter.unusedSimpArgs false
mutual
def lex_Common.j0 : Nat → List Int → Int → Int → Bool → Option (Int)
  | 0, _, _, _, _ => none
  | k + 1, x0, x1, x2, x17 => if x17 = true then (some 0) else (lex_Common.l0 k x0 x1 x2 0)
def lex_Common.l0 : Nat → List Int → Int → Int → Int → Option (Int)
  | 0, _, _, _, _ => none
  | k + 1, x0, x1, x2, x7 => if (wrap64 ((mx x1 x2) + x7)) < (x0.length : Int) then (if 0 ≤ (wrap64 (x1 + x7)) then (if (wrap64 (x1 + x7)) < (x0.length : Int) then (if 0 ≤ (wrap64 (x2 + x7)) then (if (wrap64 (x2 + x7)) < (x0.length : Int) then (if (rd x0 (wrap64 (x1 + x7))) = (rd x0 (wrap64 (x2 + x7))) then (lex_Common.l0 k x0 x1 x2 (wrap64 (x7 + 1))) else (some x7)) else (none)) else (none)) else (none)) else (none)) else (some x7)
end
def lex_Common.f (k : Nat) (l0 : List Int) (a1 : Int) (a2 : Int) : Option (Int) := (lex_isEnding.f l0 a1).bind fun t550 => (if t550 = true then ((lex_isEnding.f l0 a2).bind fun t551 => (lex_Common.j0 k l0 a1 a2 (!t551))) else (lex_Common.j0 k l0 a1 a2 true))
theorem lex_Common.mono_l : ∀ k, (∀ y0 y1 y2 y3, LeO (lex_Common.j0 k y0 y1 y2 y3) (lex_Common.j0 (k + 1) y0 y1 y2 y3)) ∧ (∀ y0 y1 y2 y3, LeO (lex_Common.l0 k y0 y1 y2 y3) (lex_Common.l0 (k + 1) y0 y1 y2 y3))
  | 0 => ⟨fun _ _ _ _ r h => by simp [lex_Common.j0] at h, fun _ _ _ _ r h => by simp [lex_Common.l0] at h⟩
  | k + 1 => by
    obtain ⟨ih0, ih1⟩ := lex_Common.mono_l k
    refine ⟨?_, ?_⟩
    · intro y0 y1 y2 y3
      unfold lex_Common.j0
      exact mB
    · intro y0 y1 y2 y3
      unfold lex_Common.l0
      exact mB
theorem lex_Common.mono : ∀ a0 a1 a2 k, LeO (lex_Common.f k a0 a1 a2) (lex_Common.f (k + 1) a0 a1 a2) := by
  intro a0 a1 a2 k
  obtain ⟨ih0, ih1⟩ := lex_Common.mono_l k
  unfold lex_Common.f
  exact mB
set_option maxHeartbeats 8000000 in
set_option maxRecDepth 100000 in
theorem lex_Common.calls (k : Nat) (A0 : Option Addr) (c0 : Nat) (l0 : List Int) (a1 : Int) (a2 : Int) (r : Int) (w : World) (hr0 : Kd.C (Kd.int .u8) w A0 l0.length l0) (hc0 : l0.length ≤ c0) (h : lex_Common.f k l0 a1 a2 = some r) :
    Calls Tryz.prog 82 #[.slice A0 l0.length c0, .int .i64 a1, .int .i64 a2] w fun e w' => e = .returned (.int .i64 r) ∧ Below w.heap.size w w' := by
 have HR0 := Aside0.mk hr0
 have HC0 := Aside0.mk hc0
 clear hr0 hc0
 have HB := Aside0.mk (Below.refl w.heap.size w)
 have H := h
 clear h
 unfold lex_Common.f at H
 have HC4 := Aside0.mk H
 clear H
 go_enter Tryz.func82, Tryz.ntmps82
 go_upto_region 1 with (fail)
 repeat (go_quiet (fail); go_upto_region 1 with (fail))
 go_cut [17] (fun v17 wc => ∃ (kq : Nat) (x17_3 : Bool), v17 = .bool x17_3 ∧ Aside0 (lex_Common.j0 kq l0 a1 a2 x17_3 = some r) ∧ Aside0 (kq ≤ k) ∧ Aside0 (Below w.heap.size w wc))
 case first =>
  have H := HC4.out
  clear HC4
  obtain ⟨t550, A5, H⟩ := bdS H
  try dsimp only at H
  by_cases c6 : t550 = true
  ·subst c6
   rw [if_pos rfl] at H
   obtain ⟨t551, A7, H⟩ := bdS H
   try dsimp only at H
   have H' := Aside0.mk H
   clear H
   go_wp2_with (first | (go_at_call 98; (with_reducible refine (lex_isEnding.calls _ _ l0 a1 true _ ?side1 ?side2 A5.out).mono ?_); (case side1 => exact uC (Kd.C_below HR0.out HB.out)); (case side2 => exact HC0.out); rintro e w' ⟨rfl, ⟨nd, rfl⟩⟩; (try first | exact ⟨rfl, _, World.drewN_drewN _ _ _⟩ | exact ⟨rfl, _, Eq.trans (World.drewN_drewN _ _ _) (congrArg (World.drewN _) (Nat.add_assoc _ _ _))⟩)) | (go_at_call 98; (with_reducible refine (lex_isEnding.calls _ _ l0 a2 t551 _ ?side1 ?side2 A7.out).mono ?_); (case side1 => repeat (first | exact (Kd.C_below HR0.out uB) | (with_reducible refine Kd.C_alloc ?_ _) | (with_reducible refine Kd.C_drewN ?_ _) | (with_reducible refine Kd.C_drew ?_))); (case side2 => exact HC0.out); rintro e w' ⟨rfl, ⟨nd, rfl⟩⟩; (try first | exact ⟨rfl, _, World.drewN_drewN _ _ _⟩ | exact ⟨rfl, _, Eq.trans (World.drewN_drewN _ _ _) (congrArg (World.drewN _) (Nat.add_assoc _ _ _))⟩)))
   repeat (go_quiet (first | (go_at_call 98; (with_reducible refine (lex_isEnding.calls _ _ l0 a1 true _ ?side1 ?side2 A5.out).mono ?_); (case side1 => exact uC (Kd.C_below HR0.out HB.out)); (case side2 => exact HC0.out); rintro e w' ⟨rfl, ⟨nd, rfl⟩⟩; (try first | exact ⟨rfl, _, World.drewN_drewN _ _ _⟩ | exact ⟨rfl, _, Eq.trans (World.drewN_drewN _ _ _) (congrArg (World.drewN _) (Nat.add_assoc _ _ _))⟩)) | (go_at_call 98; (with_reducible refine (lex_isEnding.calls _ _ l0 a2 t551 _ ?side1 ?side2 A7.out).mono ?_); (case side1 => repeat (first | exact (Kd.C_below HR0.out uB) | (with_reducible refine Kd.C_alloc ?_ _) | (with_reducible refine Kd.C_drewN ?_ _) | (with_reducible refine Kd.C_drew ?_))); (case side2 => exact HC0.out); rintro e w' ⟨rfl, ⟨nd, rfl⟩⟩; (try first | exact ⟨rfl, _, World.drewN_drewN _ _ _⟩ | exact ⟨rfl, _, Eq.trans (World.drewN_drewN _ _ _) (congrArg (World.drewN _) (Nat.add_assoc _ _ _))⟩))); try go_wp2_with (first | (go_at_call 98; (with_reducible refine (lex_isEnding.calls _ _ l0 a1 true _ ?side1 ?side2 A5.out).mono ?_); (case side1 => exact uC (Kd.C_below HR0.out HB.out)); (case side2 => exact HC0.out); rintro e w' ⟨rfl, ⟨nd, rfl⟩⟩; (try first | exact ⟨rfl, _, World.drewN_drewN _ _ _⟩ | exact ⟨rfl, _, Eq.trans (World.drewN_drewN _ _ _) (congrArg (World.drewN _) (Nat.add_assoc _ _ _))⟩)) | (go_at_call 98; (with_reducible refine (lex_isEnding.calls _ _ l0 a2 t551 _ ?side1 ?side2 A7.out).mono ?_); (case side1 => repeat (first | exact (Kd.C_below HR0.out uB) | (with_reducible refine Kd.C_alloc ?_ _) | (with_reducible refine Kd.C_drewN ?_ _) | (with_reducible refine Kd.C_drew ?_))); (case side2 => exact HC0.out); rintro e w' ⟨rfl, ⟨nd, rfl⟩⟩; (try first | exact ⟨rfl, _, World.drewN_drewN _ _ _⟩ | exact ⟨rfl, _, Eq.trans (World.drewN_drewN _ _ _) (congrArg (World.drewN _) (Nat.add_assoc _ _ _))⟩))))
   go_meet
   case rel => exact ⟨_, (!t551), sD, H', ⟨by first | omega | exact Nat.le_refl _⟩, ⟨uB⟩⟩
  ·replace c6 := Bool.eq_false_iff.mpr c6
   subst c6
   rw [if_neg (by decide)] at H
   have H' := Aside0.mk H
   clear H
   go_wp2_with (first | (go_at_call 98; (with_reducible refine (lex_isEnding.calls _ _ l0 a1 false _ ?side1 ?side2 A5.out).mono ?_); (case side1 => exact uC (Kd.C_below HR0.out HB.out)); (case side2 => exact HC0.out); rintro e w' ⟨rfl, ⟨nd, rfl⟩⟩; (try first | exact ⟨rfl, _, World.drewN_drewN _ _ _⟩ | exact ⟨rfl, _, Eq.trans (World.drewN_drewN _ _ _) (congrArg (World.drewN _) (Nat.add_assoc _ _ _))⟩)))
   repeat (go_quiet (first | (go_at_call 98; (with_reducible refine (lex_isEnding.calls _ _ l0 a1 false _ ?side1 ?side2 A5.out).mono ?_); (case side1 => exact uC (Kd.C_below HR0.out HB.out)); (case side2 => exact HC0.out); rintro e w' ⟨rfl, ⟨nd, rfl⟩⟩; (try first | exact ⟨rfl, _, World.drewN_drewN _ _ _⟩ | exact ⟨rfl, _, Eq.trans (World.drewN_drewN _ _ _) (congrArg (World.drewN _) (Nat.add_assoc _ _ _))⟩))); try go_wp2_with (first | (go_at_call 98; (with_reducible refine (lex_isEnding.calls _ _ l0 a1 false _ ?side1 ?side2 A5.out).mono ?_); (case side1 => exact uC (Kd.C_below HR0.out HB.out)); (case side2 => exact HC0.out); rintro e w' ⟨rfl, ⟨nd, rfl⟩⟩; (try first | exact ⟨rfl, _, World.drewN_drewN _ _ _⟩ | exact ⟨rfl, _, Eq.trans (World.drewN_drewN _ _ _) (congrArg (World.drewN _) (Nat.add_assoc _ _ _))⟩))))
   go_meet
   case rel => exact ⟨_, (true), sD, H', ⟨by first | omega | exact Nat.le_refl _⟩, ⟨uB⟩⟩
 case rest =>
  clear HC4
  try clear p2
  try clear c6
  obtain ⟨kq, x17_3, rfl, HA, HJ3, HB⟩ := hcut
  cases kq with
  | zero => exact absurd HA.out (by simp [lex_Common.j0])
  | succ kj3 =>
   have H := HA.out
   clear HA
   simp only [lex_Common.j0] at H
   by_cases c8 : x17_3 = true
   ·subst c8
    rw [if_pos rfl] at H
    obtain rfl := Option.some.inj H
    go_wp2
    repeat (go_quiet (fail); try go_wp2)
    go_ret
    exact ⟨eR, uB⟩
   ·replace c8 := Bool.eq_false_iff.mpr c8
    subst c8
    rw [if_neg (by decide)] at H
    have H' := Aside0.mk H
    clear H
    go_wp2
    repeat (go_quiet (fail); try go_wp2)
    go_loopg [7] kj3 (fun kq v7 w' => ∃ (x7_2 : Int), v7 = .int .i64 x7_2 ∧ Aside0 (lex_Common.l0 kq l0 a1 a2 x7_2 = some r) ∧ Aside0 (kq ≤ kj3) ∧ Aside0 (Below w.heap.size w w'))
    case atStart => exact ⟨(0), sD, H', ⟨Nat.le_refl _⟩, ⟨uB⟩⟩
    case round =>
     clear H'
     try clear p2
     try clear c6
     try clear c8
     try clear p2
     obtain ⟨x7_2, rfl, HA, HK2, HB⟩ := hrel
     cases gk with
     | zero => exact absurd HA.out (by simp [lex_Common.l0])
     | succ k2 =>
      have H := HA.out
      clear HA
      simp only [lex_Common.l0] at H
      obtain ⟨ji9, hji9⟩ : ∃ j_ : Int, (mx a1 a2) = j_ := ⟨_, rfl⟩
      first | rw [hji9] at H | simp only [hji9] at H
      have hji9_ : (if a1 < a2 then a2 else a1) = ji9 := hji9
      rcases ifC H with ⟨c10b0, H⟩ | ⟨c10b0, H⟩
      ·obtain ⟨ji11, hji11⟩ : ∃ j_ : Int, (wrap64 (a1 + x7_2)) = j_ := ⟨_, rfl⟩
       first | rw [hji11] at H | simp only [hji11] at H
       have hji11w : (IntKind.i64.wrap (a1 + x7_2)) = ji11 := (i64_w _).trans hji11
       obtain ⟨c12b0, c13b0, H⟩ := ifD2 H
       obtain ⟨ji14, hji14⟩ : ∃ j_ : Int, (wrap64 (a2 + x7_2)) = j_ := ⟨_, rfl⟩
       first | rw [hji14] at H | simp only [hji14] at H
       have hji14w : (IntKind.i64.wrap (a2 + x7_2)) = ji14 := (i64_w _).trans hji14
       obtain ⟨c15b0, c16b0, H⟩ := ifD2 H
       by_cases c17 : (rd l0 (ji11)) = (rd l0 (ji14))
       ·rw [if_pos c17] at H
        have c17b0 : ((rd l0 (ji11)) == (rd l0 (ji14))) = true := beq_iff_eq.mpr c17
        have c17b1 : ((rd l0 (ji11)) != (rd l0 (ji14))) = false := bne_eq_false_iff_eq.mpr c17
        clear c17
        have H' := Aside0.mk H
        clear H
        obtain ⟨ad552, e552, hx552_0, p552, q552⟩ := rIO HB.out HR0.out (ji11)
        cases e552
        obtain ⟨ad553, e553, hx553_0, p553, q553⟩ := rIO HB.out HR0.out (ji14)
        obtain rfl : ad552 = ad553 := (by injection e553)
        go_wp2
        repeat (go_quiet (fail); try go_wp2)
        go_roundg k2
        case measure => have := HJ3.out; have := HK2.out; omega
        case rel => exact ⟨(wrap64 (x7_2 + 1)), sD, H', ⟨by have := HJ3.out; have := HK2.out; omega⟩, ⟨uB⟩⟩
       ·rw [if_neg c17] at H
        have c17b0 : ((rd l0 (ji11)) == (rd l0 (ji14))) = false := beq_eq_false_iff_ne.mpr c17
        have c17b1 : ((rd l0 (ji11)) != (rd l0 (ji14))) = true := bne_iff_ne.mpr c17
        obtain rfl := Option.some.inj H
        obtain ⟨ad552, e552, hx552_0, p552, q552⟩ := rIO HB.out HR0.out (ji11)
        cases e552
        obtain ⟨ad553, e553, hx553_0, p553, q553⟩ := rIO HB.out HR0.out (ji14)
        obtain rfl : ad552 = ad553 := (by injection e553)
        go_wp2
        repeat (go_quiet (fail); try go_wp2)
        go_ret
        exact ⟨by first | rfl | (simp [errW_none, errW_some] <;> rfl) | (simp only [← hji9, ← hji11, ← hji14]; first | rfl | (simp [errW_none, errW_some] <;> rfl)) | (simp [*, errW_none, errW_some] <;> rfl), uB⟩
      ·obtain rfl := Option.some.inj H
       go_wp2
       repeat (go_quiet (fail); try go_wp2)
       go_ret
       exact ⟨by first | rfl | (simp [errW_none, errW_some] <;> rfl) | (simp only [← hji9]; first | rfl | (simp [errW_none, errW_some] <;> rfl)) | (simp [*, errW_none, errW_some] <;> rfl), uB⟩
mutual
def kasai_LCP.j0 : Nat → List Int → List Int → List Int → Bool → Option (List Int × Bool)
  | 0, _, _, _, _ => none
  | k + 1, x0, x1, x6, x23 => if x23 = true then (some (([] : List Int), false)) else ((kasai_ordered.f k x0 x1 x6).bind fun t558 => (if t558 = true then ((kasai_quick.f k x0 x1 x6).bind fun t559 => (some (t559, true))) else (if 0 ≤ (x1.length : Int) then (if ((x1.length : Int) : Int).toNat ≤ 35184372088832 then (kasai_LCP.l0 k x0 x1 (List.replicate ((x1.length : Int) : Int).toNat 0) 1) else (none)) else (none))))
def kasai_LCP.l0 : Nat → List Int → List Int → List Int → Int → Option (List Int × Bool)
  | 0, _, _, _, _ => none
  | k + 1, x0, x1, x8, x9 => if x9 < (x1.length : Int) then (if 0 ≤ (wrap64 (x9 - 1)) then (if (wrap64 (x9 - 1)) < (x1.length : Int) then (if 0 ≤ x9 then ((lex_Common.f k x0 (rd x1 (wrap64 (x9 - 1))) (rd x1 x9)).bind fun t567 => (if x9 < (x8.length : Int) then (kasai_LCP.l0 k x0 x1 (x8.set (x9 : Int).toNat t567) (wrap64 (x9 + 1))) else (none))) else (none)) else (none)) else (none)) else (some (x8, true))
end
def kasai_LCP.f (k : Nat) (l0 : List Int) (l1 : List Int) : Option (List Int × Bool) := (rank_Inverse.f k l1).bind fun bt554 => (if bt554.2 = true then (kasai_LCP.j0 k l0 l1 bt554.1 ((l1.length : Int) != (l0.length : Int))) else (kasai_LCP.j0 k l0 l1 bt554.1 true))
theorem kasai_LCP.mono_l : ∀ k, (∀ y0 y1 y2 y3, LeO (kasai_LCP.j0 k y0 y1 y2 y3) (kasai_LCP.j0 (k + 1) y0 y1 y2 y3)) ∧ (∀ y0 y1 y2 y3, LeO (kasai_LCP.l0 k y0 y1 y2 y3) (kasai_LCP.l0 (k + 1) y0 y1 y2 y3))
  | 0 => ⟨fun _ _ _ _ r h => by simp [kasai_LCP.j0] at h, fun _ _ _ _ r h => by simp [kasai_LCP.l0] at h⟩
  | k + 1 => by
    obtain ⟨ih0, ih1⟩ := kasai_LCP.mono_l k
    refine ⟨?_, ?_⟩
    · intro y0 y1 y2 y3
      unfold kasai_LCP.j0
      have m0 := @kasai_ordered.mono
      have m1 := @kasai_quick.mono
      have m2 := @lex_Common.mono
      have m3 := @rank_Inverse.mono
      exact mB
    · intro y0 y1 y2 y3
      unfold kasai_LCP.l0
      have m0 := @kasai_ordered.mono
      have m1 := @kasai_quick.mono
      have m2 := @lex_Common.mono
      have m3 := @rank_Inverse.mono
      exact mB
theorem kasai_LCP.mono : ∀ a0 a1 k, LeO (kasai_LCP.f k a0 a1) (kasai_LCP.f (k + 1) a0 a1) := by
  intro a0 a1 k
  obtain ⟨ih0, ih1⟩ := kasai_LCP.mono_l k
  unfold kasai_LCP.f
  have m0 := @kasai_ordered.mono
  have m1 := @kasai_quick.mono
  have m2 := @lex_Common.mono
  have m3 := @rank_Inverse.mono
  exact mB
def kasai_LCP.T10 : Bool × List (List Nat × List Nat) := (true, [([], []), ([], []), ([], []), ([], []), ([], []), ([4], [4]), ([3, 5], [3, 5]), ([6], [6]), ([], []), ([], []), ([8, 9], [8, 9]), ([10], [10]), ([2, 7, 11], [2, 7, 11]), ([0, 1, 0, 1, 2, 3, 4, 5, 6, 7, 8, 9, 10, 11, 12], [0, 1]), ([13, 12, 12, 0, 1, 2, 3, 4, 5, 6, 7, 8, 9, 10, 11, 12], [12, 13])])
def kasai_LCP.B10 : List Nat := [0, 0, 0, 0, 0, 16, 56, 120, 0, 0, 768, 1792, 4092, 8191, 16383]
theorem kasai_LCP.tab10 : rtab .any (opsOf Tryz.f61 10) = kasai_LCP.T10 := by kernel_rfl
theorem kasai_LCP.bits10 : waitsOk kasai_LCP.T10.2 kasai_LCP.B10 = true := by kernel_rfl
set_option maxHeartbeats 8000000 in
set_option maxRecDepth 100000 in
theorem kasai_LCP.calls (k : Nat) (A0 : Option Addr) (c0 : Nat) (l0 : List Int) (A1 : Option Addr) (c1 : Nat) (l1 : List Int) (r1 : List Int) (r2 : Bool) (w : World) (hr0 : Kd.C (Kd.int .u8) w A0 l0.length l0) (hc0 : l0.length ≤ c0) (hr1 : Kd.C (Kd.int .i64) w A1 l1.length l1) (hc1 : l1.length ≤ c1) (h : kasai_LCP.f k l0 l1 = some (r1, r2)) :
    Calls Tryz.prog 61 #[.slice A0 l0.length c0, .slice A1 l1.length c1] w fun e w' => ∃ v0_ : Value, e = .returned (.tuple #[v0_, .bool r2]) ∧ Kd.R (Kd.int .i64) 3 w' w.heap.size (fun _ => True) v0_ r1 ∧ Below w.heap.size w w' := by
 have HR0 := Aside0.mk hr0
 have HC0 := Aside0.mk hc0
 clear hr0 hc0
 have HR1 := Aside0.mk hr1
 have HC1 := Aside0.mk hc1
 clear hr1 hc1
 have HB := Aside0.mk (Below.refl w.heap.size w)
 have H := h
 clear h
 unfold kasai_LCP.f at H
 obtain ⟨⟨t554, t555⟩, A3, H⟩ := bdS H
 try dsimp only at H
 have HC4 := Aside0.mk H
 clear H
 go_enter Tryz.func61, Tryz.ntmps61
 go_upto_region 2 with (first | ((with_reducible refine gate_callee (f := 72) rfl ?_); refine goesL_ (some 12) rfl rfl Tryz.func72 (by kernel_rfl) rfl #[.slice A1 l1.length c1] rfl aE ?_; (with_reducible refine (rank_Inverse.calls k _ _ l1 t554 t555 _ ?side1 ?side2 A3.out).mono ?_); (case side1 => exact uC HR1.out); (case side2 => exact HC1.out); rintro e w5 ⟨v556, rfl, ho0, hb⟩; refine ⟨_, rfl, ?_⟩; have n0_ := Aside0.mk (Kd.R_lower ho0 (below_size uB)); have n1_ := Aside0.mk (below_step uB hb); clear HB; have HO557 := n0_; have HB := n1_; clear n0_ n1_; (try clear hb); (try clear hb2); (try clear hk); (try clear hi); (try clear ho0)))
 (try simp only [Act.put, List.setIfInBounds_toArray, List.set_cons_zero, List.set_cons_succ])
 go_cut [23] (fun v23 wc => ∃ (kq : Nat) (x23_3 : Bool), v23 = .bool x23_3 ∧ Aside0 (kasai_LCP.j0 kq l0 l1 t554 x23_3 = some (r1, r2)) ∧ Aside0 (kq ≤ k) ∧ Aside0 (Kd.R (Kd.int .i64) 3 wc w.heap.size (fun _ => True) v556 t554) ∧ Aside0 (Below w.heap.size w wc))
 case first =>
  have H := HC4.out
  clear HC4
  by_cases c6 : t555 = true
  ·subst c6
   rw [if_pos rfl] at H
   have H' := Aside0.mk H
   clear H
   go_wp2
   go_meet
   case rel => exact ⟨_, (((l1.length : Int) != (l0.length : Int))), sD, H', ⟨by first | omega | exact Nat.le_refl _⟩, ⟨uR HO557.out⟩, ⟨uB⟩⟩
  ·replace c6 := Bool.eq_false_iff.mpr c6
   subst c6
   rw [if_neg (by decide)] at H
   have H' := Aside0.mk H
   clear H
   go_wp2
   go_meet
   case rel => exact ⟨_, (true), sD, H', ⟨by first | omega | exact Nat.le_refl _⟩, ⟨uR HO557.out⟩, ⟨uB⟩⟩
 case rest =>
  clear HC4
  try clear c1
  try clear p2
  try clear c6
  obtain ⟨kq, x23_3, rfl, HA, HJ3, HO_6, HB⟩ := hcut
  cases kq with
  | zero => exact absurd HA.out (by simp [kasai_LCP.j0])
  | succ kj3 =>
   have H := HA.out
   clear HA
   simp only [kasai_LCP.j0] at H
   by_cases c7 : x23_3 = true
   ·subst c7
    rw [if_pos rfl] at H
    simp only [Option.some.injEq, Prod.mk.injEq] at H
    obtain ⟨rfl, rfl⟩ := H
    go_wp2
    go_ret2
    exact ⟨_, eR, nL, uB⟩
   ·replace c7 := Bool.eq_false_iff.mpr c7
    subst c7
    rw [if_neg (by decide)] at H
    obtain ⟨t558, A8, H⟩ := bdS H
    try dsimp only at H
    by_cases c9 : t558 = true
    ·subst c9
     rw [if_pos rfl] at H
     obtain ⟨t559, A10, H⟩ := bdS H
     try dsimp only at H
     simp only [Option.some.injEq, Prod.mk.injEq] at H
     obtain ⟨rfl, rfl⟩ := H
     obtain ⟨Ao11, co11, eo11⟩ := Kd.R_slice HO_6.out
     subst eo11
     go_wp2_with (first | ((with_reducible refine gate_callee (f := 80) rfl ?_); refine goesL_ (some 27) rfl rfl Tryz.func80 (by kernel_rfl) rfl #[.slice A0 l0.length c0, .slice A1 l1.length c1, .slice Ao11 t554.length co11] rfl aE ?_; (with_reducible refine (kasai_ordered.calls kj3 _ _ l0 _ _ l1 _ _ t554 true _ ?side1 ?side2 ?side3 ?side4 ?side5 ?side6 A8.out).mono ?_); (case side1 => exact uC (Kd.C_below HR0.out HB.out)); (case side2 => exact HC0.out); (case side3 => exact uC (Kd.C_below HR1.out HB.out)); (case side4 => exact HC1.out); (case side5 => exact uC (Kd.R_reads' HO_6.out).2.2); (case side6 => exact (Kd.R_reads' HO_6.out).2.1); rintro e w' ⟨rfl, ⟨nd, rfl⟩⟩; refine ⟨_, rfl, ?_⟩) | ((with_reducible refine gate_callee (f := 81) rfl ?_); refine goesL_ (some 31) rfl rfl Tryz.func81 (by kernel_rfl) rfl #[.slice A0 l0.length c0, .slice A1 l1.length c1, .slice Ao11 t554.length co11] rfl aE ?_; (with_reducible refine (kasai_quick.calls kj3 _ _ l0 _ _ l1 _ _ t554 t559 _ ?side1 ?side2 ?side3 ?side4 ?side5 ?side6 A10.out).mono ?_); (case side1 => repeat (first | exact (Kd.C_below HR0.out uB) | (with_reducible refine Kd.C_alloc ?_ _) | (with_reducible refine Kd.C_drewN ?_ _) | (with_reducible refine Kd.C_drew ?_))); (case side2 => exact HC0.out); (case side3 => repeat (first | exact (Kd.C_below HR1.out uB) | (with_reducible refine Kd.C_alloc ?_ _) | (with_reducible refine Kd.C_drewN ?_ _) | (with_reducible refine Kd.C_drew ?_))); (case side4 => exact HC1.out); (case side5 => exact uC (Kd.R_reads' HO_6.out).2.2); (case side6 => exact (Kd.R_reads' HO_6.out).2.1); rintro e w12 ⟨v560, rfl, ho0, hb⟩; refine ⟨_, rfl, ?_⟩; have n0_ := Aside0.mk (Kd.R_elder' (uR HO_6.out) (Kd.R_base ho0) hb); have n1_ := Aside0.mk (Kd.R_lower (Kd.R_new' ho0 (Kd.R_lt (uR HO_6.out))) (below_size uB)); have n2_ := Aside0.mk (below_step uB hb); clear HO_6; clear HB; have HO_6 := n0_; have HO561 := n1_; have HB := n2_; clear n0_ n1_ n2_; (try clear hb); (try clear hb2); (try clear hk); (try clear hi); (try clear ho0)))
     go_ret2
     exact ⟨_, eR, by (with_reducible repeat (first | apply Kd.R_alloc | apply Kd.R_drewN | apply Kd.R_drew)); exact Kd.R_mono HO561.out (fun _ hk => trivial), uB⟩
    ·replace c9 := Bool.eq_false_iff.mpr c9
     subst c9
     rw [if_neg (by decide)] at H
     obtain ⟨c13b0, c13b1, H⟩ := ifE H
     obtain ⟨c14b0, c14b1, H⟩ := ifE H
     generalize hy562 : (List.replicate ((l1.length : Int) : Int).toNat 0 : List Int) = y562 at H
     try simp only [Option.bind_some] at H
     have Ny562 := Aside0.mk hy562.symm
     clear hy562
     have H' := Aside0.mk H
     clear H
     obtain ⟨Ao15, co15, eo15⟩ := Kd.R_slice HO_6.out
     subst eo15
     go_wp2_with (first | ((with_reducible refine gate_callee (f := 80) rfl ?_); refine goesL_ (some 27) rfl rfl Tryz.func80 (by kernel_rfl) rfl #[.slice A0 l0.length c0, .slice A1 l1.length c1, .slice Ao15 t554.length co15] rfl aE ?_; (with_reducible refine (kasai_ordered.calls kj3 _ _ l0 _ _ l1 _ _ t554 false _ ?side1 ?side2 ?side3 ?side4 ?side5 ?side6 A8.out).mono ?_); (case side1 => exact uC (Kd.C_below HR0.out HB.out)); (case side2 => exact HC0.out); (case side3 => exact uC (Kd.C_below HR1.out HB.out)); (case side4 => exact HC1.out); (case side5 => exact uC (Kd.R_reads' HO_6.out).2.2); (case side6 => exact (Kd.R_reads' HO_6.out).2.1); rintro e w' ⟨rfl, ⟨nd, rfl⟩⟩; refine ⟨_, rfl, ?_⟩) | ((with_reducible refine gate_dst (N := 34) rfl ?_); (try (refine gate_guard (by rfl) ?_; dsimp only)); refine Kd.R_make (Kd.int .i64) _ 3 rfl (N := 34) rfl 29 _ _ rfl (l1.length : Int) rfl rfl Tryz.underlying29 (.int .i64 0) 8 info3 rfl (by decide) (by omega) 0 (ok := fun _ => True) (okp := fun _ => True) rfl (fun _ hk => hk) trivial dT (Nat.le_trans (Nat.mul_le_mul_right _ (dT : (l1.length : Int).toNat ≤ 35184372088832)) (by omega)) (Below.refl _ _) (Nat.le_refl _) ?_; intro v563 w16 ho17 hb hg_ hnew_; clear hg_ hnew_; (first | rw [← Ny562.out] at ho17 | (simp only [Int.reduceToNat] at ho17; rw [← Ny562.out] at ho17)); have n0_ := Aside0.mk (Kd.R_elder' (uR HO_6.out) (Kd.R_base ho17) hb); have n1_ := Aside0.mk (Kd.R_lower (Kd.R_new' ho17 (Kd.R_lt (uR HO_6.out))) (below_size uB)); have n2_ := Aside0.mk (below_step uB hb); clear HO_6; clear HB; have HO_6 := n0_; have HO564 := n1_; have HB := n2_; clear n0_ n1_ n2_; clear hb ho17))
     go_loopg [9] kj3 (fun kq v9 w' => ∃ (x8_2 : List Int) (x9_2 : Int), v9 = .int .i64 x9_2 ∧ Aside0 (kasai_LCP.l0 kq l0 l1 x8_2 x9_2 = some (r1, r2)) ∧ Aside0 (kq ≤ kj3) ∧ Aside0 (Kd.R (Kd.int .i64) 3 w' w.heap.size (fun _ => True) v563 x8_2) ∧ Aside0 (Below w.heap.size w w'))
     case atStart => exact ⟨(y562), (1), sD, H', ⟨Nat.le_refl _⟩, ⟨by (with_reducible repeat (first | apply Kd.R_alloc | apply Kd.R_drewN | apply Kd.R_drew)); exact Kd.R_mono HO564.out (fun _ hk => trivial)⟩, ⟨uB⟩⟩
     case round =>
      clear H'
      try clear c1
      try clear p2
      try clear c6
      try clear c7
      try clear c8
      try clear c9
      try clear c13
      try clear c13b0
      try clear c13b1
      try clear c14
      try clear c14b0
      try clear c14b1
      try clear p2
      obtain ⟨x8_2, x9_2, rfl, HA, HK2, HO_8, HB⟩ := hrel
      cases gk with
      | zero => exact absurd HA.out (by simp [kasai_LCP.l0])
      | succ k2 =>
       have H := HA.out
       clear HA
       simp only [kasai_LCP.l0] at H
       rcases ifC H with ⟨c18b0, H⟩ | ⟨c18b0, H⟩
       ·obtain ⟨ji19, hji19⟩ : ∃ j_ : Int, (wrap64 (x9_2 - 1)) = j_ := ⟨_, rfl⟩
        first | rw [hji19] at H | simp only [hji19] at H
        have hji19w : (IntKind.i64.wrap (x9_2 - 1)) = ji19 := (i64_w _).trans hji19
        obtain ⟨c20b0, H⟩ := ifD H
        obtain ⟨c21b0, c22b0, H⟩ := ifD2 H
        obtain ⟨t567, A23, H⟩ := bdS H
        try dsimp only at H
        obtain ⟨c24b0, H⟩ := ifD H
        generalize hy568 : (x8_2.set (x9_2 : Int).toNat t567 : List Int) = y568 at H
        try simp only [Option.bind_some] at H
        have Ny568 := Aside0.mk hy568.symm
        clear hy568
        have H' := Aside0.mk H
        clear H
        try go_wp2
        have n0_ := Aside0.mk (Kd.R_drew HO_8.out)
        have n1_ := Aside0.mk (below_drew1 HB.out)
        clear HO_8
        clear HB
        have HO_8 := n0_
        have HB := n1_
        clear n0_ n1_
        obtain ⟨ad565, e565, hx565_0, p565, q565⟩ := rI HR1.out (ji19)
        have hw565_0 := hx565_0
        cases e565
        replace hx565_0 := (HB.out.cell (World.block_lt_of_cell? w _ hx565_0)).trans hx565_0
        obtain ⟨ad566, e566, hx566_0, p566, q566⟩ := rI HR1.out x9_2
        have hw566_0 := hx566_0
        obtain rfl : ad565 = ad566 := (by injection e566)
        replace hx566_0 := (HB.out.cell (World.block_lt_of_cell? w _ hx566_0)).trans hx566_0
        refine start_ (n := 15) (S := fun w' => w'.cell? (ad565.add ((ji19)).toNat) = some (.int .i64 (rd l1 (ji19))) ∧ w'.cell? (ad565.add (x9_2).toNat) = some (.int .i64 (rd l1 x9_2))) (ds := [14]) #[false, false, false, false, false, false, false, false, false, false, false, false, false, false, false] (by kernel_rfl) rfl rfl ⟨((HB.out.cell (World.block_lt_of_cell? w _ hw565_0)).trans hw565_0), ((HB.out.cell (World.block_lt_of_cell? w _ hw566_0)).trans hw566_0)⟩ (fun hHeld => ?_); refine with_tabW kasai_LCP.tab10 kasai_LCP.bits10 (fun HT_ HW_ => ?_)
        generalize wr.drew = w26 at HO_8 HB hx565_0 hx566_0 hHeld ⊢
        refine pY (i := 0) (N := some 41) (bs 0 15) ?_
        refine pY (i := 1) (N := some 42) (bs 1 15) ?_
        refine pY (i := 2) (N := some 43) (bs 2 15) ?_
        refine pY (i := 3) (N := some 44) (bs 3 15) ?_
        refine pY (i := 4) (N := some 45) (bs 4 15) ?_
        refine pY (i := 5) (N := some 46) (bs 5 15) ?_
        refine pY (i := 6) (N := some 47) (bs 6 15) ?_
        refine pY (i := 8) (N := some 49) #[true, true, true, true, true, true, true, false, true, false, false, false, false, false, false] ?_
        refine pY (i := 9) (N := some 50) #[true, true, true, true, true, true, true, false, true, true, false, false, false, false, false] ?_
        refine pY (i := 10) (N := some 51) #[true, true, true, true, true, true, true, false, true, true, true, false, false, false, false] ?_
        refine take_ (i := 7) (N := some 48) (v := ?_) (a' := ?_) (bs 10 15) rfl rfl (take_ofW HT_.out HW_.out (by kernel_rfl)) (fun _ _ _ h => h) (Or.inl ⟨by rfl, ?_⟩) hHeld ?_ ?_
        rotate_left
        ·rintro w' ⟨s0, s1⟩
         go_simp
         with_reducible rfl
        rotate_left
        ·simp only [Act.put, List.setIfInBounds_toArray, List.set_cons_zero, List.set_cons_succ, i64_w, i32_w]
         rfl
        refine take_ (i := 11) (N := some 52) (v := ?_) (a' := ?_) (bs 11 15) rfl rfl (take_ofW HT_.out HW_.out (by kernel_rfl)) (fun _ _ _ h => h) (Or.inl ⟨by rfl, ?_⟩) hHeld ?_ ?_
        rotate_left
        ·rintro w' ⟨s0, s1⟩
         go_simp
         with_reducible rfl
        rotate_left
        ·simp only [Act.put, List.setIfInBounds_toArray, List.set_cons_zero, List.set_cons_succ, i64_w, i32_w]
         rfl
        refine one_ (i := 12) (N := some 53) (bs 12 15) rfl rfl (one_of HT_.out (by kernel_rfl)) (by decide) (fun K hK => ?_)
        refine goes_ Tryz.func82 (by kernel_rfl) rfl #[.slice A0 l0.length c0, .int .i64 (rd l1 (ji19)), .int .i64 (rd l1 x9_2)] (by rfl) rfl rfl (by (try simp only [List.map_toArray, List.map_cons, List.map_nil]); first | done | (simp only [hji19]; rfl) | rfl | (simp only [List.length_drop, List.length_take]; rfl)) ?_
        with_reducible refine (lex_Common.calls k2 _ _ l0 (rd l1 (ji19)) (rd l1 x9_2) t567 _ ?side1 ?side2 A23.out).mono ?_
        (case side1 => exact uC (Kd.C_below HR0.out HB.out))
        (case side2 => exact HC0.out)
        rintro e w27 ⟨rfl, hb⟩
        refine ⟨_, rfl, ?_⟩
        have n0_ := Aside0.mk (Kd.R_below (uR HO_8.out) hb)
        have n1_ := Aside0.mk (below_step uB hb)
        clear HO_8
        clear HB
        have HO_8 := n0_
        have HB := n1_
        clear n0_ n1_
        (try clear hb)
        (try clear hb2)
        (try clear hk)
        (try clear hi)
        have p25 : 0 ≤ (x9_2 : Int) := dT
        have q25 : (x9_2 : Int) < ((x8_2.length : Int) : Int) := dT
        obtain ⟨go25, co25, eo25, gb25, gl25, cl25, HG25⟩ := Kd.R_form HO_8.out (by omega)
        (first | cases eo25 | (injection eo25 with ea_ en_ ec_; (first | subst ea_ | (injection ea_ with ea_; subst ea_)); subst ec_; clear en_))
        have GB25 := Aside0.mk gb25
        have GG25 := Aside0.mk HG25
        clear gb25 gl25 HG25
        obtain ⟨hx25_0, hf25_0⟩ := Kd.R_celln 0 HO_8.out (x9_2 : Int) p25 q25
        replace p25 := eq_true p25
        replace q25 := eq_true q25
        have HP28 := Kd.R_putn HO_8.out (x9_2 : Int) t567
        rw [← Ny568.out] at HP28
        have HQ28 := Aside0.mk HP28
        clear HP28
        refine hK.out _ _ ⟨((HB.out.cell (World.block_lt_of_cell? w _ hw565_0)).trans hw565_0), ((HB.out.cell (World.block_lt_of_cell? w _ hw566_0)).trans hw566_0)⟩ (fun hHeld => ?_)
        clear hK K
        refine norm_ (a' := ?_) ?_ ?_
        rotate_left
        ·show Act.put _ (some 53) _ = _
         simp only [Act.put, List.setIfInBounds_toArray, List.set_cons_zero, List.set_cons_succ, i64_w, i32_w]
         rfl
        refine pY (i := 13) (N := some 54) (bs 13 15) ?_
        refine last_ (i := 14) (N := none) (bs 14 15) rfl rfl (one_of HT_.out (by kernel_rfl)) (by decide) (fun K hK => ?_)
        refine skip_ (w1 := ?_) (by rfl) rfl ?_ ?_
        rotate_left
        ·go_simp
         rfl
        refine hK.out _ _ ?_
        clear hK K
        refine done_ (done_of HT_.out (by kernel_rfl)) ?_
        try go_wp2
        go_roundg k2
        case measure => have := HJ3.out; have := HK2.out; omega
        case rel => exact ⟨(y568), (wrap64 (x9_2 + 1)), sD, H', ⟨by have := HJ3.out; have := HK2.out; omega⟩, ⟨uR HQ28.out⟩, ⟨by repeat (first | (with_reducible first | exact HB.out | apply below_alloc | apply pw_below_drewN | apply below_drew1 | refine below_set ?_ GB25.out) | exact HB.out)⟩⟩
       ·simp only [Option.some.injEq, Prod.mk.injEq] at H
        obtain ⟨rfl, rfl⟩ := H
        go_wp2
        go_ret2
        exact ⟨_, eR, uR HO_8.out, uB⟩
def rank_Is.f (k : Nat) (l0 : List Int) : Option (Bool) := (rank_Inverse.f k l0).bind fun bt569 => (some bt569.2)
theorem rank_Is.mono : ∀ a0 k, LeO (rank_Is.f k a0) (rank_Is.f (k + 1) a0) := by
  intro a0 k
  unfold rank_Is.f
  have m0 := @rank_Inverse.mono
  exact mB
set_option maxHeartbeats 8000000 in
set_option maxRecDepth 100000 in
theorem rank_Is.calls (k : Nat) (A0 : Option Addr) (c0 : Nat) (l0 : List Int) (r : Bool) (w : World) (hr0 : Kd.C (Kd.int .i64) w A0 l0.length l0) (hc0 : l0.length ≤ c0) (h : rank_Is.f k l0 = some r) :
    Calls Tryz.prog 70 #[.slice A0 l0.length c0] w fun e w' => e = .returned (.bool r) ∧ Below w.heap.size w w' := by
 have HR0 := Aside0.mk hr0
 have HC0 := Aside0.mk hc0
 clear hr0 hc0
 have HB := Aside0.mk (Below.refl w.heap.size w)
 have H := h
 clear h
 unfold rank_Is.f at H
 obtain ⟨⟨t569, t570⟩, A2, H⟩ := bdS H
 try dsimp only at H
 obtain rfl := Option.some.inj H
 go_enter Tryz.func70, Tryz.ntmps70
 go_wp2_with (first | ((with_reducible refine gate_callee (f := 72) rfl ?_); refine goesL_ (some 7) rfl rfl Tryz.func72 (by kernel_rfl) rfl #[.slice A0 l0.length c0] rfl aE ?_; (with_reducible refine (rank_Inverse.calls k _ _ l0 t569 t570 _ ?side1 ?side2 A2.out).mono ?_); (case side1 => exact uC HR0.out); (case side2 => exact HC0.out); rintro e w3 ⟨v571, rfl, ho0, hb⟩; refine ⟨_, rfl, ?_⟩; have n0_ := Aside0.mk (Kd.R_lower ho0 (below_size uB)); have n1_ := Aside0.mk (below_step uB hb); clear HB; have HO572 := n0_; have HB := n1_; clear n0_ n1_; (try clear hb); (try clear hb2); (try clear hk); (try clear hi); (try clear ho0)))
 go_ret
 exact ⟨eR, uB⟩
end Go.Proofs.YtbbpplnnegdenaaGreat.PTopPipe
end
section
namespace Go.Proofs.YtbbpplnnegdenaaGreat.PTopPipe
open Go.RowKit Go.Proofs.YtbbpplnnegdenaaGreatW.PrintWords Go.Proofs.YtbbpplnnegdenaaGreatW.PrintLast Go.Proofs.YtbbpplnnegdenaaGreatW.PrintMore
attribute [local go_sem] max2_int min2_int max_two min_two max_three min_three max_four min_four
set_option linter.unusedVariables false
set_option linter.unusedSimpArgs false
def phi_Ahead.l0 : Nat → List Int → Int → List Int → Int → Int → Option (List Int × Bool)
  | 0, _, _, _, _, _ => none
  | k + 1, x4, x5, x14, x15, x16 => if x16 < x15 then (if 0 ≤ x16 then (if x16 < (x14.length : Int) then (if 0 ≤ (rd x14 x16) then (if (rd x14 x16) < (x4.length : Int) then (phi_Ahead.l0 k (x4.set ((rd x14 x16) : Int).toNat x5) (rd x14 x16) x14 x15 (wrap64 (x16 + 1))) else (none)) else (none)) else (none)) else (none)) else (some (x4, true))
def phi_Ahead.f (k : Nat) (l0 : List Int) : Option (List Int × Bool) := (rank_Is.f k l0).bind fun t573 => (if t573 = true then (if 0 ≤ (l0.length : Int) then (if ((l0.length : Int) : Int).toNat ≤ 35184372088832 then (phi_Ahead.l0 k (List.replicate ((l0.length : Int) : Int).toNat 0) (-1) l0 (l0.length : Int) 0) else (none)) else (none)) else (some (([] : List Int), false)))
theorem phi_Ahead.mono_l : ∀ k, (∀ y0 y1 y2 y3 y4, LeO (phi_Ahead.l0 k y0 y1 y2 y3 y4) (phi_Ahead.l0 (k + 1) y0 y1 y2 y3 y4))
  | 0 => fun _ _ _ _ _ r h => by simp [phi_Ahead.l0] at h
  | k + 1 => by
    have ih0 := phi_Ahead.mono_l k
    · intro y0 y1 y2 y3 y4
      unfold phi_Ahead.l0
      have m0 := @rank_Is.mono
      exact mB
theorem phi_Ahead.mono : ∀ a0 k, LeO (phi_Ahead.f k a0) (phi_Ahead.f (k + 1) a0) := by
  intro a0 k
  have ih0 := phi_Ahead.mono_l k
  unfold phi_Ahead.f
  have m0 := @rank_Is.mono
  exact mB
set_option maxHeartbeats 8000000 in
set_option maxRecDepth 100000 in
theorem phi_Ahead.calls (k : Nat) (A0 : Option Addr) (c0 : Nat) (l0 : List Int) (r1 : List Int) (r2 : Bool) (w : World) (hr0 : Kd.C (Kd.int .i64) w A0 l0.length l0) (hc0 : l0.length ≤ c0) (h : phi_Ahead.f k l0 = some (r1, r2)) :
    Calls Tryz.prog 99 #[.slice A0 l0.length c0] w fun e w' => ∃ v0_ : Value, e = .returned (.tuple #[v0_, .bool r2]) ∧ Kd.R (Kd.int .i64) 3 w' w.heap.size (fun _ => True) v0_ r1 ∧ Below w.heap.size w w' := by
 have HR0 := Aside0.mk hr0
 have HC0 := Aside0.mk hc0
 clear hr0 hc0
 have HB := Aside0.mk (Below.refl w.heap.size w)
 have H := h
 clear h
 unfold phi_Ahead.f at H
 obtain ⟨t573, A2, H⟩ := bdS H
 try dsimp only at H
 by_cases c3 : t573 = true
 ·subst c3
  rw [if_pos rfl] at H
  obtain ⟨c4b0, c4b1, H⟩ := ifE H
  obtain ⟨c5b0, c5b1, H⟩ := ifE H
  generalize hy574 : (List.replicate ((l0.length : Int) : Int).toNat 0 : List Int) = y574 at H
  try simp only [Option.bind_some] at H
  have Ny574 := Aside0.mk hy574.symm
  clear hy574
  have H' := Aside0.mk H
  clear H
  go_enter Tryz.func99, Tryz.ntmps99
  go_wp2_with (first | ((with_reducible refine gate_callee (f := 70) rfl ?_); refine goesL_ (some 9) rfl rfl Tryz.func70 (by kernel_rfl) rfl #[.slice A0 l0.length c0] rfl aE ?_; (with_reducible refine (rank_Is.calls k _ _ l0 true _ ?side1 ?side2 A2.out).mono ?_); (case side1 => exact uC HR0.out); (case side2 => exact HC0.out); rintro e w6 ⟨rfl, hb⟩; refine ⟨_, rfl, ?_⟩; have n0_ := Aside0.mk (below_step uB hb); clear HB; have HB := n0_; clear n0_; (try clear hb); (try clear hb2); (try clear hk); (try clear hi)) | ((with_reducible refine gate_dst (N := 13) rfl ?_); refine Kd.R_make (Kd.int .i64) _ 3 rfl (N := 13) rfl 29 _ _ rfl (l0.length : Int) rfl rfl Tryz.underlying29 (.int .i64 0) 8 info3 rfl (by decide) (by omega) 0 (ok := fun _ => True) (okp := fun _ => True) rfl (fun _ hk => hk) trivial dT (Nat.le_trans (Nat.mul_le_mul_right _ (dT : (l0.length : Int).toNat ≤ 35184372088832)) (by omega)) (Below.refl _ _) (Nat.le_refl _) ?_; intro v575 w7 ho8 hb hg_ hnew_; clear hg_ hnew_; (first | rw [← Ny574.out] at ho8 | (simp only [Int.reduceToNat] at ho8; rw [← Ny574.out] at ho8)); have n0_ := Aside0.mk (Kd.R_lower ho8 (below_size uB)); have n1_ := Aside0.mk (below_step uB hb); clear HB; have HO576 := n0_; have HB := n1_; clear n0_ n1_; clear hb ho8))
  go_loopg [5, 16] k (fun kq v5 v16 w' => ∃ (x4_1 : List Int) (x5_1 : Int) (x16_1 : Int), v5 = .int .i64 x5_1 ∧ v16 = .int .i64 x16_1 ∧ Aside0 (phi_Ahead.l0 kq x4_1 x5_1 l0 (l0.length : Int) x16_1 = some (r1, r2)) ∧ Aside0 (kq ≤ k) ∧ Aside0 (Kd.R (Kd.int .i64) 3 w' w.heap.size (fun _ => True) v575 x4_1) ∧ Aside0 (Below w.heap.size w w'))
  case atStart => exact ⟨(y574), ((-1)), (0), sD, sD, H', ⟨Nat.le_refl _⟩, ⟨uR HO576.out⟩, ⟨uB⟩⟩
  case round =>
   clear H'
   try clear p2
   try clear c3
   try clear c4
   try clear c4b0
   try clear c4b1
   try clear c5
   try clear c5b0
   try clear c5b1
   try clear c7
   obtain ⟨x4_1, x5_1, x16_1, rfl, rfl, HA, HK1, HO_4, HB⟩ := hrel
   cases gk with
   | zero => exact absurd HA.out (by simp [phi_Ahead.l0])
   | succ k1 =>
    have H := HA.out
    clear HA
    simp only [phi_Ahead.l0] at H
    rcases ifC H with ⟨c9b0, H⟩ | ⟨c9b0, H⟩
    ·obtain ⟨c10b0, c11b0, H⟩ := ifD2 H
     obtain ⟨c12b0, c13b0, H⟩ := ifD2 H
     generalize hy578 : (x4_1.set ((rd l0 x16_1) : Int).toNat x5_1 : List Int) = y578 at H
     try simp only [Option.bind_some] at H
     have Ny578 := Aside0.mk hy578.symm
     clear hy578
     have H' := Aside0.mk H
     clear H
     obtain ⟨ad577, e577, hx577_0, p577, q577⟩ := rIO HB.out HR0.out x16_1
     cases e577
     have p14 : 0 ≤ ((rd l0 x16_1) : Int) := dT
     have q14 : ((rd l0 x16_1) : Int) < ((x4_1.length : Int) : Int) := dT
     obtain ⟨go14, co14, eo14, gb14, gl14, cl14, HG14⟩ := Kd.R_form HO_4.out (by omega)
     (first | cases eo14 | (injection eo14 with ea_ en_ ec_; (first | subst ea_ | (injection ea_ with ea_; subst ea_)); subst ec_; clear en_))
     have GB14 := Aside0.mk gb14
     have GG14 := Aside0.mk HG14
     clear gb14 gl14 HG14
     obtain ⟨hx14_0, hf14_0⟩ := Kd.R_celln 0 HO_4.out ((rd l0 x16_1) : Int) p14 q14
     replace p14 := eq_true p14
     replace q14 := eq_true q14
     have HP15 := Kd.R_putg HO_4.out ((rd l0 x16_1) : Int) x5_1
     go_wp2_with (first | ((with_reducible refine gate_store (t := 3) (p := 24) rfl ?_); refine store_event (t := 3) (p := 24) (v := ?vo_w16) (w1 := (wr.setCell ⟨go14, ((rd l0 x16_1) : Int).toNat, none⟩ (.int .i64 x5_1))) ?hg ?ho ?hn ?hr ?_; (case ho => rfl); (case hg => rfl); (case hn => rfl); (case hr => first | (go_simp; done) | (go_simp; rfl)); intro w16 hw; have hg : wr.grownBy w16 (some go14) := (by rw [hw]; exact HP15.2); have hp_ : Kd.R (Kd.int .i64) 3 w16 w.heap.size (fun _ => True) (.slice (some ⟨go14, 0, none⟩) x4_1.length co14) y578 := (by rw [hw, Ny578.out]; exact HP15.1); clear HP15; have n0_ := Aside0.mk (hp_); have n1_ := Aside0.mk ((by rw [hw]; exact below_set (HB.out) GB14.out : Below w.heap.size w w16)); clear HO_4; clear HB; have HO_4 := n0_; have HB := n1_; clear n0_ n1_; clear hg hw hp_))
     go_roundg k1
     case measure => have := HK1.out; omega
     case rel => exact ⟨(y578), (rd l0 x16_1), (wrap64 (x16_1 + 1)), sD, sD, H', ⟨by have := HK1.out; omega⟩, ⟨uR HO_4.out⟩, ⟨uB⟩⟩
    ·simp only [Option.some.injEq, Prod.mk.injEq] at H
     obtain ⟨rfl, rfl⟩ := H
     go_wp2
     go_ret2
     exact ⟨_, eR, uR HO_4.out, uB⟩
 ·replace c3 := Bool.eq_false_iff.mpr c3
  subst c3
  rw [if_neg (by decide)] at H
  simp only [Option.some.injEq, Prod.mk.injEq] at H
  obtain ⟨rfl, rfl⟩ := H
  go_enter Tryz.func99, Tryz.ntmps99
  go_wp2_with (first | ((with_reducible refine gate_callee (f := 70) rfl ?_); refine goesL_ (some 9) rfl rfl Tryz.func70 (by kernel_rfl) rfl #[.slice A0 l0.length c0] rfl aE ?_; (with_reducible refine (rank_Is.calls k _ _ l0 false _ ?side1 ?side2 A2.out).mono ?_); (case side1 => exact uC HR0.out); (case side2 => exact HC0.out); rintro e w17 ⟨rfl, hb⟩; refine ⟨_, rfl, ?_⟩; have n0_ := Aside0.mk (below_step uB hb); clear HB; have HB := n0_; clear n0_; (try clear hb); (try clear hb2); (try clear hk); (try clear hi)))
  go_ret2
  exact ⟨_, eR, nL, uB⟩
def phi_falls.l0 : Nat → List Int → List Int → List Int → List Int → Int → Int → Option (Bool)
  | 0, _, _, _, _, _, _ => none
  | k + 1, x0, x1, x5, x18, x19, x20 => if x20 < x19 then (if 0 ≤ x20 then (if x20 < (x18.length : Int) then (if x20 = 0 then (phi_falls.l0 k x0 x1 x5 x18 x19 (wrap64 (x20 + 1))) else (if 0 ≤ (wrap64 (x20 - 1)) then (if (wrap64 (x20 - 1)) < (x1.length : Int) then (if 0 ≤ (rd x1 (wrap64 (x20 - 1))) then (if (rd x1 (wrap64 (x20 - 1))) < (x0.length : Int) then (if 0 ≤ (rd x18 x20) then (if (rd x18 x20) < (x0.length : Int) then (if (rd x0 (rd x1 (wrap64 (x20 - 1)))) > (rd x0 (rd x18 x20)) then (some false) else (if (rd x0 (rd x1 (wrap64 (x20 - 1)))) = (rd x0 (rd x18 x20)) then (if 0 ≤ (wrap64 ((rd x1 (wrap64 (x20 - 1))) + 1)) then (if (wrap64 ((rd x1 (wrap64 (x20 - 1))) + 1)) < (x5.length : Int) then (if 0 ≤ (wrap64 ((rd x18 x20) + 1)) then (if (wrap64 ((rd x18 x20) + 1)) < (x5.length : Int) then (if (rd x5 (wrap64 ((rd x1 (wrap64 (x20 - 1))) + 1))) > (rd x5 (wrap64 ((rd x18 x20) + 1))) then (some false) else (phi_falls.l0 k x0 x1 x5 x18 x19 (wrap64 (x20 + 1)))) else (none)) else (none)) else (none)) else (none)) else (phi_falls.l0 k x0 x1 x5 x18 x19 (wrap64 (x20 + 1))))) else (none)) else (none)) else (none)) else (none)) else (none)) else (none))) else (none)) else (none)) else (some true)
def phi_falls.f (k : Nat) (l0 : List Int) (l1 : List Int) : Option (Bool) := (rank_Inverse.f k l1).bind fun bt579 => (if bt579.1.length < 17592186044416 then (phi_falls.l0 k l0 l1 (bt579.1 ++ [(-1)]) l1 (l1.length : Int) 0) else (none))
theorem phi_falls.mono_l : ∀ k, (∀ y0 y1 y2 y3 y4 y5, LeO (phi_falls.l0 k y0 y1 y2 y3 y4 y5) (phi_falls.l0 (k + 1) y0 y1 y2 y3 y4 y5))
  | 0 => fun _ _ _ _ _ _ r h => by simp [phi_falls.l0] at h
  | k + 1 => by
    have ih0 := phi_falls.mono_l k
    · intro y0 y1 y2 y3 y4 y5
      unfold phi_falls.l0
      have m0 := @rank_Inverse.mono
      exact mB
theorem phi_falls.mono : ∀ a0 a1 k, LeO (phi_falls.f k a0 a1) (phi_falls.f (k + 1) a0 a1) := by
  intro a0 a1 k
  have ih0 := phi_falls.mono_l k
  unfold phi_falls.f
  have m0 := @rank_Inverse.mono
  exact mB
set_option maxHeartbeats 8000000 in
set_option maxRecDepth 100000 in
theorem phi_falls.calls (k : Nat) (A0 : Option Addr) (c0 : Nat) (l0 : List Int) (A1 : Option Addr) (c1 : Nat) (l1 : List Int) (r : Bool) (w : World) (hr0 : Kd.C (Kd.int .u8) w A0 l0.length l0) (hc0 : l0.length ≤ c0) (hr1 : Kd.C (Kd.int .i64) w A1 l1.length l1) (hc1 : l1.length ≤ c1) (h : phi_falls.f k l0 l1 = some r) :
    Calls Tryz.prog 100 #[.slice A0 l0.length c0, .slice A1 l1.length c1] w fun e w' => e = .returned (.bool r) ∧ Below w.heap.size w w' := by
 have HR0 := Aside0.mk hr0
 have HC0 := Aside0.mk hc0
 clear hr0 hc0
 have HR1 := Aside0.mk hr1
 have HC1 := Aside0.mk hc1
 clear hr1 hc1
 have HB := Aside0.mk (Below.refl w.heap.size w)
 have H := h
 clear h
 unfold phi_falls.f at H
 obtain ⟨⟨t579, t580⟩, A3, H⟩ := bdS H
 try dsimp only at H
 obtain ⟨c4, H⟩ := ifP H
 have LMc4 := Aside0.mk c4
 clear c4
 generalize hy583 : (t579 ++ [(-1)] : List Int) = y583 at H
 try simp only [Option.bind_some] at H
 have Ny583 := Aside0.mk hy583.symm
 clear hy583
 have H' := Aside0.mk H
 clear H
 go_enter Tryz.func100, Tryz.ntmps100
 go_wp2_with (first | (go_at_call 72; (with_reducible refine (rank_Inverse.calls k _ _ l1 t579 t580 _ ?side1 ?side2 A3.out).mono ?_); (case side1 => exact uC HR1.out); (case side2 => exact HC1.out); rintro e w5 ⟨v581, rfl, ho0, hb⟩; have n0_ := Aside0.mk (Kd.R_lower ho0 (below_size uB)); have n1_ := Aside0.mk (below_step uB hb); clear HB; have HO582 := n0_; have HB := n1_; clear n0_ n1_; (try clear hb); (try clear hb2); (try clear hk); (try clear hi); (try clear ho0)) | ((with_reducible refine gate_builtin (b := .append) (xs := #[.tmp 15, .tmp 16]) rfl ?_); at_builtin; refine Kd.R_append (Kd.int .i64) (w0 := w) w.heap.size rfl (.tmp 15) (.tmp 16) 29 3 (.int .i64 0) 8 rfl Tryz.underlying29 info3 rfl (by decide) (by omega) v581 t579 (-1) [.int .i64 (-1)] (fun _ => True) (fun _ => False) rfl rfl ?aP (fun _ hk => hk.elim) ?aF ?aO ?aB ?aS ?aL ?_; (case aP => exact rfl); (case aB => exact uB); (case aF => exact (fun _ _ => trivial)); (case aO => exact (uR HO582.out)); (case aS => exact (below_size uB)); (case aL => have := LMc4.out; omega); intro v584 w6 ho hb hg hat; rw [← Ny583.out] at ho; have n0_ := Aside0.mk (hb); have n1_ := Aside0.mk (ho); clear HB; clear HO582; have HB := n0_; have HO585 := n1_; clear n0_ n1_; clear ho hb hg hat))
 repeat (go_quiet (first | (go_at_call 72; (with_reducible refine (rank_Inverse.calls k _ _ l1 t579 t580 _ ?side1 ?side2 A3.out).mono ?_); (case side1 => exact uC HR1.out); (case side2 => exact HC1.out); rintro e w5 ⟨v581, rfl, ho0, hb⟩; have n0_ := Aside0.mk (Kd.R_lower ho0 (below_size uB)); have n1_ := Aside0.mk (below_step uB hb); clear HB; have HO582 := n0_; have HB := n1_; clear n0_ n1_; (try clear hb); (try clear hb2); (try clear hk); (try clear hi); (try clear ho0)) | ((with_reducible refine gate_builtin (b := .append) (xs := #[.tmp 15, .tmp 16]) rfl ?_); at_builtin; refine Kd.R_append (Kd.int .i64) (w0 := w) w.heap.size rfl (.tmp 15) (.tmp 16) 29 3 (.int .i64 0) 8 rfl Tryz.underlying29 info3 rfl (by decide) (by omega) v581 t579 (-1) [.int .i64 (-1)] (fun _ => True) (fun _ => False) rfl rfl ?aP (fun _ hk => hk.elim) ?aF ?aO ?aB ?aS ?aL ?_; (case aP => exact rfl); (case aB => exact uB); (case aF => exact (fun _ _ => trivial)); (case aO => exact (uR HO582.out)); (case aS => exact (below_size uB)); (case aL => have := LMc4.out; omega); intro v584 w6 ho hb hg hat; rw [← Ny583.out] at ho; have n0_ := Aside0.mk (hb); have n1_ := Aside0.mk (ho); clear HB; clear HO582; have HB := n0_; have HO585 := n1_; clear n0_ n1_; clear ho hb hg hat)); try go_wp2_with (first | (go_at_call 72; (with_reducible refine (rank_Inverse.calls k _ _ l1 t579 t580 _ ?side1 ?side2 A3.out).mono ?_); (case side1 => exact uC HR1.out); (case side2 => exact HC1.out); rintro e w5 ⟨v581, rfl, ho0, hb⟩; have n0_ := Aside0.mk (Kd.R_lower ho0 (below_size uB)); have n1_ := Aside0.mk (below_step uB hb); clear HB; have HO582 := n0_; have HB := n1_; clear n0_ n1_; (try clear hb); (try clear hb2); (try clear hk); (try clear hi); (try clear ho0)) | ((with_reducible refine gate_builtin (b := .append) (xs := #[.tmp 15, .tmp 16]) rfl ?_); at_builtin; refine Kd.R_append (Kd.int .i64) (w0 := w) w.heap.size rfl (.tmp 15) (.tmp 16) 29 3 (.int .i64 0) 8 rfl Tryz.underlying29 info3 rfl (by decide) (by omega) v581 t579 (-1) [.int .i64 (-1)] (fun _ => True) (fun _ => False) rfl rfl ?aP (fun _ hk => hk.elim) ?aF ?aO ?aB ?aS ?aL ?_; (case aP => exact rfl); (case aB => exact uB); (case aF => exact (fun _ _ => trivial)); (case aO => exact (uR HO582.out)); (case aS => exact (below_size uB)); (case aL => have := LMc4.out; omega); intro v584 w6 ho hb hg hat; rw [← Ny583.out] at ho; have n0_ := Aside0.mk (hb); have n1_ := Aside0.mk (ho); clear HB; clear HO582; have HB := n0_; have HO585 := n1_; clear n0_ n1_; clear ho hb hg hat)))
 go_loopg [20] k (fun kq v20 w' => ∃ (x20_1 : Int), v20 = .int .i64 x20_1 ∧ Aside0 (phi_falls.l0 kq l0 l1 y583 l1 (l1.length : Int) x20_1 = some r) ∧ Aside0 (kq ≤ k) ∧ Aside0 (Kd.R (Kd.int .i64) 3 w' w.heap.size (fun _ => True) v584 y583) ∧ Aside0 (Below w.heap.size w w'))
 case atStart => exact ⟨(0), sD, H', ⟨Nat.le_refl _⟩, ⟨uR HO585.out⟩, ⟨uB⟩⟩
 case round =>
  clear H'
  try clear c1
  try clear p2
  try clear c4
  obtain ⟨x20_1, rfl, HA, HK1, HO_5, HB⟩ := hrel
  cases gk with
  | zero => exact absurd HA.out (by simp [phi_falls.l0])
  | succ k1 =>
   have H := HA.out
   clear HA
   simp only [phi_falls.l0] at H
   rcases ifC H with ⟨c7b0, H⟩ | ⟨c7b0, H⟩
   ·obtain ⟨c8b0, c9b0, H⟩ := ifD2 H
    by_cases c10 : x20_1 = 0
    ·rw [if_pos c10] at H
     have c10b0 : (x20_1 == 0) = true := beq_iff_eq.mpr c10
     have c10b1 : (x20_1 != 0) = false := bne_eq_false_iff_eq.mpr c10
     clear c10
     have H' := Aside0.mk H
     clear H
     obtain ⟨ad586, e586, hx586_0, p586, q586⟩ := rIO HB.out HR1.out x20_1
     cases e586
     go_wp2
     repeat (go_quiet (fail); try go_wp2)
     go_roundg k1
     case measure => have := HK1.out; omega
     case rel => exact ⟨(wrap64 (x20_1 + 1)), sD, H', ⟨by have := HK1.out; omega⟩, ⟨uR HO_5.out⟩, ⟨uB⟩⟩
    ·rw [if_neg c10] at H
     have c10b0 : (x20_1 == 0) = false := beq_eq_false_iff_ne.mpr c10
     have c10b1 : (x20_1 != 0) = true := bne_iff_ne.mpr c10
     obtain ⟨ji11, hji11⟩ : ∃ j_ : Int, (wrap64 (x20_1 - 1)) = j_ := ⟨_, rfl⟩
     first | rw [hji11] at H | simp only [hji11] at H
     have hji11w : (IntKind.i64.wrap (x20_1 - 1)) = ji11 := (i64_w _).trans hji11
     obtain ⟨c12b0, c13b0, H⟩ := ifD2 H
     obtain ⟨c14b0, c15b0, H⟩ := ifD2 H
     obtain ⟨c16b0, c17b0, H⟩ := ifD2 H
     rcases ifK H with ⟨c18b0, H⟩ | ⟨c18b0, H⟩
     ·obtain rfl := Option.some.inj H
      obtain ⟨ad586, e586, hx586_0, p586, q586⟩ := rIO HB.out HR1.out x20_1
      cases e586
      obtain ⟨ad587, e587, hx587_0, p587, q587⟩ := rIO HB.out HR1.out (ji11)
      obtain rfl : ad586 = ad587 := (by injection e587)
      obtain ⟨ad588, e588, hx588_0, p588, q588⟩ := rIO HB.out HR0.out (rd l1 (ji11))
      cases e588
      obtain ⟨ad589, e589, hx589_0, p589, q589⟩ := rIO HB.out HR0.out (rd l1 x20_1)
      obtain rfl : ad588 = ad589 := (by injection e589)
      go_wp2
      repeat (go_quiet (fail); try go_wp2)
      go_ret
      exact ⟨by first | rfl | (simp [errW_none, errW_some] <;> rfl) | (simp only [← hji11]; first | rfl | (simp [errW_none, errW_some] <;> rfl)) | (simp [*, errW_none, errW_some] <;> rfl), uB⟩
     ·by_cases c19 : (rd l0 (rd l1 (ji11))) = (rd l0 (rd l1 x20_1))
      ·rw [if_pos c19] at H
       have c19b0 : ((rd l0 (rd l1 (ji11))) == (rd l0 (rd l1 x20_1))) = true := beq_iff_eq.mpr c19
       have c19b1 : ((rd l0 (rd l1 (ji11))) != (rd l0 (rd l1 x20_1))) = false := bne_eq_false_iff_eq.mpr c19
       clear c19
       obtain ⟨ji20, hji20⟩ : ∃ j_ : Int, (wrap64 ((rd l1 (ji11)) + 1)) = j_ := ⟨_, rfl⟩
       first | rw [hji20] at H | simp only [hji20] at H
       have hji20w : (IntKind.i64.wrap ((rd l1 (ji11)) + 1)) = ji20 := (i64_w _).trans hji20
       obtain ⟨c21b0, c22b0, H⟩ := ifD2 H
       obtain ⟨ji23, hji23⟩ : ∃ j_ : Int, (wrap64 ((rd l1 x20_1) + 1)) = j_ := ⟨_, rfl⟩
       first | rw [hji23] at H | simp only [hji23] at H
       have hji23w : (IntKind.i64.wrap ((rd l1 x20_1) + 1)) = ji23 := (i64_w _).trans hji23
       obtain ⟨c24b0, c25b0, H⟩ := ifD2 H
       rcases ifK H with ⟨c26b0, H⟩ | ⟨c26b0, H⟩
       ·obtain rfl := Option.some.inj H
        obtain ⟨ad586, e586, hx586_0, p586, q586⟩ := rIO HB.out HR1.out x20_1
        cases e586
        obtain ⟨ad587, e587, hx587_0, p587, q587⟩ := rIO HB.out HR1.out (ji11)
        obtain rfl : ad586 = ad587 := (by injection e587)
        obtain ⟨ad588, e588, hx588_0, p588, q588⟩ := rIO HB.out HR0.out (rd l1 (ji11))
        cases e588
        obtain ⟨ad589, e589, hx589_0, p589, q589⟩ := rIO HB.out HR0.out (rd l1 x20_1)
        obtain rfl : ad588 = ad589 := (by injection e589)
        obtain ⟨ad590, e590, hx590_0, p590, q590⟩ := rIO HB.out HR0.out (rd l1 (ji11))
        obtain rfl : ad588 = ad590 := (by injection e590)
        obtain ⟨ad591, e591, hx591_0, p591, q591⟩ := rIO HB.out HR0.out (rd l1 x20_1)
        obtain rfl : ad588 = ad591 := (by injection e591)
        obtain ⟨Ao27, co27, eo27⟩ := Kd.R_slice HO_5.out
        subst eo27
        obtain ⟨ad592, e592, hx592_0, p592, q592⟩ := rI (Kd.R_reads' HO_5.out).2.2 (ji20)
        cases e592
        obtain ⟨ad593, e593, hx593_0, p593, q593⟩ := rI (Kd.R_reads' HO_5.out).2.2 (ji23)
        obtain rfl : ad592 = ad593 := (by injection e593)
        go_wp2
        repeat (go_quiet (fail); try go_wp2)
        go_ret
        exact ⟨by first | rfl | (simp [errW_none, errW_some] <;> rfl) | (simp only [← hji11, ← hji20, ← hji23]; first | rfl | (simp [errW_none, errW_some] <;> rfl)) | (simp [*, errW_none, errW_some] <;> rfl), uB⟩
       ·have H' := Aside0.mk H
        clear H
        obtain ⟨ad586, e586, hx586_0, p586, q586⟩ := rIO HB.out HR1.out x20_1
        cases e586
        obtain ⟨ad587, e587, hx587_0, p587, q587⟩ := rIO HB.out HR1.out (ji11)
        obtain rfl : ad586 = ad587 := (by injection e587)
        obtain ⟨ad588, e588, hx588_0, p588, q588⟩ := rIO HB.out HR0.out (rd l1 (ji11))
        cases e588
        obtain ⟨ad589, e589, hx589_0, p589, q589⟩ := rIO HB.out HR0.out (rd l1 x20_1)
        obtain rfl : ad588 = ad589 := (by injection e589)
        obtain ⟨ad590, e590, hx590_0, p590, q590⟩ := rIO HB.out HR0.out (rd l1 (ji11))
        obtain rfl : ad588 = ad590 := (by injection e590)
        obtain ⟨ad591, e591, hx591_0, p591, q591⟩ := rIO HB.out HR0.out (rd l1 x20_1)
        obtain rfl : ad588 = ad591 := (by injection e591)
        obtain ⟨Ao28, co28, eo28⟩ := Kd.R_slice HO_5.out
        subst eo28
        obtain ⟨ad592, e592, hx592_0, p592, q592⟩ := rI (Kd.R_reads' HO_5.out).2.2 (ji20)
        cases e592
        obtain ⟨ad593, e593, hx593_0, p593, q593⟩ := rI (Kd.R_reads' HO_5.out).2.2 (ji23)
        obtain rfl : ad592 = ad593 := (by injection e593)
        go_wp2
        repeat (go_quiet (fail); try go_wp2)
        go_roundg k1
        case measure => have := HK1.out; omega
        case rel => exact ⟨(wrap64 (x20_1 + 1)), sD, H', ⟨by have := HK1.out; omega⟩, ⟨uR HO_5.out⟩, ⟨uB⟩⟩
      ·rw [if_neg c19] at H
       have c19b0 : ((rd l0 (rd l1 (ji11))) == (rd l0 (rd l1 x20_1))) = false := beq_eq_false_iff_ne.mpr c19
       have c19b1 : ((rd l0 (rd l1 (ji11))) != (rd l0 (rd l1 x20_1))) = true := bne_iff_ne.mpr c19
       have H' := Aside0.mk H
       clear H
       obtain ⟨ad586, e586, hx586_0, p586, q586⟩ := rIO HB.out HR1.out x20_1
       cases e586
       obtain ⟨ad587, e587, hx587_0, p587, q587⟩ := rIO HB.out HR1.out (ji11)
       obtain rfl : ad586 = ad587 := (by injection e587)
       obtain ⟨ad588, e588, hx588_0, p588, q588⟩ := rIO HB.out HR0.out (rd l1 (ji11))
       cases e588
       obtain ⟨ad589, e589, hx589_0, p589, q589⟩ := rIO HB.out HR0.out (rd l1 x20_1)
       obtain rfl : ad588 = ad589 := (by injection e589)
       obtain ⟨ad590, e590, hx590_0, p590, q590⟩ := rIO HB.out HR0.out (rd l1 (ji11))
       obtain rfl : ad588 = ad590 := (by injection e590)
       obtain ⟨ad591, e591, hx591_0, p591, q591⟩ := rIO HB.out HR0.out (rd l1 x20_1)
       obtain rfl : ad588 = ad591 := (by injection e591)
       go_wp2
       repeat (go_quiet (fail); try go_wp2)
       go_roundg k1
       case measure => have := HK1.out; omega
       case rel => exact ⟨(wrap64 (x20_1 + 1)), sD, H', ⟨by have := HK1.out; omega⟩, ⟨uR HO_5.out⟩, ⟨uB⟩⟩
   ·obtain rfl := Option.some.inj H
    go_wp2
    repeat (go_quiet (fail); try go_wp2)
    go_ret
    exact ⟨eR, uB⟩
end Go.Proofs.YtbbpplnnegdenaaGreat.PTopPipe
end
