/- Words, functions, walks and plain mathematics for TopBij, part 5: laid together by a program of this session (pack.py). -/
import Derived.Test.YtbbpplnnegdenaaGreatKTopBijd
set_option linter.unusedVariables false
set_option linter.unusedSimpArgs false
set_option maxHeartbeats 8000000
set_option maxRecDepth 100000
section
namespace Go.Proofs.YtbbpplnnegdenaaGreat.PTopBij
open Go.RowKit Go.Proofs.YtbbpplnnegdenaaGreatW.PrintWords Go.Proofs.YtbbpplnnegdenaaGreatW.PrintLast Go.Proofs.YtbbpplnnegdenaaGreatW.PrintMore
attribute [local go_sem] max2_int min2_int max_two min_two max_three min_three max_four min_four
def slices_BinarySearch_int_int.l0 : Nat → List Int → Int → Int → Int → Int → Option (Int × Bool)
  | 0, _, _, _, _, _ => none
  | k + 1, x0, x1, x6, x7, x8 => if x7 < x8 then (if 0 ≤ (wrap64 ((IntKind.u64.wrap (wrap64 (x7 + x8))) / 2)) then (if (wrap64 ((IntKind.u64.wrap (wrap64 (x7 + x8))) / 2)) < (x0.length : Int) then ((cmp_Less_int.f (rd x0 (wrap64 ((IntKind.u64.wrap (wrap64 (x7 + x8))) / 2))) x1).bind fun t381 => (if t381 = true then (slices_BinarySearch_int_int.l0 k x0 x1 x6 (wrap64 ((wrap64 ((IntKind.u64.wrap (wrap64 (x7 + x8))) / 2)) + 1)) x8) else (slices_BinarySearch_int_int.l0 k x0 x1 x6 x7 (wrap64 ((IntKind.u64.wrap (wrap64 (x7 + x8))) / 2))))) else (none)) else (none)) else (if x7 < x6 then (if 0 ≤ x7 then (if x7 < (x0.length : Int) then (if (rd x0 x7) = x1 then (some (x7, true)) else ((slices_isNaN_int.f (rd x0 x7)).bind fun t384 => (if t384 = true then ((slices_isNaN_int.f x1).bind fun t385 => (some (x7, t385))) else (some (x7, false))))) else (none)) else (none)) else (some (x7, false)))
def slices_BinarySearch_int_int.f (k : Nat) (l0 : List Int) (a1 : Int) : Option (Int × Bool) := slices_BinarySearch_int_int.l0 k l0 a1 (l0.length : Int) 0 (l0.length : Int)
theorem slices_BinarySearch_int_int.mono_l : ∀ k, (∀ y0 y1 y2 y3 y4, LeO (slices_BinarySearch_int_int.l0 k y0 y1 y2 y3 y4) (slices_BinarySearch_int_int.l0 (k + 1) y0 y1 y2 y3 y4))
  | 0 => fun _ _ _ _ _ r h => by simp [slices_BinarySearch_int_int.l0] at h
  | k + 1 => by
    have ih0 := slices_BinarySearch_int_int.mono_l k
    · intro y0 y1 y2 y3 y4
      unfold slices_BinarySearch_int_int.l0
      exact mB
theorem slices_BinarySearch_int_int.mono : ∀ a0 a1 k, LeO (slices_BinarySearch_int_int.f k a0 a1) (slices_BinarySearch_int_int.f (k + 1) a0 a1) := by
  intro a0 a1 k
  have ih0 := slices_BinarySearch_int_int.mono_l k
  unfold slices_BinarySearch_int_int.f
  exact mB
theorem slices_BinarySearch_int_int.calls (k : Nat) (A0 : Option Addr) (c0 : Nat) (l0 : List Int) (a1 : Int) (r1 : Int) (r2 : Bool) (w : World) (hr0 : Kd.C (Kd.int .i64) w A0 l0.length l0) (hc0 : l0.length ≤ c0) (h : slices_BinarySearch_int_int.f k l0 a1 = some (r1, r2)) :
    Calls Tryz.prog 148 #[.slice A0 l0.length c0, .int .i64 a1] w fun e w' => e = .returned (.tuple #[.int .i64 r1, .bool r2]) ∧ Drawn0 w w' := by
 have HR0 := Aside0.mk hr0
 have HC0 := Aside0.mk hc0
 clear hr0 hc0
 have H := h
 clear h
 unfold slices_BinarySearch_int_int.f at H
 have H' := Aside0.mk H
 clear H
 go_enter Tryz.func148, Tryz.ntmps148
 go_wp2
 go_loopg [7, 8] k (fun kq v7 v8 w' => ∃ (x7_1 : Int) (x8_1 : Int), v7 = .int .i64 x7_1 ∧ v8 = .int .i64 x8_1 ∧ Aside0 (slices_BinarySearch_int_int.l0 kq l0 a1 (l0.length : Int) x7_1 x8_1 = some (r1, r2)) ∧ Aside0 (kq ≤ k) ∧ Drawn0 w w')
 case atStart => exact ⟨(0), ((l0.length : Int)), sD, sD, H', ⟨Nat.le_refl _⟩, dD⟩
 case round =>
  clear H'
  obtain ⟨x7_1, x8_1, rfl, rfl, HA, HK1, ⟨m1, rfl⟩⟩ := hrel
  cases gk with
  | zero => exact absurd HA.out (by simp [slices_BinarySearch_int_int.l0])
  | succ k1 =>
   have H := HA.out
   clear HA
   simp only [slices_BinarySearch_int_int.l0] at H
   rcases ifC H with ⟨c3b0, H⟩ | ⟨c3b0, H⟩
   ·obtain ⟨ji4, hji4⟩ : ∃ j_ : Int, (wrap64 ((IntKind.u64.wrap (wrap64 (x7_1 + x8_1))) / 2)) = j_ := ⟨_, rfl⟩
    first | rw [hji4] at H | simp only [hji4] at H
    have hji4w : (IntKind.i64.wrap ((IntKind.u64.wrap (wrap64 (x7_1 + x8_1))) / 2)) = ji4 := (i64_w _).trans hji4
    obtain ⟨c5b0, c6b0, H⟩ := ifD2 H
    obtain ⟨t381, A7, H⟩ := bdS H
    try dsimp only at H
    by_cases c8 : t381 = true
    ·subst c8
     rw [if_pos rfl] at H
     have H' := Aside0.mk H
     clear H
     obtain ⟨ad380, e380, hx380_0, p380, q380⟩ := rI HR0.out (ji4)
     cases e380
     go_wp2_with (first | ((with_reducible refine gate_callee (f := 155) rfl ?_); refine goesL_ (some 27) rfl rfl Tryz.func155 (by kernel_rfl) rfl #[.int .i64 (rd l0 (ji4)), .int .i64 a1] rfl (by (try simp only [List.map_toArray, List.map_cons, List.map_nil]); first | done | (simp only [hji4]; rfl) | rfl | (simp only [List.length_drop, List.length_take]; rfl)) ?_; (with_reducible refine (cmp_Less_int.calls (rd l0 (ji4)) a1 true _ A7.out).mono ?_); rintro e w' ⟨rfl, ⟨nd, rfl⟩⟩; refine ⟨_, rfl, ?_⟩))
     go_roundg k1
     case measure => have := HK1.out; omega
     case rel => exact ⟨(wrap64 ((ji4) + 1)), (x8_1), (by first | rfl | (simp; done) | (simp only [← hji4] <;> (first | rfl | simp)) | (simp [*]; done)), sD, H', ⟨by have := HK1.out; omega⟩, dD⟩
    ·replace c8 := Bool.eq_false_iff.mpr c8
     subst c8
     rw [if_neg (by decide)] at H
     have H' := Aside0.mk H
     clear H
     obtain ⟨ad380, e380, hx380_0, p380, q380⟩ := rI HR0.out (ji4)
     cases e380
     go_wp2_with (first | ((with_reducible refine gate_callee (f := 155) rfl ?_); refine goesL_ (some 27) rfl rfl Tryz.func155 (by kernel_rfl) rfl #[.int .i64 (rd l0 (ji4)), .int .i64 a1] rfl (by (try simp only [List.map_toArray, List.map_cons, List.map_nil]); first | done | (simp only [hji4]; rfl) | rfl | (simp only [List.length_drop, List.length_take]; rfl)) ?_; (with_reducible refine (cmp_Less_int.calls (rd l0 (ji4)) a1 false _ A7.out).mono ?_); rintro e w' ⟨rfl, ⟨nd, rfl⟩⟩; refine ⟨_, rfl, ?_⟩))
     go_roundg k1
     case measure => have := HK1.out; omega
     case rel => exact ⟨(x7_1), (ji4), sD, (by first | rfl | (simp; done) | (simp only [← hji4] <;> (first | rfl | simp)) | (simp [*]; done)), H', ⟨by have := HK1.out; omega⟩, dD⟩
   ·rcases ifC H with ⟨c9b0, H⟩ | ⟨c9b0, H⟩
    ·obtain ⟨c10b0, c11b0, H⟩ := ifD2 H
     by_cases c12 : (rd l0 x7_1) = a1
     ·rw [if_pos c12] at H
      have c12b0 : ((rd l0 x7_1) == a1) = true := beq_iff_eq.mpr c12
      have c12b1 : ((rd l0 x7_1) != a1) = false := bne_eq_false_iff_eq.mpr c12
      clear c12
      simp only [Option.some.injEq, Prod.mk.injEq] at H
      obtain ⟨rfl, rfl⟩ := H
      obtain ⟨ad382, e382, hx382_0, p382, q382⟩ := rI HR0.out x7_1
      cases e382
      go_wp2
      go_ret2
      exact ⟨sD, dD⟩
     ·rw [if_neg c12] at H
      have c12b0 : ((rd l0 x7_1) == a1) = false := beq_eq_false_iff_ne.mpr c12
      have c12b1 : ((rd l0 x7_1) != a1) = true := bne_iff_ne.mpr c12
      obtain ⟨t384, A13, H⟩ := bdS H
      try dsimp only at H
      by_cases c14 : t384 = true
      ·subst c14
       rw [if_pos rfl] at H
       obtain ⟨t385, A15, H⟩ := bdS H
       try dsimp only at H
       simp only [Option.some.injEq, Prod.mk.injEq] at H
       obtain ⟨rfl, rfl⟩ := H
       obtain ⟨ad382, e382, hx382_0, p382, q382⟩ := rI HR0.out x7_1
       cases e382
       obtain ⟨ad383, e383, hx383_0, p383, q383⟩ := rI HR0.out x7_1
       obtain rfl : ad382 = ad383 := (by injection e383)
       go_wp2_with (first | (go_at_call 156; (with_reducible refine (slices_isNaN_int.calls (rd l0 x7_1) true _ A13.out).mono ?_); rintro e w' ⟨rfl, ⟨nd, rfl⟩⟩) | (go_at_call 156; (with_reducible refine (slices_isNaN_int.calls a1 t385 _ A15.out).mono ?_); rintro e w' ⟨rfl, ⟨nd, rfl⟩⟩))
       go_ret2
       exact ⟨sD, dD⟩
      ·replace c14 := Bool.eq_false_iff.mpr c14
       subst c14
       rw [if_neg (by decide)] at H
       simp only [Option.some.injEq, Prod.mk.injEq] at H
       obtain ⟨rfl, rfl⟩ := H
       obtain ⟨ad382, e382, hx382_0, p382, q382⟩ := rI HR0.out x7_1
       cases e382
       obtain ⟨ad383, e383, hx383_0, p383, q383⟩ := rI HR0.out x7_1
       obtain rfl : ad382 = ad383 := (by injection e383)
       go_wp2_with (first | (go_at_call 156; (with_reducible refine (slices_isNaN_int.calls (rd l0 x7_1) false _ A13.out).mono ?_); rintro e w' ⟨rfl, ⟨nd, rfl⟩⟩))
       go_ret2
       exact ⟨sD, dD⟩
    ·simp only [Option.some.injEq, Prod.mk.injEq] at H
     obtain ⟨rfl, rfl⟩ := H
     go_wp2
     go_ret2
     exact ⟨sD, dD⟩
def double_ranks.f (k : Nat) (l0 : List Int) : Option (List Int) :=
  if l0.length ≤ 1000000 then Go.Proofs.YtbbpplnnegdenaaGreat.Rk.ranksL (slices_BinarySearch_int_int.f k (Go.Proofs.YtbbpplnnegdenaaGreat.Srt.srt l0)) l0 l0.length 0 (List.replicate l0.length 0) else none
theorem double_ranks.mono : ∀ a0 k, LeO (double_ranks.f k a0) (double_ranks.f (k + 1) a0) := by
  intro a0 k
  unfold double_ranks.f
  refine LeO.ite ?_ (LeO.none _)
  have hm : ∀ d i l, LeO (Go.Proofs.YtbbpplnnegdenaaGreat.Rk.ranksL (slices_BinarySearch_int_int.f k (Go.Proofs.YtbbpplnnegdenaaGreat.Srt.srt a0)) a0 d i l) (Go.Proofs.YtbbpplnnegdenaaGreat.Rk.ranksL (slices_BinarySearch_int_int.f (k + 1) (Go.Proofs.YtbbpplnnegdenaaGreat.Srt.srt a0)) a0 d i l) := by
    intro d
    induction d with
    | zero => intro i l; exact LeO.refl _
    | succ d ih => intro i l; exact LeO.bind (slices_BinarySearch_int_int.mono _ _ _) (fun r => ih _ _)
  exact hm _ _ _
theorem double_ranks.calls (k : Nat) (A0 : Option Addr) (c0 : Nat) (l0 : List Int) (r : List Int) (w : World) (hr0 : Kd.C (Kd.int .i64) w A0 l0.length l0) (hc0 : l0.length ≤ c0) (h : double_ranks.f k l0 = some r) :
    Calls Tryz.prog 133 #[.slice A0 l0.length c0] w fun e w' => ∃ v0_ : Value, e = .returned (v0_) ∧ Kd.R (Kd.int .i64) 3 w' w.heap.size (fun _ => True) v0_ r ∧ Below w.heap.size w w' := by
 unfold double_ranks.f at h
 by_cases c1 : l0.length ≤ 1000000
 case neg => rw [if_neg c1] at h; exact absurd h (by simp)
 rw [if_pos c1] at h
 exact Go.Proofs.YtbbpplnnegdenaaGreat.Rk.ranks_calls hr0 c1 (Go.Proofs.YtbbpplnnegdenaaGreat.Srt.srt_eq l0).symm (fun W A c x r1 r2 e1 hA hx => slices_BinarySearch_int_int.calls k A c _ x r1 r2 W hA e1 hx) h
def double_on.f (l0 : List Int) (a1 : Int) (a2 : Int) : Option (Int) := if (wrap64 (a1 + a2)) ≥ (l0.length : Int) then (some 0) else (if 0 ≤ (wrap64 (a1 + a2)) then (if (wrap64 (a1 + a2)) < (l0.length : Int) then (some (wrap64 ((rd l0 (wrap64 (a1 + a2))) + 1))) else (none)) else (none))
theorem double_on.calls (A0 : Option Addr) (c0 : Nat) (l0 : List Int) (a1 : Int) (a2 : Int) (r : Int) (w : World) (hr0 : Kd.C (Kd.int .i64) w A0 l0.length l0) (hc0 : l0.length ≤ c0) (h : double_on.f l0 a1 a2 = some r) :
    Calls Tryz.prog 149 #[.slice A0 l0.length c0, .int .i64 a1, .int .i64 a2] w fun e w' => e = .returned (.int .i64 r) ∧ Drawn0 w w' := by
 have HR0 := Aside0.mk hr0
 have HC0 := Aside0.mk hc0
 clear hr0 hc0
 have H := h
 clear h
 unfold double_on.f at H
 rcases ifG H with ⟨c4b0, H⟩ | ⟨c4b0, H⟩
 ·obtain rfl := Option.some.inj H
  go_enter Tryz.func149, Tryz.ntmps149
  go_wp2
  go_ret
  exact ⟨sD, dD⟩
 ·obtain ⟨ji5, hji5⟩ : ∃ j_ : Int, (wrap64 (a1 + a2)) = j_ := ⟨_, rfl⟩
  first | rw [hji5] at H | simp only [hji5] at H
  (try rw [hji5] at c4b0)
  have hji5w : (IntKind.i64.wrap (a1 + a2)) = ji5 := (i64_w _).trans hji5
  obtain ⟨c6b0, c7b0, H⟩ := ifD2 H
  obtain rfl := Option.some.inj H
  obtain ⟨ad386, e386, hx386_0, p386, q386⟩ := rI HR0.out (ji5)
  cases e386
  go_enter Tryz.func149, Tryz.ntmps149
  go_wp2
  go_ret
  exact ⟨by first | rfl | (simp; done) | (simp only [← hji5] <;> (first | rfl | simp)) | (simp [*]; done), dD⟩
mutual
def double_joined.l0 : Nat → List Int → Int → List Int → List Int → Int → Int → Option (List Int × List Int)
  | 0, _, _, _, _, _, _ => none
  | k + 1, x0, x1, x6, x7, x19, x20 => if x20 < x19 then ((double_on.f x0 x20 x1).bind fun t393 => (if 0 ≤ x20 then (if x20 < (x6.length : Int) then (if x20 < (x7.length : Int) then (double_joined.l0 k x0 x1 (x6.set (x20 : Int).toNat x20) (x7.set (x20 : Int).toNat t393) x19 (wrap64 (x20 + 1))) else (none)) else (none)) else (none))) else ((bucket_Pass.f k x6 x7 (wrap64 ((x0.length : Int) + 1))).bind fun bt396 => ((bucket_Pass.f k bt396.1 x0 (x0.length : Int)).bind fun bt400 => (if 0 ≤ (x0.length : Int) then (if ((x0.length : Int) : Int).toNat ≤ 35184372088832 then (double_joined.l1 k x0 bt400.1 x7 (List.replicate ((x0.length : Int) : Int).toNat 0) bt400.1 (bt400.1.length : Int) 0) else (none)) else (none))))
def double_joined.l1 : Nat → List Int → List Int → List Int → List Int → List Int → Int → Int → Option (List Int × List Int)
  | 0, _, _, _, _, _, _, _ => none
  | k + 1, x0, x6, x7, x9, x55, x56, x57 => if x57 < x56 then (if 0 ≤ x57 then (if x57 < (x55.length : Int) then (if 0 ≤ (rd x55 x57) then (if (rd x55 x57) < (x9.length : Int) then ((some (x9.set ((rd x55 x57) : Int).toNat x57 : List Int)).bind fun y408 => (if x57 > 0 then (if 0 ≤ (wrap64 (x57 - 1)) then (if (wrap64 (x57 - 1)) < (x6.length : Int) then (if 0 ≤ (rd x6 (wrap64 (x57 - 1))) then (if (rd x6 (wrap64 (x57 - 1))) < (x0.length : Int) then (if (rd x55 x57) < (x0.length : Int) then (if (rd x0 (rd x6 (wrap64 (x57 - 1)))) = (rd x0 (rd x55 x57)) then (if (rd x6 (wrap64 (x57 - 1))) < (x7.length : Int) then (if (rd x55 x57) < (x7.length : Int) then (if (rd x7 (rd x6 (wrap64 (x57 - 1)))) = (rd x7 (rd x55 x57)) then (if (rd x6 (wrap64 (x57 - 1))) < (x9.length : Int) then (double_joined.l1 k x0 x6 x7 (y408.set ((rd x55 x57) : Int).toNat (rd y408 (rd x6 (wrap64 (x57 - 1))))) x55 x56 (wrap64 (x57 + 1))) else (none)) else (double_joined.l1 k x0 x6 x7 y408 x55 x56 (wrap64 (x57 + 1)))) else (none)) else (none)) else (double_joined.l1 k x0 x6 x7 y408 x55 x56 (wrap64 (x57 + 1)))) else (none)) else (none)) else (none)) else (none)) else (none)) else (double_joined.l1 k x0 x6 x7 y408 x55 x56 (wrap64 (x57 + 1))))) else (none)) else (none)) else (none)) else (none)) else (some (x9, x6))
end
def double_joined.f (k : Nat) (l0 : List Int) (a1 : Int) : Option (List Int × List Int) := if 0 ≤ (l0.length : Int) then (if ((l0.length : Int) : Int).toNat ≤ 35184372088832 then (double_joined.l0 k l0 a1 (List.replicate ((l0.length : Int) : Int).toNat 0) (List.replicate ((l0.length : Int) : Int).toNat 0) (l0.length : Int) 0) else (none)) else (none)
theorem double_joined.mono_l : ∀ k, (∀ y0 y1 y2 y3 y4 y5, LeO (double_joined.l0 k y0 y1 y2 y3 y4 y5) (double_joined.l0 (k + 1) y0 y1 y2 y3 y4 y5)) ∧ (∀ y0 y1 y2 y3 y4 y5 y6, LeO (double_joined.l1 k y0 y1 y2 y3 y4 y5 y6) (double_joined.l1 (k + 1) y0 y1 y2 y3 y4 y5 y6))
  | 0 => ⟨fun _ _ _ _ _ _ r h => by simp [double_joined.l0] at h, fun _ _ _ _ _ _ _ r h => by simp [double_joined.l1] at h⟩
  | k + 1 => by
    obtain ⟨ih0, ih1⟩ := double_joined.mono_l k
    refine ⟨?_, ?_⟩
    · intro y0 y1 y2 y3 y4 y5
      unfold double_joined.l0
      have m0 := @bucket_Pass.mono
      exact mB
    · intro y0 y1 y2 y3 y4 y5 y6
      unfold double_joined.l1
      have m0 := @bucket_Pass.mono
      exact mB
theorem double_joined.mono : ∀ a0 a1 k, LeO (double_joined.f k a0 a1) (double_joined.f (k + 1) a0 a1) := by
  intro a0 a1 k
  obtain ⟨ih0, ih1⟩ := double_joined.mono_l k
  unfold double_joined.f
  have m0 := @bucket_Pass.mono
  exact mB
theorem double_joined.calls (k : Nat) (A0 : Option Addr) (c0 : Nat) (l0 : List Int) (a1 : Int) (r1 : List Int) (r2 : List Int) (w : World) (hr0 : Kd.C (Kd.int .i64) w A0 l0.length l0) (hc0 : l0.length ≤ c0) (h : double_joined.f k l0 a1 = some (r1, r2)) :
    Calls Tryz.prog 134 #[.slice A0 l0.length c0, .int .i64 a1] w fun e w' => ∃ v0_ v1_ : Value, e = .returned (.tuple #[v0_, v1_]) ∧ Kd.R (Kd.int .i64) 3 w' w.heap.size (fun k_ => some k_ ≠ (v1_ : Value).ownBlock) v0_ r1 ∧ Kd.R (Kd.int .i64) 3 w' w.heap.size (fun k_ => some k_ ≠ (v0_ : Value).ownBlock) v1_ r2 ∧ Below w.heap.size w w' := by
 have HR0 := Aside0.mk hr0
 have HC0 := Aside0.mk hc0
 clear hr0 hc0
 have HB := Aside0.mk (Below.refl w.heap.size w)
 have H := h
 clear h
 unfold double_joined.f at H
 obtain ⟨c3b0, c3b1, H⟩ := ifE H
 obtain ⟨c4b0, c4b1, H⟩ := ifE H
 obtain ⟨y387, hy387⟩ : ∃ y_ : List Int, y_ = (List.replicate ((l0.length : Int) : Int).toNat 0) := ⟨_, rfl⟩
 replace H : (double_joined.l0 k l0 a1 y387 (List.replicate ((l0.length : Int) : Int).toNat 0) (l0.length : Int) 0) = some (r1, r2) := by first | (rw [hy387]; with_reducible exact H) | (have H2_ := (Option.bind_some _ _).symm.trans H; rw [hy387]; with_reducible exact H2_) | (have H2_ := (Option.bind_some _ _).symm.trans H; with_reducible exact H2_) | with_reducible exact H | (rw [hy387]; exact H) | exact H
 have Ny387 := Aside0.mk hy387
 clear hy387
 obtain ⟨y390, hy390⟩ : ∃ y_ : List Int, y_ = (List.replicate ((l0.length : Int) : Int).toNat 0) := ⟨_, rfl⟩
 replace H : (double_joined.l0 k l0 a1 y387 y390 (l0.length : Int) 0) = some (r1, r2) := by first | (rw [hy390]; with_reducible exact H) | (have H2_ := (Option.bind_some _ _).symm.trans H; rw [hy390]; with_reducible exact H2_) | (have H2_ := (Option.bind_some _ _).symm.trans H; with_reducible exact H2_) | with_reducible exact H | (rw [hy390]; exact H) | exact H
 have Ny390 := Aside0.mk hy390
 clear hy390
 have H' := Aside0.mk H
 clear H
 go_enter Tryz.func134, Tryz.ntmps134
 go_wp2_with (first | ((with_reducible refine gate_dst (N := 14) rfl ?_); refine Kd.R_make (Kd.int .i64) _ 3 rfl (N := 14) rfl 29 _ _ rfl (l0.length : Int) rfl rfl Tryz.underlying29 (.int .i64 0) 8 info3 rfl (by decide) (by omega) 0 (ok := fun _ => True) (okp := fun _ => True) rfl (fun _ hk => hk) trivial dT (Nat.le_trans (Nat.mul_le_mul_right _ (dT : (l0.length : Int).toNat ≤ 35184372088832)) (by omega)) (Below.refl _ _) (Nat.le_refl _) ?_; intro v388 w5 ho6 hb hg_ hnew_; clear hg_ hnew_; (first | rw [← Ny387.out] at ho6 | (simp only [Int.reduceToNat] at ho6; rw [← Ny387.out] at ho6)); have n0_ := Aside0.mk (Kd.R_lower ho6 (below_size uB)); have n1_ := Aside0.mk (below_step uB hb); clear HB; have HO389 := n0_; have HB := n1_; clear n0_ n1_; clear hb ho6) | ((with_reducible refine gate_dst (N := 17) rfl ?_); refine Kd.R_make (Kd.int .i64) _ 3 rfl (N := 17) rfl 29 _ _ rfl (l0.length : Int) rfl rfl Tryz.underlying29 (.int .i64 0) 8 info3 rfl (by decide) (by omega) 0 (ok := fun _ => True) (okp := fun _ => True) rfl (fun _ hk => hk) trivial dT (Nat.le_trans (Nat.mul_le_mul_right _ (dT : (l0.length : Int).toNat ≤ 35184372088832)) (by omega)) (Below.refl _ _) (Nat.le_refl _) ?_; intro v391 w7 ho8 hb hg_ hnew_; clear hg_ hnew_; (first | rw [← Ny390.out] at ho8 | (simp only [Int.reduceToNat] at ho8; rw [← Ny390.out] at ho8)); have n0_ := Aside0.mk (Kd.R_elder' (uR HO389.out) (Kd.R_base ho8) hb); have n1_ := Aside0.mk (Kd.R_lower (Kd.R_new' ho8 (Kd.R_lt (uR HO389.out))) (below_size uB)); have n2_ := Aside0.mk (below_step uB hb); clear HO389 HB; have HO389 := n0_; have HO392 := n1_; have HB := n2_; clear n0_ n1_ n2_; clear hb ho8))
 repeat (go_quiet (first | ((with_reducible refine gate_dst (N := 14) rfl ?_); refine Kd.R_make (Kd.int .i64) _ 3 rfl (N := 14) rfl 29 _ _ rfl (l0.length : Int) rfl rfl Tryz.underlying29 (.int .i64 0) 8 info3 rfl (by decide) (by omega) 0 (ok := fun _ => True) (okp := fun _ => True) rfl (fun _ hk => hk) trivial dT (Nat.le_trans (Nat.mul_le_mul_right _ (dT : (l0.length : Int).toNat ≤ 35184372088832)) (by omega)) (Below.refl _ _) (Nat.le_refl _) ?_; intro v388 w5 ho6 hb hg_ hnew_; clear hg_ hnew_; (first | rw [← Ny387.out] at ho6 | (simp only [Int.reduceToNat] at ho6; rw [← Ny387.out] at ho6)); have n0_ := Aside0.mk (Kd.R_lower ho6 (below_size uB)); have n1_ := Aside0.mk (below_step uB hb); clear HB; have HO389 := n0_; have HB := n1_; clear n0_ n1_; clear hb ho6) | ((with_reducible refine gate_dst (N := 17) rfl ?_); refine Kd.R_make (Kd.int .i64) _ 3 rfl (N := 17) rfl 29 _ _ rfl (l0.length : Int) rfl rfl Tryz.underlying29 (.int .i64 0) 8 info3 rfl (by decide) (by omega) 0 (ok := fun _ => True) (okp := fun _ => True) rfl (fun _ hk => hk) trivial dT (Nat.le_trans (Nat.mul_le_mul_right _ (dT : (l0.length : Int).toNat ≤ 35184372088832)) (by omega)) (Below.refl _ _) (Nat.le_refl _) ?_; intro v391 w7 ho8 hb hg_ hnew_; clear hg_ hnew_; (first | rw [← Ny390.out] at ho8 | (simp only [Int.reduceToNat] at ho8; rw [← Ny390.out] at ho8)); have n0_ := Aside0.mk (Kd.R_elder' (uR HO389.out) (Kd.R_base ho8) hb); have n1_ := Aside0.mk (Kd.R_lower (Kd.R_new' ho8 (Kd.R_lt (uR HO389.out))) (below_size uB)); have n2_ := Aside0.mk (below_step uB hb); clear HO389 HB; have HO389 := n0_; have HO392 := n1_; have HB := n2_; clear n0_ n1_ n2_; clear hb ho8)); try go_wp2_with (first | ((with_reducible refine gate_dst (N := 14) rfl ?_); refine Kd.R_make (Kd.int .i64) _ 3 rfl (N := 14) rfl 29 _ _ rfl (l0.length : Int) rfl rfl Tryz.underlying29 (.int .i64 0) 8 info3 rfl (by decide) (by omega) 0 (ok := fun _ => True) (okp := fun _ => True) rfl (fun _ hk => hk) trivial dT (Nat.le_trans (Nat.mul_le_mul_right _ (dT : (l0.length : Int).toNat ≤ 35184372088832)) (by omega)) (Below.refl _ _) (Nat.le_refl _) ?_; intro v388 w5 ho6 hb hg_ hnew_; clear hg_ hnew_; (first | rw [← Ny387.out] at ho6 | (simp only [Int.reduceToNat] at ho6; rw [← Ny387.out] at ho6)); have n0_ := Aside0.mk (Kd.R_lower ho6 (below_size uB)); have n1_ := Aside0.mk (below_step uB hb); clear HB; have HO389 := n0_; have HB := n1_; clear n0_ n1_; clear hb ho6) | ((with_reducible refine gate_dst (N := 17) rfl ?_); refine Kd.R_make (Kd.int .i64) _ 3 rfl (N := 17) rfl 29 _ _ rfl (l0.length : Int) rfl rfl Tryz.underlying29 (.int .i64 0) 8 info3 rfl (by decide) (by omega) 0 (ok := fun _ => True) (okp := fun _ => True) rfl (fun _ hk => hk) trivial dT (Nat.le_trans (Nat.mul_le_mul_right _ (dT : (l0.length : Int).toNat ≤ 35184372088832)) (by omega)) (Below.refl _ _) (Nat.le_refl _) ?_; intro v391 w7 ho8 hb hg_ hnew_; clear hg_ hnew_; (first | rw [← Ny390.out] at ho8 | (simp only [Int.reduceToNat] at ho8; rw [← Ny390.out] at ho8)); have n0_ := Aside0.mk (Kd.R_elder' (uR HO389.out) (Kd.R_base ho8) hb); have n1_ := Aside0.mk (Kd.R_lower (Kd.R_new' ho8 (Kd.R_lt (uR HO389.out))) (below_size uB)); have n2_ := Aside0.mk (below_step uB hb); clear HO389 HB; have HO389 := n0_; have HO392 := n1_; have HB := n2_; clear n0_ n1_ n2_; clear hb ho8)))
 go_loopg [20] k (fun kq v20 w' => ∃ (x6_1 : List Int) (x7_1 : List Int) (x20_1 : Int), v20 = .int .i64 x20_1 ∧ Aside0 (double_joined.l0 kq l0 a1 x6_1 x7_1 (l0.length : Int) x20_1 = some (r1, r2)) ∧ Aside0 (kq ≤ k) ∧ Aside0 (Kd.R (Kd.int .i64) 3 w' w.heap.size (fun k_ => some k_ ≠ (v391 : Value).ownBlock) v388 x6_1) ∧ Aside0 (Kd.R (Kd.int .i64) 3 w' w.heap.size (fun k_ => some k_ ≠ (v388 : Value).ownBlock) v391 x7_1) ∧ Aside0 (Below w.heap.size w w'))
 case atStart => exact ⟨(y387), (y390), (0), sD, H', ⟨Nat.le_refl _⟩, ⟨by (with_reducible repeat (first | apply Kd.R_alloc | apply Kd.R_drewN | apply Kd.R_drew)); exact Kd.R_mono HO389.out (fun _ hk => hk.2)⟩, ⟨by (with_reducible repeat (first | apply Kd.R_alloc | apply Kd.R_drewN | apply Kd.R_drew)); exact Kd.R_mono HO392.out (fun _ hk => hk.2)⟩, ⟨uB⟩⟩
 case round =>
  clear H'
  obtain ⟨x6_1, x7_1, x20_1, rfl, HA, HK1, HO_6, HO_7, HB⟩ := hrel
  cases gk with
  | zero => exact absurd HA.out (by simp [double_joined.l0])
  | succ k1 =>
   have H := HA.out
   clear HA
   simp only [double_joined.l0] at H
   rcases ifC H with ⟨c9b0, H⟩ | ⟨c9b0, H⟩
   ·obtain ⟨t393, A10, H⟩ := bdS H
    try dsimp only at H
    obtain ⟨c11b0, c12b0, H⟩ := ifD2 H
    obtain ⟨y394, hy394⟩ : ∃ y_ : List Int, y_ = (x6_1.set (x20_1 : Int).toNat x20_1) := ⟨_, rfl⟩
    replace H : (if x20_1 < (x7_1.length : Int) then (double_joined.l0 k1 l0 a1 y394 (x7_1.set (x20_1 : Int).toNat t393) (l0.length : Int) (wrap64 (x20_1 + 1))) else (none)) = some (r1, r2) := by first | (rw [hy394]; with_reducible exact H) | (have H2_ := (Option.bind_some _ _).symm.trans H; rw [hy394]; with_reducible exact H2_) | (have H2_ := (Option.bind_some _ _).symm.trans H; with_reducible exact H2_) | with_reducible exact H | (rw [hy394]; exact H) | exact H
    have Ny394 := Aside0.mk hy394
    clear hy394
    obtain ⟨c14b0, H⟩ := ifD H
    obtain ⟨y395, hy395⟩ : ∃ y_ : List Int, y_ = (x7_1.set (x20_1 : Int).toNat t393) := ⟨_, rfl⟩
    replace H : (double_joined.l0 k1 l0 a1 y394 y395 (l0.length : Int) (wrap64 (x20_1 + 1))) = some (r1, r2) := by first | (rw [hy395]; with_reducible exact H) | (have H2_ := (Option.bind_some _ _).symm.trans H; rw [hy395]; with_reducible exact H2_) | (have H2_ := (Option.bind_some _ _).symm.trans H; with_reducible exact H2_) | with_reducible exact H | (rw [hy395]; exact H) | exact H
    have Ny395 := Aside0.mk hy395
    clear hy395
    have H' := Aside0.mk H
    clear H
    go_wp2_with (first | (go_at_call 149; (with_reducible refine (double_on.calls _ _ l0 x20_1 a1 t393 _ ?side1 ?side2 A10.out).mono ?_); (case side1 => exact uC (Kd.C_below HR0.out HB.out)); (case side2 => exact HC0.out); rintro e w' ⟨rfl, ⟨nd, rfl⟩⟩; (try first | exact ⟨rfl, _, World.drewN_drewN _ _ _⟩ | exact ⟨rfl, _, Eq.trans (World.drewN_drewN _ _ _) (congrArg (World.drewN _) (Nat.add_assoc _ _ _))⟩); have p13 : 0 ≤ (x20_1 : Int) := dT; have q13 : (x20_1 : Int) < ((x6_1.length : Int) : Int) := dT; obtain ⟨go13, co13, eo13, gb13, gl13, cl13, HG13⟩ := Kd.R_form HO_6.out (by omega); (first | cases eo13 | (injection eo13 with ea_ en_ ec_; (first | subst ea_ | (injection ea_ with ea_; subst ea_)); subst ec_; clear en_)); have GB13 := Aside0.mk gb13; have GG13 := Aside0.mk HG13; clear gb13 gl13 HG13; obtain ⟨hx13_0, hf13_0⟩ := Kd.R_celln 0 HO_6.out (x20_1 : Int) p13 q13; replace p13 := eq_true p13; replace q13 := eq_true q13; obtain ⟨hy16_, hz16_⟩ := Kd.R_celln 0 HO_6.out (x20_1 : Int) dT dT; have HP16 := Kd.R_putg HO_6.out (x20_1 : Int) x20_1) | ((with_reducible refine gate_store (t := 3) (p := 32) rfl ?_); (try (rw [drewN_self wr]; generalize hq_ : World.drewN wr _ = wr; have n0_ := Aside0.mk (Kd.R_at hq_ HO_6.out); have n1_ := Aside0.mk (Kd.R_at hq_ HO_7.out); have n2_ := Aside0.mk (below_at hq_ HB.out); clear hq_ HO_6 HO_7 HB; have HO_6 := n0_; have HO_7 := n1_; have HB := n2_; clear n0_ n1_ n2_; (try (obtain ⟨hy16_, hz16_⟩ := Kd.R_celln 0 HO_6.out (x20_1 : Int) dT dT)); (try (have HP16 := Kd.R_putg HO_6.out (x20_1 : Int) x20_1)))); refine store_event (t := 3) (p := 32) (v := ?vo_w17) (w1 := (wr.setCell ⟨go13, (x20_1 : Int).toNat, none⟩ (.int .i64 x20_1))) ?hg ?ho ?hn ?hr ?_; (case ho => rfl); (case hg => rfl); (case hn => rfl); (case hr => first | (go_simp; done) | (go_simp; rfl)); intro w17 hw; have hg : wr.grownBy w17 (some go13) := (by rw [hw]; exact HP16.2); have hp_ : Kd.R (Kd.int .i64) 3 w17 w.heap.size (fun k_ => some k_ ≠ (v391 : Value).ownBlock) (.slice (some ⟨go13, 0, none⟩) x6_1.length co13) y394 := (by rw [hw, Ny394.out]; exact HP16.1); clear HP16; have n0_ := Aside0.mk (hp_); have n1_ := Aside0.mk (Kd.R_after (v := (.slice (some ⟨go13, 0, none⟩) x6_1.length co13)) (v1 := (.slice (some ⟨go13, 0, none⟩) x6_1.length co13)) (ok := (fun _ => True)) (by (with_reducible repeat (first | apply Kd.R_alloc | apply Kd.R_drewN | apply Kd.R_drew)); exact Kd.R_mono HO_7.out (fun _ hk => ⟨trivial, hk⟩)) hg (.inl rfl)); have n2_ := Aside0.mk ((by rw [hw]; exact below_set (HB.out) GB13.out : Below w.heap.size w w17)); clear HO_6 HO_7 HB; have HO_6 := n0_; have HO_7 := n1_; have HB := n2_; clear n0_ n1_ n2_; clear hg hw hp_; have p15 : 0 ≤ (x20_1 : Int) := dT; have q15 : (x20_1 : Int) < ((x7_1.length : Int) : Int) := dT; obtain ⟨go15, co15, eo15, gb15, gl15, cl15, HG15⟩ := Kd.R_form HO_7.out (by omega); (first | cases eo15 | (injection eo15 with ea_ en_ ec_; (first | subst ea_ | (injection ea_ with ea_; subst ea_)); subst ec_; clear en_)); have GB15 := Aside0.mk gb15; have GG15 := Aside0.mk HG15; clear gb15 gl15 HG15; obtain ⟨hx15_0, hf15_0⟩ := Kd.R_celln 0 HO_7.out (x20_1 : Int) p15 q15; replace p15 := eq_true p15; replace q15 := eq_true q15; have n_ := Aside0.mk (Kd.R_mono (ok' := (fun k_ => some k_ ≠ (.slice (some ⟨go13, 0, none⟩) x6_1.length co13 : Value).ownBlock)) HO_7.out (fun k_ hk => hk.2)); clear HO_7; have HO_7 := n_; clear n_; obtain ⟨hy18_, hz18_⟩ := Kd.R_celln 0 HO_7.out (x20_1 : Int) dT dT; have HP18 := Kd.R_putg HO_7.out (x20_1 : Int) t393) | ((with_reducible refine gate_store (t := 3) (p := 33) rfl ?_); (try (rw [drewN_self w17]; generalize hq_ : World.drewN w17 _ = w17; have n0_ := Aside0.mk (Kd.R_at hq_ HO_6.out); have n1_ := Aside0.mk (Kd.R_at hq_ HO_7.out); have n2_ := Aside0.mk (below_at hq_ HB.out); clear hq_ HO_6 HO_7 HB; have HO_6 := n0_; have HO_7 := n1_; have HB := n2_; clear n0_ n1_ n2_; (try (have n_ := Aside0.mk (Kd.R_mono (ok' := (fun k_ => some k_ ≠ (.slice (some ⟨go13, 0, none⟩) x6_1.length co13 : Value).ownBlock)) HO_7.out (fun k_ hk => hk.2)); clear HO_7; have HO_7 := n_; clear n_)); (try (obtain ⟨hy18_, hz18_⟩ := Kd.R_celln 0 HO_7.out (x20_1 : Int) dT dT)); (try (have HP18 := Kd.R_putg HO_7.out (x20_1 : Int) t393)))); refine store_event (t := 3) (p := 33) (v := ?vo_w19) (w1 := (w17.setCell ⟨go15, (x20_1 : Int).toNat, none⟩ (.int .i64 t393))) ?hg ?ho ?hn ?hr ?_; (case ho => rfl); (case hg => rfl); (case hn => rfl); (case hr => first | (go_simp; done) | (go_simp; rfl)); intro w19 hw; have hg : w17.grownBy w19 (some go15) := (by rw [hw]; exact HP18.2); have hp_ : Kd.R (Kd.int .i64) 3 w19 w.heap.size (fun k_ => some k_ ≠ (.slice (some ⟨go13, 0, none⟩) x6_1.length co13 : Value).ownBlock) (.slice (some ⟨go15, 0, none⟩) x7_1.length co15) y395 := (by rw [hw, Ny395.out]; exact HP18.1); clear HP18; have n0_ := Aside0.mk (Kd.R_after (v := (.slice (some ⟨go15, 0, none⟩) x7_1.length co15)) (v1 := (.slice (some ⟨go15, 0, none⟩) x7_1.length co15)) (ok := (fun _ => True)) (by (with_reducible repeat (first | apply Kd.R_alloc | apply Kd.R_drewN | apply Kd.R_drew)); exact Kd.R_mono HO_6.out (fun _ hk => ⟨trivial, hk⟩)) hg (.inl rfl)); have n1_ := Aside0.mk (hp_); have n2_ := Aside0.mk ((by rw [hw]; exact below_set (HB.out) GB15.out : Below w.heap.size w w19)); clear HO_6 HO_7 HB; have HO_6 := n0_; have HO_7 := n1_; have HB := n2_; clear n0_ n1_ n2_; clear hg hw hp_))
    repeat (go_quiet (first | (go_at_call 149; (with_reducible refine (double_on.calls _ _ l0 x20_1 a1 t393 _ ?side1 ?side2 A10.out).mono ?_); (case side1 => exact uC (Kd.C_below HR0.out HB.out)); (case side2 => exact HC0.out); rintro e w' ⟨rfl, ⟨nd, rfl⟩⟩; (try first | exact ⟨rfl, _, World.drewN_drewN _ _ _⟩ | exact ⟨rfl, _, Eq.trans (World.drewN_drewN _ _ _) (congrArg (World.drewN _) (Nat.add_assoc _ _ _))⟩); have p13 : 0 ≤ (x20_1 : Int) := dT; have q13 : (x20_1 : Int) < ((x6_1.length : Int) : Int) := dT; obtain ⟨go13, co13, eo13, gb13, gl13, cl13, HG13⟩ := Kd.R_form HO_6.out (by omega); (first | cases eo13 | (injection eo13 with ea_ en_ ec_; (first | subst ea_ | (injection ea_ with ea_; subst ea_)); subst ec_; clear en_)); have GB13 := Aside0.mk gb13; have GG13 := Aside0.mk HG13; clear gb13 gl13 HG13; obtain ⟨hx13_0, hf13_0⟩ := Kd.R_celln 0 HO_6.out (x20_1 : Int) p13 q13; replace p13 := eq_true p13; replace q13 := eq_true q13; obtain ⟨hy16_, hz16_⟩ := Kd.R_celln 0 HO_6.out (x20_1 : Int) dT dT; have HP16 := Kd.R_putg HO_6.out (x20_1 : Int) x20_1) | ((with_reducible refine gate_store (t := 3) (p := 32) rfl ?_); (try (rw [drewN_self wr]; generalize hq_ : World.drewN wr _ = wr; have n0_ := Aside0.mk (Kd.R_at hq_ HO_6.out); have n1_ := Aside0.mk (Kd.R_at hq_ HO_7.out); have n2_ := Aside0.mk (below_at hq_ HB.out); clear hq_ HO_6 HO_7 HB; have HO_6 := n0_; have HO_7 := n1_; have HB := n2_; clear n0_ n1_ n2_; (try (obtain ⟨hy16_, hz16_⟩ := Kd.R_celln 0 HO_6.out (x20_1 : Int) dT dT)); (try (have HP16 := Kd.R_putg HO_6.out (x20_1 : Int) x20_1)))); refine store_event (t := 3) (p := 32) (v := ?vo_w17) (w1 := (wr.setCell ⟨go13, (x20_1 : Int).toNat, none⟩ (.int .i64 x20_1))) ?hg ?ho ?hn ?hr ?_; (case ho => rfl); (case hg => rfl); (case hn => rfl); (case hr => first | (go_simp; done) | (go_simp; rfl)); intro w17 hw; have hg : wr.grownBy w17 (some go13) := (by rw [hw]; exact HP16.2); have hp_ : Kd.R (Kd.int .i64) 3 w17 w.heap.size (fun k_ => some k_ ≠ (v391 : Value).ownBlock) (.slice (some ⟨go13, 0, none⟩) x6_1.length co13) y394 := (by rw [hw, Ny394.out]; exact HP16.1); clear HP16; have n0_ := Aside0.mk (hp_); have n1_ := Aside0.mk (Kd.R_after (v := (.slice (some ⟨go13, 0, none⟩) x6_1.length co13)) (v1 := (.slice (some ⟨go13, 0, none⟩) x6_1.length co13)) (ok := (fun _ => True)) (by (with_reducible repeat (first | apply Kd.R_alloc | apply Kd.R_drewN | apply Kd.R_drew)); exact Kd.R_mono HO_7.out (fun _ hk => ⟨trivial, hk⟩)) hg (.inl rfl)); have n2_ := Aside0.mk ((by rw [hw]; exact below_set (HB.out) GB13.out : Below w.heap.size w w17)); clear HO_6 HO_7 HB; have HO_6 := n0_; have HO_7 := n1_; have HB := n2_; clear n0_ n1_ n2_; clear hg hw hp_; have p15 : 0 ≤ (x20_1 : Int) := dT; have q15 : (x20_1 : Int) < ((x7_1.length : Int) : Int) := dT; obtain ⟨go15, co15, eo15, gb15, gl15, cl15, HG15⟩ := Kd.R_form HO_7.out (by omega); (first | cases eo15 | (injection eo15 with ea_ en_ ec_; (first | subst ea_ | (injection ea_ with ea_; subst ea_)); subst ec_; clear en_)); have GB15 := Aside0.mk gb15; have GG15 := Aside0.mk HG15; clear gb15 gl15 HG15; obtain ⟨hx15_0, hf15_0⟩ := Kd.R_celln 0 HO_7.out (x20_1 : Int) p15 q15; replace p15 := eq_true p15; replace q15 := eq_true q15; have n_ := Aside0.mk (Kd.R_mono (ok' := (fun k_ => some k_ ≠ (.slice (some ⟨go13, 0, none⟩) x6_1.length co13 : Value).ownBlock)) HO_7.out (fun k_ hk => hk.2)); clear HO_7; have HO_7 := n_; clear n_; obtain ⟨hy18_, hz18_⟩ := Kd.R_celln 0 HO_7.out (x20_1 : Int) dT dT; have HP18 := Kd.R_putg HO_7.out (x20_1 : Int) t393) | ((with_reducible refine gate_store (t := 3) (p := 33) rfl ?_); (try (rw [drewN_self w17]; generalize hq_ : World.drewN w17 _ = w17; have n0_ := Aside0.mk (Kd.R_at hq_ HO_6.out); have n1_ := Aside0.mk (Kd.R_at hq_ HO_7.out); have n2_ := Aside0.mk (below_at hq_ HB.out); clear hq_ HO_6 HO_7 HB; have HO_6 := n0_; have HO_7 := n1_; have HB := n2_; clear n0_ n1_ n2_; (try (have n_ := Aside0.mk (Kd.R_mono (ok' := (fun k_ => some k_ ≠ (.slice (some ⟨go13, 0, none⟩) x6_1.length co13 : Value).ownBlock)) HO_7.out (fun k_ hk => hk.2)); clear HO_7; have HO_7 := n_; clear n_)); (try (obtain ⟨hy18_, hz18_⟩ := Kd.R_celln 0 HO_7.out (x20_1 : Int) dT dT)); (try (have HP18 := Kd.R_putg HO_7.out (x20_1 : Int) t393)))); refine store_event (t := 3) (p := 33) (v := ?vo_w19) (w1 := (w17.setCell ⟨go15, (x20_1 : Int).toNat, none⟩ (.int .i64 t393))) ?hg ?ho ?hn ?hr ?_; (case ho => rfl); (case hg => rfl); (case hn => rfl); (case hr => first | (go_simp; done) | (go_simp; rfl)); intro w19 hw; have hg : w17.grownBy w19 (some go15) := (by rw [hw]; exact HP18.2); have hp_ : Kd.R (Kd.int .i64) 3 w19 w.heap.size (fun k_ => some k_ ≠ (.slice (some ⟨go13, 0, none⟩) x6_1.length co13 : Value).ownBlock) (.slice (some ⟨go15, 0, none⟩) x7_1.length co15) y395 := (by rw [hw, Ny395.out]; exact HP18.1); clear HP18; have n0_ := Aside0.mk (Kd.R_after (v := (.slice (some ⟨go15, 0, none⟩) x7_1.length co15)) (v1 := (.slice (some ⟨go15, 0, none⟩) x7_1.length co15)) (ok := (fun _ => True)) (by (with_reducible repeat (first | apply Kd.R_alloc | apply Kd.R_drewN | apply Kd.R_drew)); exact Kd.R_mono HO_6.out (fun _ hk => ⟨trivial, hk⟩)) hg (.inl rfl)); have n1_ := Aside0.mk (hp_); have n2_ := Aside0.mk ((by rw [hw]; exact below_set (HB.out) GB15.out : Below w.heap.size w w19)); clear HO_6 HO_7 HB; have HO_6 := n0_; have HO_7 := n1_; have HB := n2_; clear n0_ n1_ n2_; clear hg hw hp_)); try go_wp2_with (first | (go_at_call 149; (with_reducible refine (double_on.calls _ _ l0 x20_1 a1 t393 _ ?side1 ?side2 A10.out).mono ?_); (case side1 => exact uC (Kd.C_below HR0.out HB.out)); (case side2 => exact HC0.out); rintro e w' ⟨rfl, ⟨nd, rfl⟩⟩; (try first | exact ⟨rfl, _, World.drewN_drewN _ _ _⟩ | exact ⟨rfl, _, Eq.trans (World.drewN_drewN _ _ _) (congrArg (World.drewN _) (Nat.add_assoc _ _ _))⟩); have p13 : 0 ≤ (x20_1 : Int) := dT; have q13 : (x20_1 : Int) < ((x6_1.length : Int) : Int) := dT; obtain ⟨go13, co13, eo13, gb13, gl13, cl13, HG13⟩ := Kd.R_form HO_6.out (by omega); (first | cases eo13 | (injection eo13 with ea_ en_ ec_; (first | subst ea_ | (injection ea_ with ea_; subst ea_)); subst ec_; clear en_)); have GB13 := Aside0.mk gb13; have GG13 := Aside0.mk HG13; clear gb13 gl13 HG13; obtain ⟨hx13_0, hf13_0⟩ := Kd.R_celln 0 HO_6.out (x20_1 : Int) p13 q13; replace p13 := eq_true p13; replace q13 := eq_true q13; obtain ⟨hy16_, hz16_⟩ := Kd.R_celln 0 HO_6.out (x20_1 : Int) dT dT; have HP16 := Kd.R_putg HO_6.out (x20_1 : Int) x20_1) | ((with_reducible refine gate_store (t := 3) (p := 32) rfl ?_); (try (rw [drewN_self wr]; generalize hq_ : World.drewN wr _ = wr; have n0_ := Aside0.mk (Kd.R_at hq_ HO_6.out); have n1_ := Aside0.mk (Kd.R_at hq_ HO_7.out); have n2_ := Aside0.mk (below_at hq_ HB.out); clear hq_ HO_6 HO_7 HB; have HO_6 := n0_; have HO_7 := n1_; have HB := n2_; clear n0_ n1_ n2_; (try (obtain ⟨hy16_, hz16_⟩ := Kd.R_celln 0 HO_6.out (x20_1 : Int) dT dT)); (try (have HP16 := Kd.R_putg HO_6.out (x20_1 : Int) x20_1)))); refine store_event (t := 3) (p := 32) (v := ?vo_w17) (w1 := (wr.setCell ⟨go13, (x20_1 : Int).toNat, none⟩ (.int .i64 x20_1))) ?hg ?ho ?hn ?hr ?_; (case ho => rfl); (case hg => rfl); (case hn => rfl); (case hr => first | (go_simp; done) | (go_simp; rfl)); intro w17 hw; have hg : wr.grownBy w17 (some go13) := (by rw [hw]; exact HP16.2); have hp_ : Kd.R (Kd.int .i64) 3 w17 w.heap.size (fun k_ => some k_ ≠ (v391 : Value).ownBlock) (.slice (some ⟨go13, 0, none⟩) x6_1.length co13) y394 := (by rw [hw, Ny394.out]; exact HP16.1); clear HP16; have n0_ := Aside0.mk (hp_); have n1_ := Aside0.mk (Kd.R_after (v := (.slice (some ⟨go13, 0, none⟩) x6_1.length co13)) (v1 := (.slice (some ⟨go13, 0, none⟩) x6_1.length co13)) (ok := (fun _ => True)) (by (with_reducible repeat (first | apply Kd.R_alloc | apply Kd.R_drewN | apply Kd.R_drew)); exact Kd.R_mono HO_7.out (fun _ hk => ⟨trivial, hk⟩)) hg (.inl rfl)); have n2_ := Aside0.mk ((by rw [hw]; exact below_set (HB.out) GB13.out : Below w.heap.size w w17)); clear HO_6 HO_7 HB; have HO_6 := n0_; have HO_7 := n1_; have HB := n2_; clear n0_ n1_ n2_; clear hg hw hp_; have p15 : 0 ≤ (x20_1 : Int) := dT; have q15 : (x20_1 : Int) < ((x7_1.length : Int) : Int) := dT; obtain ⟨go15, co15, eo15, gb15, gl15, cl15, HG15⟩ := Kd.R_form HO_7.out (by omega); (first | cases eo15 | (injection eo15 with ea_ en_ ec_; (first | subst ea_ | (injection ea_ with ea_; subst ea_)); subst ec_; clear en_)); have GB15 := Aside0.mk gb15; have GG15 := Aside0.mk HG15; clear gb15 gl15 HG15; obtain ⟨hx15_0, hf15_0⟩ := Kd.R_celln 0 HO_7.out (x20_1 : Int) p15 q15; replace p15 := eq_true p15; replace q15 := eq_true q15; have n_ := Aside0.mk (Kd.R_mono (ok' := (fun k_ => some k_ ≠ (.slice (some ⟨go13, 0, none⟩) x6_1.length co13 : Value).ownBlock)) HO_7.out (fun k_ hk => hk.2)); clear HO_7; have HO_7 := n_; clear n_; obtain ⟨hy18_, hz18_⟩ := Kd.R_celln 0 HO_7.out (x20_1 : Int) dT dT; have HP18 := Kd.R_putg HO_7.out (x20_1 : Int) t393) | ((with_reducible refine gate_store (t := 3) (p := 33) rfl ?_); (try (rw [drewN_self w17]; generalize hq_ : World.drewN w17 _ = w17; have n0_ := Aside0.mk (Kd.R_at hq_ HO_6.out); have n1_ := Aside0.mk (Kd.R_at hq_ HO_7.out); have n2_ := Aside0.mk (below_at hq_ HB.out); clear hq_ HO_6 HO_7 HB; have HO_6 := n0_; have HO_7 := n1_; have HB := n2_; clear n0_ n1_ n2_; (try (have n_ := Aside0.mk (Kd.R_mono (ok' := (fun k_ => some k_ ≠ (.slice (some ⟨go13, 0, none⟩) x6_1.length co13 : Value).ownBlock)) HO_7.out (fun k_ hk => hk.2)); clear HO_7; have HO_7 := n_; clear n_)); (try (obtain ⟨hy18_, hz18_⟩ := Kd.R_celln 0 HO_7.out (x20_1 : Int) dT dT)); (try (have HP18 := Kd.R_putg HO_7.out (x20_1 : Int) t393)))); refine store_event (t := 3) (p := 33) (v := ?vo_w19) (w1 := (w17.setCell ⟨go15, (x20_1 : Int).toNat, none⟩ (.int .i64 t393))) ?hg ?ho ?hn ?hr ?_; (case ho => rfl); (case hg => rfl); (case hn => rfl); (case hr => first | (go_simp; done) | (go_simp; rfl)); intro w19 hw; have hg : w17.grownBy w19 (some go15) := (by rw [hw]; exact HP18.2); have hp_ : Kd.R (Kd.int .i64) 3 w19 w.heap.size (fun k_ => some k_ ≠ (.slice (some ⟨go13, 0, none⟩) x6_1.length co13 : Value).ownBlock) (.slice (some ⟨go15, 0, none⟩) x7_1.length co15) y395 := (by rw [hw, Ny395.out]; exact HP18.1); clear HP18; have n0_ := Aside0.mk (Kd.R_after (v := (.slice (some ⟨go15, 0, none⟩) x7_1.length co15)) (v1 := (.slice (some ⟨go15, 0, none⟩) x7_1.length co15)) (ok := (fun _ => True)) (by (with_reducible repeat (first | apply Kd.R_alloc | apply Kd.R_drewN | apply Kd.R_drew)); exact Kd.R_mono HO_6.out (fun _ hk => ⟨trivial, hk⟩)) hg (.inl rfl)); have n1_ := Aside0.mk (hp_); have n2_ := Aside0.mk ((by rw [hw]; exact below_set (HB.out) GB15.out : Below w.heap.size w w19)); clear HO_6 HO_7 HB; have HO_6 := n0_; have HO_7 := n1_; have HB := n2_; clear n0_ n1_ n2_; clear hg hw hp_)))
    go_roundg k1
    case measure => have := HK1.out; omega
    case rel => exact ⟨(y394), (y395), (wrap64 (x20_1 + 1)), sD, H', ⟨by have := HK1.out; omega⟩, ⟨by (with_reducible repeat (first | apply Kd.R_alloc | apply Kd.R_drewN | apply Kd.R_drew)); exact Kd.R_mono HO_6.out (fun _ hk => hk.2)⟩, ⟨uR HO_7.out⟩, ⟨uB⟩⟩
   ·obtain ⟨⟨t396, t397⟩, A20, H⟩ := bdS H
    try dsimp only at H
    obtain ⟨⟨t400, t401⟩, A21, H⟩ := bdS H
    try dsimp only at H
    obtain ⟨c22b0, c22b1, H⟩ := ifE H
    obtain ⟨c23b0, c23b1, H⟩ := ifE H
    obtain ⟨y404, hy404⟩ : ∃ y_ : List Int, y_ = (List.replicate ((l0.length : Int) : Int).toNat 0) := ⟨_, rfl⟩
    replace H : (double_joined.l1 k1 l0 t400 x7_1 y404 t400 (t400.length : Int) 0) = some (r1, r2) := by first | (rw [hy404]; with_reducible exact H) | (have H2_ := (Option.bind_some _ _).symm.trans H; rw [hy404]; with_reducible exact H2_) | (have H2_ := (Option.bind_some _ _).symm.trans H; with_reducible exact H2_) | with_reducible exact H | (rw [hy404]; exact H) | exact H
    have Ny404 := Aside0.mk hy404
    clear hy404
    have H' := Aside0.mk H
    clear H
    obtain ⟨Ao24, co24, eo24⟩ := Kd.R_slice HO_6.out
    subst eo24
    obtain ⟨Ao25, co25, eo25⟩ := Kd.R_slice HO_7.out
    subst eo25
    go_wp2_with (first | (go_at_call 71; (with_reducible refine (bucket_Pass.calls k1 _ _ x6_1 _ _ x7_1 (wrap64 ((l0.length : Int) + 1)) t396 t397 _ ?side1 ?side2 ?side3 ?side4 A20.out).mono ?_); (case side1 => exact uC (Kd.R_reads' HO_6.out).2.2); (case side2 => exact (Kd.R_reads' HO_6.out).2.1); (case side3 => exact uC (Kd.R_reads' HO_7.out).2.2); (case side4 => exact (Kd.R_reads' HO_7.out).2.1); rintro e w26 ⟨v398, rfl, ho0, hb⟩; have n0_ := Aside0.mk (Kd.R_elder' (uR HO_6.out) (Kd.R_base ho0) hb); have n1_ := Aside0.mk (Kd.R_elder' (uR HO_7.out) (Kd.R_base ho0) hb); have n2_ := Aside0.mk (Kd.R_lower (Kd.R_new' (Kd.R_new' ho0 (Kd.R_lt (uR HO_6.out))) (Kd.R_lt (uR HO_7.out))) (below_size uB)); have n3_ := Aside0.mk (below_step uB hb); clear HO_6 HO_7 HB; have HO_6 := n0_; have HO_7 := n1_; have HO399 := n2_; have HB := n3_; clear n0_ n1_ n2_ n3_; obtain ⟨Ao27, co27, eo27⟩ := Kd.R_slice HO399.out; subst eo27) | (go_at_call 71; (with_reducible refine (bucket_Pass.calls k1 _ _ t396 _ _ l0 (l0.length : Int) t400 t401 _ ?side1 ?side2 ?side3 ?side4 A21.out).mono ?_); (case side1 => exact uC (Kd.R_reads' HO399.out).2.2); (case side2 => exact (Kd.R_reads' HO399.out).2.1); (case side3 => exact uC (Kd.C_below HR0.out HB.out)); (case side4 => exact HC0.out); rintro e w28 ⟨v402, rfl, ho0, hb⟩; have n0_ := Aside0.mk (Kd.R_elder' (uR HO_6.out) (Kd.R_base ho0) hb); have n1_ := Aside0.mk (Kd.R_elder' (uR HO_7.out) (Kd.R_base ho0) hb); have n2_ := Aside0.mk (Kd.R_elder' (uR HO399.out) (Kd.R_base ho0) hb); have n3_ := Aside0.mk (Kd.R_lower (Kd.R_new' (Kd.R_new' (Kd.R_new' ho0 (Kd.R_lt (uR HO_6.out))) (Kd.R_lt (uR HO_7.out))) (Kd.R_lt (uR HO399.out))) (below_size uB)); have n4_ := Aside0.mk (below_step uB hb); clear HO_6 HO_7 HO399 HB; have HO_6 := n0_; have HO_7 := n1_; have HO399 := n2_; have HO403 := n3_; have HB := n4_; clear n0_ n1_ n2_ n3_ n4_) | ((with_reducible refine gate_dst (N := 54) rfl ?_); refine Kd.R_make (Kd.int .i64) _ 3 rfl (N := 54) rfl 29 _ _ rfl (l0.length : Int) rfl rfl Tryz.underlying29 (.int .i64 0) 8 info3 rfl (by decide) (by omega) 0 (ok := fun _ => True) (okp := fun _ => True) rfl (fun _ hk => hk) trivial dT (Nat.le_trans (Nat.mul_le_mul_right _ (dT : (l0.length : Int).toNat ≤ 35184372088832)) (by omega)) (Below.refl _ _) (Nat.le_refl _) ?_; intro v405 w29 ho30 hb hg_ hnew_; clear hg_ hnew_; (first | rw [← Ny404.out] at ho30 | (simp only [Int.reduceToNat] at ho30; rw [← Ny404.out] at ho30)); have n0_ := Aside0.mk (Kd.R_elder' (uR HO_6.out) (Kd.R_base ho30) hb); have n1_ := Aside0.mk (Kd.R_elder' (uR HO_7.out) (Kd.R_base ho30) hb); have n2_ := Aside0.mk (Kd.R_elder' (uR HO399.out) (Kd.R_base ho30) hb); have n3_ := Aside0.mk (Kd.R_elder' (uR HO403.out) (Kd.R_base ho30) hb); have n4_ := Aside0.mk (Kd.R_lower (Kd.R_new' (Kd.R_new' (Kd.R_new' (Kd.R_new' ho30 (Kd.R_lt (uR HO_6.out))) (Kd.R_lt (uR HO_7.out))) (Kd.R_lt (uR HO399.out))) (Kd.R_lt (uR HO403.out))) (below_size uB)); have n5_ := Aside0.mk (below_step uB hb); clear HO_6 HO_7 HO399 HO403 HB; have HO_6 := n0_; have HO_7 := n1_; have HO399 := n2_; have HO403 := n3_; have HO406 := n4_; have HB := n5_; clear n0_ n1_ n2_ n3_ n4_ n5_; clear hb ho30; obtain ⟨Ao31, co31, eo31⟩ := Kd.R_slice HO403.out; subst eo31))
    repeat (go_quiet (first | (go_at_call 71; (with_reducible refine (bucket_Pass.calls k1 _ _ x6_1 _ _ x7_1 (wrap64 ((l0.length : Int) + 1)) t396 t397 _ ?side1 ?side2 ?side3 ?side4 A20.out).mono ?_); (case side1 => exact uC (Kd.R_reads' HO_6.out).2.2); (case side2 => exact (Kd.R_reads' HO_6.out).2.1); (case side3 => exact uC (Kd.R_reads' HO_7.out).2.2); (case side4 => exact (Kd.R_reads' HO_7.out).2.1); rintro e w26 ⟨v398, rfl, ho0, hb⟩; have n0_ := Aside0.mk (Kd.R_elder' (uR HO_6.out) (Kd.R_base ho0) hb); have n1_ := Aside0.mk (Kd.R_elder' (uR HO_7.out) (Kd.R_base ho0) hb); have n2_ := Aside0.mk (Kd.R_lower (Kd.R_new' (Kd.R_new' ho0 (Kd.R_lt (uR HO_6.out))) (Kd.R_lt (uR HO_7.out))) (below_size uB)); have n3_ := Aside0.mk (below_step uB hb); clear HO_6 HO_7 HB; have HO_6 := n0_; have HO_7 := n1_; have HO399 := n2_; have HB := n3_; clear n0_ n1_ n2_ n3_; obtain ⟨Ao27, co27, eo27⟩ := Kd.R_slice HO399.out; subst eo27) | (go_at_call 71; (with_reducible refine (bucket_Pass.calls k1 _ _ t396 _ _ l0 (l0.length : Int) t400 t401 _ ?side1 ?side2 ?side3 ?side4 A21.out).mono ?_); (case side1 => exact uC (Kd.R_reads' HO399.out).2.2); (case side2 => exact (Kd.R_reads' HO399.out).2.1); (case side3 => exact uC (Kd.C_below HR0.out HB.out)); (case side4 => exact HC0.out); rintro e w28 ⟨v402, rfl, ho0, hb⟩; have n0_ := Aside0.mk (Kd.R_elder' (uR HO_6.out) (Kd.R_base ho0) hb); have n1_ := Aside0.mk (Kd.R_elder' (uR HO_7.out) (Kd.R_base ho0) hb); have n2_ := Aside0.mk (Kd.R_elder' (uR HO399.out) (Kd.R_base ho0) hb); have n3_ := Aside0.mk (Kd.R_lower (Kd.R_new' (Kd.R_new' (Kd.R_new' ho0 (Kd.R_lt (uR HO_6.out))) (Kd.R_lt (uR HO_7.out))) (Kd.R_lt (uR HO399.out))) (below_size uB)); have n4_ := Aside0.mk (below_step uB hb); clear HO_6 HO_7 HO399 HB; have HO_6 := n0_; have HO_7 := n1_; have HO399 := n2_; have HO403 := n3_; have HB := n4_; clear n0_ n1_ n2_ n3_ n4_) | ((with_reducible refine gate_dst (N := 54) rfl ?_); refine Kd.R_make (Kd.int .i64) _ 3 rfl (N := 54) rfl 29 _ _ rfl (l0.length : Int) rfl rfl Tryz.underlying29 (.int .i64 0) 8 info3 rfl (by decide) (by omega) 0 (ok := fun _ => True) (okp := fun _ => True) rfl (fun _ hk => hk) trivial dT (Nat.le_trans (Nat.mul_le_mul_right _ (dT : (l0.length : Int).toNat ≤ 35184372088832)) (by omega)) (Below.refl _ _) (Nat.le_refl _) ?_; intro v405 w29 ho30 hb hg_ hnew_; clear hg_ hnew_; (first | rw [← Ny404.out] at ho30 | (simp only [Int.reduceToNat] at ho30; rw [← Ny404.out] at ho30)); have n0_ := Aside0.mk (Kd.R_elder' (uR HO_6.out) (Kd.R_base ho30) hb); have n1_ := Aside0.mk (Kd.R_elder' (uR HO_7.out) (Kd.R_base ho30) hb); have n2_ := Aside0.mk (Kd.R_elder' (uR HO399.out) (Kd.R_base ho30) hb); have n3_ := Aside0.mk (Kd.R_elder' (uR HO403.out) (Kd.R_base ho30) hb); have n4_ := Aside0.mk (Kd.R_lower (Kd.R_new' (Kd.R_new' (Kd.R_new' (Kd.R_new' ho30 (Kd.R_lt (uR HO_6.out))) (Kd.R_lt (uR HO_7.out))) (Kd.R_lt (uR HO399.out))) (Kd.R_lt (uR HO403.out))) (below_size uB)); have n5_ := Aside0.mk (below_step uB hb); clear HO_6 HO_7 HO399 HO403 HB; have HO_6 := n0_; have HO_7 := n1_; have HO399 := n2_; have HO403 := n3_; have HO406 := n4_; have HB := n5_; clear n0_ n1_ n2_ n3_ n4_ n5_; clear hb ho30; obtain ⟨Ao31, co31, eo31⟩ := Kd.R_slice HO403.out; subst eo31)); try go_wp2_with (first | (go_at_call 71; (with_reducible refine (bucket_Pass.calls k1 _ _ x6_1 _ _ x7_1 (wrap64 ((l0.length : Int) + 1)) t396 t397 _ ?side1 ?side2 ?side3 ?side4 A20.out).mono ?_); (case side1 => exact uC (Kd.R_reads' HO_6.out).2.2); (case side2 => exact (Kd.R_reads' HO_6.out).2.1); (case side3 => exact uC (Kd.R_reads' HO_7.out).2.2); (case side4 => exact (Kd.R_reads' HO_7.out).2.1); rintro e w26 ⟨v398, rfl, ho0, hb⟩; have n0_ := Aside0.mk (Kd.R_elder' (uR HO_6.out) (Kd.R_base ho0) hb); have n1_ := Aside0.mk (Kd.R_elder' (uR HO_7.out) (Kd.R_base ho0) hb); have n2_ := Aside0.mk (Kd.R_lower (Kd.R_new' (Kd.R_new' ho0 (Kd.R_lt (uR HO_6.out))) (Kd.R_lt (uR HO_7.out))) (below_size uB)); have n3_ := Aside0.mk (below_step uB hb); clear HO_6 HO_7 HB; have HO_6 := n0_; have HO_7 := n1_; have HO399 := n2_; have HB := n3_; clear n0_ n1_ n2_ n3_; obtain ⟨Ao27, co27, eo27⟩ := Kd.R_slice HO399.out; subst eo27) | (go_at_call 71; (with_reducible refine (bucket_Pass.calls k1 _ _ t396 _ _ l0 (l0.length : Int) t400 t401 _ ?side1 ?side2 ?side3 ?side4 A21.out).mono ?_); (case side1 => exact uC (Kd.R_reads' HO399.out).2.2); (case side2 => exact (Kd.R_reads' HO399.out).2.1); (case side3 => exact uC (Kd.C_below HR0.out HB.out)); (case side4 => exact HC0.out); rintro e w28 ⟨v402, rfl, ho0, hb⟩; have n0_ := Aside0.mk (Kd.R_elder' (uR HO_6.out) (Kd.R_base ho0) hb); have n1_ := Aside0.mk (Kd.R_elder' (uR HO_7.out) (Kd.R_base ho0) hb); have n2_ := Aside0.mk (Kd.R_elder' (uR HO399.out) (Kd.R_base ho0) hb); have n3_ := Aside0.mk (Kd.R_lower (Kd.R_new' (Kd.R_new' (Kd.R_new' ho0 (Kd.R_lt (uR HO_6.out))) (Kd.R_lt (uR HO_7.out))) (Kd.R_lt (uR HO399.out))) (below_size uB)); have n4_ := Aside0.mk (below_step uB hb); clear HO_6 HO_7 HO399 HB; have HO_6 := n0_; have HO_7 := n1_; have HO399 := n2_; have HO403 := n3_; have HB := n4_; clear n0_ n1_ n2_ n3_ n4_) | ((with_reducible refine gate_dst (N := 54) rfl ?_); refine Kd.R_make (Kd.int .i64) _ 3 rfl (N := 54) rfl 29 _ _ rfl (l0.length : Int) rfl rfl Tryz.underlying29 (.int .i64 0) 8 info3 rfl (by decide) (by omega) 0 (ok := fun _ => True) (okp := fun _ => True) rfl (fun _ hk => hk) trivial dT (Nat.le_trans (Nat.mul_le_mul_right _ (dT : (l0.length : Int).toNat ≤ 35184372088832)) (by omega)) (Below.refl _ _) (Nat.le_refl _) ?_; intro v405 w29 ho30 hb hg_ hnew_; clear hg_ hnew_; (first | rw [← Ny404.out] at ho30 | (simp only [Int.reduceToNat] at ho30; rw [← Ny404.out] at ho30)); have n0_ := Aside0.mk (Kd.R_elder' (uR HO_6.out) (Kd.R_base ho30) hb); have n1_ := Aside0.mk (Kd.R_elder' (uR HO_7.out) (Kd.R_base ho30) hb); have n2_ := Aside0.mk (Kd.R_elder' (uR HO399.out) (Kd.R_base ho30) hb); have n3_ := Aside0.mk (Kd.R_elder' (uR HO403.out) (Kd.R_base ho30) hb); have n4_ := Aside0.mk (Kd.R_lower (Kd.R_new' (Kd.R_new' (Kd.R_new' (Kd.R_new' ho30 (Kd.R_lt (uR HO_6.out))) (Kd.R_lt (uR HO_7.out))) (Kd.R_lt (uR HO399.out))) (Kd.R_lt (uR HO403.out))) (below_size uB)); have n5_ := Aside0.mk (below_step uB hb); clear HO_6 HO_7 HO399 HO403 HB; have HO_6 := n0_; have HO_7 := n1_; have HO399 := n2_; have HO403 := n3_; have HO406 := n4_; have HB := n5_; clear n0_ n1_ n2_ n3_ n4_ n5_; clear hb ho30; obtain ⟨Ao31, co31, eo31⟩ := Kd.R_slice HO403.out; subst eo31)))
    go_loopg [57] k1 (fun kq v57 w' => ∃ (x9_2 : List Int) (x57_2 : Int), v57 = .int .i64 x57_2 ∧ Aside0 (double_joined.l1 kq l0 t400 x7_1 x9_2 t400 (t400.length : Int) x57_2 = some (r1, r2)) ∧ Aside0 (kq ≤ k1) ∧ Aside0 (Kd.R (Kd.int .i64) 3 w' w.heap.size (fun k_ => some k_ ≠ ((.slice Ao25 x7_1.length co25) : Value).ownBlock ∧ some k_ ≠ (v405 : Value).ownBlock) (.slice Ao31 t400.length co31) t400) ∧ Aside0 (Kd.R (Kd.int .i64) 3 w' w.heap.size (fun k_ => some k_ ≠ ((.slice Ao31 t400.length co31) : Value).ownBlock ∧ some k_ ≠ (v405 : Value).ownBlock ∧ some k_ ≠ ((.slice Ao31 t400.length co31) : Value).ownBlock) (.slice Ao25 x7_1.length co25) x7_1) ∧ Aside0 (Kd.R (Kd.int .i64) 3 w' w.heap.size (fun k_ => some k_ ≠ ((.slice Ao31 t400.length co31) : Value).ownBlock ∧ some k_ ≠ ((.slice Ao25 x7_1.length co25) : Value).ownBlock ∧ some k_ ≠ ((.slice Ao31 t400.length co31) : Value).ownBlock) v405 x9_2) ∧ Aside0 (Kd.R (Kd.int .i64) 3 w' w.heap.size (fun k_ => some k_ ≠ ((.slice Ao25 x7_1.length co25) : Value).ownBlock ∧ some k_ ≠ (v405 : Value).ownBlock) (.slice Ao31 t400.length co31) t400) ∧ Aside0 (Below w.heap.size w w'))
    case atStart => exact ⟨(y404), (0), sD, H', ⟨Nat.le_refl _⟩, ⟨by (with_reducible repeat (first | apply Kd.R_alloc | apply Kd.R_drewN | apply Kd.R_drew)); exact Kd.R_mono HO403.out (fun _ hk => ⟨hk.1.1.2, hk.2⟩)⟩, ⟨by (with_reducible repeat (first | apply Kd.R_alloc | apply Kd.R_drewN | apply Kd.R_drew)); exact Kd.R_mono HO_7.out (fun _ hk => ⟨hk.1.2, ⟨hk.2, hk.1.2⟩⟩)⟩, ⟨by (with_reducible repeat (first | apply Kd.R_alloc | apply Kd.R_drewN | apply Kd.R_drew)); exact Kd.R_mono HO406.out (fun _ hk => ⟨hk.2, ⟨hk.1.1.2, hk.2⟩⟩)⟩, ⟨by (with_reducible repeat (first | apply Kd.R_alloc | apply Kd.R_drewN | apply Kd.R_drew)); exact Kd.R_mono HO403.out (fun _ hk => ⟨hk.1.1.2, hk.2⟩)⟩, ⟨uB⟩⟩
    case round =>
     clear H'
     obtain ⟨x9_2, x57_2, rfl, HA, HK2, HO_6, HO_7, HO_9, HO_55, HB⟩ := hrel
     cases gk with
     | zero => exact absurd HA.out (by simp [double_joined.l1])
     | succ k2 =>
      have H := HA.out
      clear HA
      simp only [double_joined.l1] at H
      rcases ifC H with ⟨c32b0, H⟩ | ⟨c32b0, H⟩
      ·obtain ⟨c33b0, c34b0, H⟩ := ifD2 H
       obtain ⟨c35b0, c36b0, H⟩ := ifD2 H
       obtain ⟨y408, hy408⟩ : ∃ y_ : List Int, y_ = (x9_2.set ((rd t400 x57_2) : Int).toNat x57_2) := ⟨_, rfl⟩
       replace H : (if x57_2 > 0 then (if 0 ≤ (wrap64 (x57_2 - 1)) then (if (wrap64 (x57_2 - 1)) < (t400.length : Int) then (if 0 ≤ (rd t400 (wrap64 (x57_2 - 1))) then (if (rd t400 (wrap64 (x57_2 - 1))) < (l0.length : Int) then (if (rd t400 x57_2) < (l0.length : Int) then (if (rd l0 (rd t400 (wrap64 (x57_2 - 1)))) = (rd l0 (rd t400 x57_2)) then (if (rd t400 (wrap64 (x57_2 - 1))) < (x7_1.length : Int) then (if (rd t400 x57_2) < (x7_1.length : Int) then (if (rd x7_1 (rd t400 (wrap64 (x57_2 - 1)))) = (rd x7_1 (rd t400 x57_2)) then (if (rd t400 (wrap64 (x57_2 - 1))) < (x9_2.length : Int) then (double_joined.l1 k2 l0 t400 x7_1 (y408.set ((rd t400 x57_2) : Int).toNat (rd y408 (rd t400 (wrap64 (x57_2 - 1))))) t400 (t400.length : Int) (wrap64 (x57_2 + 1))) else (none)) else (double_joined.l1 k2 l0 t400 x7_1 y408 t400 (t400.length : Int) (wrap64 (x57_2 + 1)))) else (none)) else (none)) else (double_joined.l1 k2 l0 t400 x7_1 y408 t400 (t400.length : Int) (wrap64 (x57_2 + 1)))) else (none)) else (none)) else (none)) else (none)) else (none)) else (double_joined.l1 k2 l0 t400 x7_1 y408 t400 (t400.length : Int) (wrap64 (x57_2 + 1)))) = some (r1, r2) := by first | (rw [hy408]; with_reducible exact H) | (have H2_ := (Option.bind_some _ _).symm.trans H; rw [hy408]; with_reducible exact H2_) | (have H2_ := (Option.bind_some _ _).symm.trans H; with_reducible exact H2_) | with_reducible exact H | (rw [hy408]; exact H) | exact H
       have Ny408 := Aside0.mk hy408
       clear hy408
       rcases ifK H with ⟨c38b0, H⟩ | ⟨c38b0, H⟩
       ·obtain ⟨ji39, hji39⟩ : ∃ j_ : Int, (wrap64 (x57_2 - 1)) = j_ := ⟨_, rfl⟩
        first | rw [hji39] at H | simp only [hji39] at H
        have hji39w : (IntKind.i64.wrap (x57_2 - 1)) = ji39 := (i64_w _).trans hji39
        obtain ⟨c40b0, H⟩ := ifD H
        obtain ⟨c41b0, c42b0, H⟩ := ifD2 H
        obtain ⟨c43b0, c44b0, H⟩ := ifD2 H
        by_cases c45 : (rd l0 (rd t400 (ji39))) = (rd l0 (rd t400 x57_2))
        ·rw [if_pos c45] at H
         have c45b0 : ((rd l0 (rd t400 (ji39))) == (rd l0 (rd t400 x57_2))) = true := beq_iff_eq.mpr c45
         have c45b1 : ((rd l0 (rd t400 (ji39))) != (rd l0 (rd t400 x57_2))) = false := bne_eq_false_iff_eq.mpr c45
         clear c45
         obtain ⟨c46b0, c47b0, H⟩ := ifD2 H
         by_cases c48 : (rd x7_1 (rd t400 (ji39))) = (rd x7_1 (rd t400 x57_2))
         ·rw [if_pos c48] at H
          have c48b0 : ((rd x7_1 (rd t400 (ji39))) == (rd x7_1 (rd t400 x57_2))) = true := beq_iff_eq.mpr c48
          have c48b1 : ((rd x7_1 (rd t400 (ji39))) != (rd x7_1 (rd t400 x57_2))) = false := bne_eq_false_iff_eq.mpr c48
          clear c48
          obtain ⟨c49b0, H⟩ := ifD H
          obtain ⟨y417, hy417⟩ : ∃ y_ : List Int, y_ = (y408.set ((rd t400 x57_2) : Int).toNat (rd y408 (rd t400 (ji39)))) := ⟨_, rfl⟩
          replace H : (double_joined.l1 k2 l0 t400 x7_1 y417 t400 (t400.length : Int) (wrap64 (x57_2 + 1))) = some (r1, r2) := by first | (rw [hy417]; with_reducible exact H) | (have H2_ := (Option.bind_some _ _).symm.trans H; rw [hy417]; with_reducible exact H2_) | (have H2_ := (Option.bind_some _ _).symm.trans H; with_reducible exact H2_) | with_reducible exact H | (rw [hy417]; exact H) | exact H
          have Ny417 := Aside0.mk hy417
          clear hy417
          have H' := Aside0.mk H
          clear H
          obtain ⟨ad407, e407, hx407_0, p407, q407⟩ := rI (Kd.R_reads' HO_55.out).2.2 x57_2
          cases e407
          have p37 : 0 ≤ ((rd t400 x57_2) : Int) := dT
          have q37 : ((rd t400 x57_2) : Int) < ((x9_2.length : Int) : Int) := dT
          obtain ⟨go37, co37, eo37, gb37, gl37, cl37, HG37⟩ := Kd.R_form HO_9.out (by omega)
          (first | cases eo37 | (injection eo37 with ea_ en_ ec_; (first | subst ea_ | (injection ea_ with ea_; subst ea_)); subst ec_; clear en_))
          have GB37 := Aside0.mk gb37
          have GG37 := Aside0.mk HG37
          clear gb37 gl37 HG37
          obtain ⟨hx37_0, hf37_0⟩ := Kd.R_celln 0 HO_9.out ((rd t400 x57_2) : Int) p37 q37
          replace p37 := eq_true p37
          replace q37 := eq_true q37
          have HP51 := Kd.R_putg HO_9.out ((rd t400 x57_2) : Int) x57_2
          go_wp2_with (first | ((with_reducible refine gate_store (t := 3) (p := 65) rfl ?_); (try (rw [drewN_self wr]; generalize hq_ : World.drewN wr _ = wr; have n0_ := Aside0.mk (Kd.R_at hq_ HO_6.out); have n1_ := Aside0.mk (Kd.R_at hq_ HO_7.out); have n2_ := Aside0.mk (Kd.R_at hq_ HO_9.out); have n3_ := Aside0.mk (Kd.R_at hq_ HO_55.out); have n4_ := Aside0.mk (below_at hq_ HB.out); clear hq_ HO_6 HO_7 HO_9 HO_55 HB; have HO_6 := n0_; have HO_7 := n1_; have HO_9 := n2_; have HO_55 := n3_; have HB := n4_; clear n0_ n1_ n2_ n3_ n4_; (try (have HP51 := Kd.R_putg HO_9.out ((rd t400 x57_2) : Int) x57_2)))); refine store_event (t := 3) (p := 65) (v := ?vo_w52) (w1 := (wr.setCell ⟨go37, ((rd t400 x57_2) : Int).toNat, none⟩ (.int .i64 x57_2))) ?hg ?ho ?hn ?hr ?_; (case ho => rfl); (case hg => rfl); (case hn => rfl); (case hr => first | (go_simp; done) | (go_simp; rfl)); intro w52 hw; have hg : wr.grownBy w52 (some go37) := (by rw [hw]; exact HP51.2); have hp_ : Kd.R (Kd.int .i64) 3 w52 w.heap.size (fun k_ => some k_ ≠ (.slice (some ad407) t400.length co31 : Value).ownBlock ∧ some k_ ≠ (.slice Ao25 x7_1.length co25 : Value).ownBlock ∧ some k_ ≠ (.slice (some ad407) t400.length co31 : Value).ownBlock) (.slice (some ⟨go37, 0, none⟩) x9_2.length co37) y408 := (by rw [hw, Ny408.out]; exact HP51.1); clear HP51; have n0_ := Aside0.mk (Kd.R_after (v := (.slice (some ⟨go37, 0, none⟩) x9_2.length co37)) (v1 := (.slice (some ⟨go37, 0, none⟩) x9_2.length co37)) (ok := (fun k_ => some k_ ≠ (.slice Ao25 x7_1.length co25 : Value).ownBlock)) (uR HO_6.out) hg (.inl rfl)); have n1_ := Aside0.mk (Kd.R_after (v := (.slice (some ⟨go37, 0, none⟩) x9_2.length co37)) (v1 := (.slice (some ⟨go37, 0, none⟩) x9_2.length co37)) (ok := (fun k_ => some k_ ≠ (.slice (some ad407) t400.length co31 : Value).ownBlock ∧ some k_ ≠ (.slice (some ad407) t400.length co31 : Value).ownBlock)) (by (with_reducible repeat (first | apply Kd.R_alloc | apply Kd.R_drewN | apply Kd.R_drew)); exact Kd.R_mono HO_7.out (fun _ hk => ⟨⟨hk.1, hk.2.2⟩, hk.2.1⟩)) hg (.inl rfl)); have n2_ := Aside0.mk (hp_); have n3_ := Aside0.mk (Kd.R_after (v := (.slice (some ⟨go37, 0, none⟩) x9_2.length co37)) (v1 := (.slice (some ⟨go37, 0, none⟩) x9_2.length co37)) (ok := (fun k_ => some k_ ≠ (.slice Ao25 x7_1.length co25 : Value).ownBlock)) (uR HO_55.out) hg (.inl rfl)); have n4_ := Aside0.mk ((by rw [hw]; exact below_set (HB.out) GB37.out : Below w.heap.size w w52)); clear HO_6 HO_7 HO_9 HO_55 HB; have HO_6 := n0_; have HO_7 := n1_; have HO_9 := n2_; have HO_55 := n3_; have HB := n4_; clear n0_ n1_ n2_ n3_ n4_; clear hg hw hp_; have p409 : 0 ≤ ((ji39) : Int) := dT; have q409 : (ji39) < (t400.length : Int) := dT; obtain ⟨ad409, e409, hx409_0⟩ := Kd.at_int (Kd.R_reads' HO_6.out).2.2 (ji39) p409 q409; obtain rfl : ad407 = ad409 := (by injection e409); replace p409 := eq_true p409; replace q409 := eq_true q409; have p410 : 0 ≤ ((rd t400 (ji39)) : Int) := dT; have q410 : (rd t400 (ji39)) < (l0.length : Int) := dT; obtain ⟨ad410, e410, hx410_0⟩ := Kd.at_int HR0.out (rd t400 (ji39)) p410 q410; cases e410; replace hx410_0 := (HB.out.cell (World.block_lt_of_cell? w _ hx410_0)).trans hx410_0; replace p410 := eq_true p410; replace q410 := eq_true q410; have p411 : 0 ≤ ((rd t400 x57_2) : Int) := dT; have q411 : (rd t400 x57_2) < (l0.length : Int) := dT; obtain ⟨ad411, e411, hx411_0⟩ := Kd.at_int HR0.out (rd t400 x57_2) p411 q411; obtain rfl : ad410 = ad411 := (by injection e411); replace hx411_0 := (HB.out.cell (World.block_lt_of_cell? w _ hx411_0)).trans hx411_0; replace p411 := eq_true p411; replace q411 := eq_true q411; have p412 : 0 ≤ ((ji39) : Int) := dT; have q412 : (ji39) < (t400.length : Int) := dT; obtain ⟨ad412, e412, hx412_0⟩ := Kd.at_int (Kd.R_reads' HO_6.out).2.2 (ji39) p412 q412; obtain rfl : ad407 = ad412 := (by injection e412); replace p412 := eq_true p412; replace q412 := eq_true q412; have p413 : 0 ≤ ((rd t400 (ji39)) : Int) := dT; have q413 : (rd t400 (ji39)) < (x7_1.length : Int) := dT; obtain ⟨ad413, e413, hx413_0⟩ := Kd.at_int (Kd.R_reads' HO_7.out).2.2 (rd t400 (ji39)) p413 q413; cases e413; replace p413 := eq_true p413; replace q413 := eq_true q413; have p414 : 0 ≤ ((rd t400 x57_2) : Int) := dT; have q414 : (rd t400 x57_2) < (x7_1.length : Int) := dT; obtain ⟨ad414, e414, hx414_0⟩ := Kd.at_int (Kd.R_reads' HO_7.out).2.2 (rd t400 x57_2) p414 q414; obtain rfl : ad413 = ad414 := (by injection e414); replace p414 := eq_true p414; replace q414 := eq_true q414; have p415 : 0 ≤ ((ji39) : Int) := dT; have q415 : (ji39) < (t400.length : Int) := dT; obtain ⟨ad415, e415, hx415_0⟩ := Kd.at_int (Kd.R_reads' HO_6.out).2.2 (ji39) p415 q415; obtain rfl : ad407 = ad415 := (by injection e415); replace p415 := eq_true p415; replace q415 := eq_true q415; have p416 : 0 ≤ ((rd t400 (ji39)) : Int) := dT; have q416 : (rd t400 (ji39)) < (y408.length : Int) := (by have h_ : ((rd t400 (ji39)) : Int) < ((x9_2.length : Int) : Int) := dT; first | (have e_ := (Kd.R_reads' HO_9.out).1; omega) | simpa only [Ny408.out, List.length_set] using h_); have ql416 : (((rd t400 (ji39)) : Int) < ((x9_2.length : Int) : Int)) = True := eq_true dT; obtain ⟨ad416, e416, hx416_0⟩ := Kd.at_int (Kd.R_reads' HO_9.out).2.2 (rd t400 (ji39)) p416 q416; obtain rfl : (⟨go37, 0, none⟩ : Addr) = ad416 := (by injection e416); (first | simp only [add_plain] at hx416_0 | simp only [add_at] at hx416_0 | simp only [Addr.add, Nat.zero_add] at hx416_0 | skip); replace p416 := eq_true p416; replace q416 := eq_true q416; have p50 : 0 ≤ ((rd t400 x57_2) : Int) := dT; have q50 : ((rd t400 x57_2) : Int) < ((x9_2.length : Int) : Int) := dT; obtain ⟨hx50_0, hf50_0⟩ := Kd.R_celln 0 HO_9.out ((rd t400 x57_2) : Int) p50 q50; replace p50 := eq_true p50; replace q50 := eq_true q50; obtain ⟨hy53_, hz53_⟩ := Kd.R_celln 0 HO_9.out ((rd t400 x57_2) : Int) dT dT; have HP53 := Kd.R_putg HO_9.out ((rd t400 x57_2) : Int) (rd y408 (rd t400 (ji39)))) | ((with_reducible refine gate_store (t := 3) (p := 108) rfl ?_); (try (rw [drewN_self w52]; generalize hq_ : World.drewN w52 _ = w52; have n0_ := Aside0.mk (Kd.R_at hq_ HO_6.out); have n1_ := Aside0.mk (Kd.R_at hq_ HO_7.out); have n2_ := Aside0.mk (Kd.R_at hq_ HO_9.out); have n3_ := Aside0.mk (Kd.R_at hq_ HO_55.out); have n4_ := Aside0.mk (below_at hq_ HB.out); clear hq_ HO_6 HO_7 HO_9 HO_55 HB; have HO_6 := n0_; have HO_7 := n1_; have HO_9 := n2_; have HO_55 := n3_; have HB := n4_; clear n0_ n1_ n2_ n3_ n4_; (try (obtain ⟨hy53_, hz53_⟩ := Kd.R_celln 0 HO_9.out ((rd t400 x57_2) : Int) dT dT)); (try (have HP53 := Kd.R_putg HO_9.out ((rd t400 x57_2) : Int) (rd y408 (rd t400 (ji39))))))); refine store_event (t := 3) (p := 108) (v := ?vo_w54) (w1 := (w52.setCell ⟨go37, ((rd t400 x57_2) : Int).toNat, none⟩ (.int .i64 (rd y408 (rd t400 (ji39)))))) ?hg ?ho ?hn ?hr ?_; (case ho => rfl); (case hg => rfl); (case hn => rfl); (case hr => first | (go_simp; done) | (go_simp; rfl)); intro w54 hw; have hg : w52.grownBy w54 (some go37) := (by rw [hw]; exact HP53.2); have hp_ : Kd.R (Kd.int .i64) 3 w54 w.heap.size (fun k_ => some k_ ≠ (.slice (some ad407) t400.length co31 : Value).ownBlock ∧ some k_ ≠ (.slice (some ad413) x7_1.length co25 : Value).ownBlock ∧ some k_ ≠ (.slice (some ad407) t400.length co31 : Value).ownBlock) (.slice (some ⟨go37, 0, none⟩) x9_2.length co37) y417 := (by rw [hw, Ny417.out]; exact HP53.1); clear HP53; have n0_ := Aside0.mk (Kd.R_after (v := (.slice (some ⟨go37, 0, none⟩) x9_2.length co37)) (v1 := (.slice (some ⟨go37, 0, none⟩) x9_2.length co37)) (ok := (fun k_ => some k_ ≠ (.slice (some ad413) x7_1.length co25 : Value).ownBlock)) (uR HO_6.out) hg (.inl rfl)); have n1_ := Aside0.mk (Kd.R_after (v := (.slice (some ⟨go37, 0, none⟩) x9_2.length co37)) (v1 := (.slice (some ⟨go37, 0, none⟩) x9_2.length co37)) (ok := (fun k_ => some k_ ≠ (.slice (some ad407) t400.length co31 : Value).ownBlock ∧ some k_ ≠ (.slice (some ad407) t400.length co31 : Value).ownBlock)) (uR HO_7.out) hg (.inl rfl)); have n2_ := Aside0.mk (hp_); have n3_ := Aside0.mk (Kd.R_after (v := (.slice (some ⟨go37, 0, none⟩) x9_2.length co37)) (v1 := (.slice (some ⟨go37, 0, none⟩) x9_2.length co37)) (ok := (fun k_ => some k_ ≠ (.slice (some ad413) x7_1.length co25 : Value).ownBlock)) (uR HO_55.out) hg (.inl rfl)); have n4_ := Aside0.mk ((by rw [hw]; exact below_set (HB.out) GB37.out : Below w.heap.size w w54)); clear HO_6 HO_7 HO_9 HO_55 HB; have HO_6 := n0_; have HO_7 := n1_; have HO_9 := n2_; have HO_55 := n3_; have HB := n4_; clear n0_ n1_ n2_ n3_ n4_; clear hg hw hp_))
          repeat (go_quiet (first | ((with_reducible refine gate_store (t := 3) (p := 65) rfl ?_); (try (rw [drewN_self wr]; generalize hq_ : World.drewN wr _ = wr; have n0_ := Aside0.mk (Kd.R_at hq_ HO_6.out); have n1_ := Aside0.mk (Kd.R_at hq_ HO_7.out); have n2_ := Aside0.mk (Kd.R_at hq_ HO_9.out); have n3_ := Aside0.mk (Kd.R_at hq_ HO_55.out); have n4_ := Aside0.mk (below_at hq_ HB.out); clear hq_ HO_6 HO_7 HO_9 HO_55 HB; have HO_6 := n0_; have HO_7 := n1_; have HO_9 := n2_; have HO_55 := n3_; have HB := n4_; clear n0_ n1_ n2_ n3_ n4_; (try (have HP51 := Kd.R_putg HO_9.out ((rd t400 x57_2) : Int) x57_2)))); refine store_event (t := 3) (p := 65) (v := ?vo_w52) (w1 := (wr.setCell ⟨go37, ((rd t400 x57_2) : Int).toNat, none⟩ (.int .i64 x57_2))) ?hg ?ho ?hn ?hr ?_; (case ho => rfl); (case hg => rfl); (case hn => rfl); (case hr => first | (go_simp; done) | (go_simp; rfl)); intro w52 hw; have hg : wr.grownBy w52 (some go37) := (by rw [hw]; exact HP51.2); have hp_ : Kd.R (Kd.int .i64) 3 w52 w.heap.size (fun k_ => some k_ ≠ (.slice (some ad407) t400.length co31 : Value).ownBlock ∧ some k_ ≠ (.slice Ao25 x7_1.length co25 : Value).ownBlock ∧ some k_ ≠ (.slice (some ad407) t400.length co31 : Value).ownBlock) (.slice (some ⟨go37, 0, none⟩) x9_2.length co37) y408 := (by rw [hw, Ny408.out]; exact HP51.1); clear HP51; have n0_ := Aside0.mk (Kd.R_after (v := (.slice (some ⟨go37, 0, none⟩) x9_2.length co37)) (v1 := (.slice (some ⟨go37, 0, none⟩) x9_2.length co37)) (ok := (fun k_ => some k_ ≠ (.slice Ao25 x7_1.length co25 : Value).ownBlock)) (uR HO_6.out) hg (.inl rfl)); have n1_ := Aside0.mk (Kd.R_after (v := (.slice (some ⟨go37, 0, none⟩) x9_2.length co37)) (v1 := (.slice (some ⟨go37, 0, none⟩) x9_2.length co37)) (ok := (fun k_ => some k_ ≠ (.slice (some ad407) t400.length co31 : Value).ownBlock ∧ some k_ ≠ (.slice (some ad407) t400.length co31 : Value).ownBlock)) (by (with_reducible repeat (first | apply Kd.R_alloc | apply Kd.R_drewN | apply Kd.R_drew)); exact Kd.R_mono HO_7.out (fun _ hk => ⟨⟨hk.1, hk.2.2⟩, hk.2.1⟩)) hg (.inl rfl)); have n2_ := Aside0.mk (hp_); have n3_ := Aside0.mk (Kd.R_after (v := (.slice (some ⟨go37, 0, none⟩) x9_2.length co37)) (v1 := (.slice (some ⟨go37, 0, none⟩) x9_2.length co37)) (ok := (fun k_ => some k_ ≠ (.slice Ao25 x7_1.length co25 : Value).ownBlock)) (uR HO_55.out) hg (.inl rfl)); have n4_ := Aside0.mk ((by rw [hw]; exact below_set (HB.out) GB37.out : Below w.heap.size w w52)); clear HO_6 HO_7 HO_9 HO_55 HB; have HO_6 := n0_; have HO_7 := n1_; have HO_9 := n2_; have HO_55 := n3_; have HB := n4_; clear n0_ n1_ n2_ n3_ n4_; clear hg hw hp_; have p409 : 0 ≤ ((ji39) : Int) := dT; have q409 : (ji39) < (t400.length : Int) := dT; obtain ⟨ad409, e409, hx409_0⟩ := Kd.at_int (Kd.R_reads' HO_6.out).2.2 (ji39) p409 q409; obtain rfl : ad407 = ad409 := (by injection e409); replace p409 := eq_true p409; replace q409 := eq_true q409; have p410 : 0 ≤ ((rd t400 (ji39)) : Int) := dT; have q410 : (rd t400 (ji39)) < (l0.length : Int) := dT; obtain ⟨ad410, e410, hx410_0⟩ := Kd.at_int HR0.out (rd t400 (ji39)) p410 q410; cases e410; replace hx410_0 := (HB.out.cell (World.block_lt_of_cell? w _ hx410_0)).trans hx410_0; replace p410 := eq_true p410; replace q410 := eq_true q410; have p411 : 0 ≤ ((rd t400 x57_2) : Int) := dT; have q411 : (rd t400 x57_2) < (l0.length : Int) := dT; obtain ⟨ad411, e411, hx411_0⟩ := Kd.at_int HR0.out (rd t400 x57_2) p411 q411; obtain rfl : ad410 = ad411 := (by injection e411); replace hx411_0 := (HB.out.cell (World.block_lt_of_cell? w _ hx411_0)).trans hx411_0; replace p411 := eq_true p411; replace q411 := eq_true q411; have p412 : 0 ≤ ((ji39) : Int) := dT; have q412 : (ji39) < (t400.length : Int) := dT; obtain ⟨ad412, e412, hx412_0⟩ := Kd.at_int (Kd.R_reads' HO_6.out).2.2 (ji39) p412 q412; obtain rfl : ad407 = ad412 := (by injection e412); replace p412 := eq_true p412; replace q412 := eq_true q412; have p413 : 0 ≤ ((rd t400 (ji39)) : Int) := dT; have q413 : (rd t400 (ji39)) < (x7_1.length : Int) := dT; obtain ⟨ad413, e413, hx413_0⟩ := Kd.at_int (Kd.R_reads' HO_7.out).2.2 (rd t400 (ji39)) p413 q413; cases e413; replace p413 := eq_true p413; replace q413 := eq_true q413; have p414 : 0 ≤ ((rd t400 x57_2) : Int) := dT; have q414 : (rd t400 x57_2) < (x7_1.length : Int) := dT; obtain ⟨ad414, e414, hx414_0⟩ := Kd.at_int (Kd.R_reads' HO_7.out).2.2 (rd t400 x57_2) p414 q414; obtain rfl : ad413 = ad414 := (by injection e414); replace p414 := eq_true p414; replace q414 := eq_true q414; have p415 : 0 ≤ ((ji39) : Int) := dT; have q415 : (ji39) < (t400.length : Int) := dT; obtain ⟨ad415, e415, hx415_0⟩ := Kd.at_int (Kd.R_reads' HO_6.out).2.2 (ji39) p415 q415; obtain rfl : ad407 = ad415 := (by injection e415); replace p415 := eq_true p415; replace q415 := eq_true q415; have p416 : 0 ≤ ((rd t400 (ji39)) : Int) := dT; have q416 : (rd t400 (ji39)) < (y408.length : Int) := (by have h_ : ((rd t400 (ji39)) : Int) < ((x9_2.length : Int) : Int) := dT; first | (have e_ := (Kd.R_reads' HO_9.out).1; omega) | simpa only [Ny408.out, List.length_set] using h_); have ql416 : (((rd t400 (ji39)) : Int) < ((x9_2.length : Int) : Int)) = True := eq_true dT; obtain ⟨ad416, e416, hx416_0⟩ := Kd.at_int (Kd.R_reads' HO_9.out).2.2 (rd t400 (ji39)) p416 q416; obtain rfl : (⟨go37, 0, none⟩ : Addr) = ad416 := (by injection e416); (first | simp only [add_plain] at hx416_0 | simp only [add_at] at hx416_0 | simp only [Addr.add, Nat.zero_add] at hx416_0 | skip); replace p416 := eq_true p416; replace q416 := eq_true q416; have p50 : 0 ≤ ((rd t400 x57_2) : Int) := dT; have q50 : ((rd t400 x57_2) : Int) < ((x9_2.length : Int) : Int) := dT; obtain ⟨hx50_0, hf50_0⟩ := Kd.R_celln 0 HO_9.out ((rd t400 x57_2) : Int) p50 q50; replace p50 := eq_true p50; replace q50 := eq_true q50; obtain ⟨hy53_, hz53_⟩ := Kd.R_celln 0 HO_9.out ((rd t400 x57_2) : Int) dT dT; have HP53 := Kd.R_putg HO_9.out ((rd t400 x57_2) : Int) (rd y408 (rd t400 (ji39)))) | ((with_reducible refine gate_store (t := 3) (p := 108) rfl ?_); (try (rw [drewN_self w52]; generalize hq_ : World.drewN w52 _ = w52; have n0_ := Aside0.mk (Kd.R_at hq_ HO_6.out); have n1_ := Aside0.mk (Kd.R_at hq_ HO_7.out); have n2_ := Aside0.mk (Kd.R_at hq_ HO_9.out); have n3_ := Aside0.mk (Kd.R_at hq_ HO_55.out); have n4_ := Aside0.mk (below_at hq_ HB.out); clear hq_ HO_6 HO_7 HO_9 HO_55 HB; have HO_6 := n0_; have HO_7 := n1_; have HO_9 := n2_; have HO_55 := n3_; have HB := n4_; clear n0_ n1_ n2_ n3_ n4_; (try (obtain ⟨hy53_, hz53_⟩ := Kd.R_celln 0 HO_9.out ((rd t400 x57_2) : Int) dT dT)); (try (have HP53 := Kd.R_putg HO_9.out ((rd t400 x57_2) : Int) (rd y408 (rd t400 (ji39))))))); refine store_event (t := 3) (p := 108) (v := ?vo_w54) (w1 := (w52.setCell ⟨go37, ((rd t400 x57_2) : Int).toNat, none⟩ (.int .i64 (rd y408 (rd t400 (ji39)))))) ?hg ?ho ?hn ?hr ?_; (case ho => rfl); (case hg => rfl); (case hn => rfl); (case hr => first | (go_simp; done) | (go_simp; rfl)); intro w54 hw; have hg : w52.grownBy w54 (some go37) := (by rw [hw]; exact HP53.2); have hp_ : Kd.R (Kd.int .i64) 3 w54 w.heap.size (fun k_ => some k_ ≠ (.slice (some ad407) t400.length co31 : Value).ownBlock ∧ some k_ ≠ (.slice (some ad413) x7_1.length co25 : Value).ownBlock ∧ some k_ ≠ (.slice (some ad407) t400.length co31 : Value).ownBlock) (.slice (some ⟨go37, 0, none⟩) x9_2.length co37) y417 := (by rw [hw, Ny417.out]; exact HP53.1); clear HP53; have n0_ := Aside0.mk (Kd.R_after (v := (.slice (some ⟨go37, 0, none⟩) x9_2.length co37)) (v1 := (.slice (some ⟨go37, 0, none⟩) x9_2.length co37)) (ok := (fun k_ => some k_ ≠ (.slice (some ad413) x7_1.length co25 : Value).ownBlock)) (uR HO_6.out) hg (.inl rfl)); have n1_ := Aside0.mk (Kd.R_after (v := (.slice (some ⟨go37, 0, none⟩) x9_2.length co37)) (v1 := (.slice (some ⟨go37, 0, none⟩) x9_2.length co37)) (ok := (fun k_ => some k_ ≠ (.slice (some ad407) t400.length co31 : Value).ownBlock ∧ some k_ ≠ (.slice (some ad407) t400.length co31 : Value).ownBlock)) (uR HO_7.out) hg (.inl rfl)); have n2_ := Aside0.mk (hp_); have n3_ := Aside0.mk (Kd.R_after (v := (.slice (some ⟨go37, 0, none⟩) x9_2.length co37)) (v1 := (.slice (some ⟨go37, 0, none⟩) x9_2.length co37)) (ok := (fun k_ => some k_ ≠ (.slice (some ad413) x7_1.length co25 : Value).ownBlock)) (uR HO_55.out) hg (.inl rfl)); have n4_ := Aside0.mk ((by rw [hw]; exact below_set (HB.out) GB37.out : Below w.heap.size w w54)); clear HO_6 HO_7 HO_9 HO_55 HB; have HO_6 := n0_; have HO_7 := n1_; have HO_9 := n2_; have HO_55 := n3_; have HB := n4_; clear n0_ n1_ n2_ n3_ n4_; clear hg hw hp_)); try go_wp2_with (first | ((with_reducible refine gate_store (t := 3) (p := 65) rfl ?_); (try (rw [drewN_self wr]; generalize hq_ : World.drewN wr _ = wr; have n0_ := Aside0.mk (Kd.R_at hq_ HO_6.out); have n1_ := Aside0.mk (Kd.R_at hq_ HO_7.out); have n2_ := Aside0.mk (Kd.R_at hq_ HO_9.out); have n3_ := Aside0.mk (Kd.R_at hq_ HO_55.out); have n4_ := Aside0.mk (below_at hq_ HB.out); clear hq_ HO_6 HO_7 HO_9 HO_55 HB; have HO_6 := n0_; have HO_7 := n1_; have HO_9 := n2_; have HO_55 := n3_; have HB := n4_; clear n0_ n1_ n2_ n3_ n4_; (try (have HP51 := Kd.R_putg HO_9.out ((rd t400 x57_2) : Int) x57_2)))); refine store_event (t := 3) (p := 65) (v := ?vo_w52) (w1 := (wr.setCell ⟨go37, ((rd t400 x57_2) : Int).toNat, none⟩ (.int .i64 x57_2))) ?hg ?ho ?hn ?hr ?_; (case ho => rfl); (case hg => rfl); (case hn => rfl); (case hr => first | (go_simp; done) | (go_simp; rfl)); intro w52 hw; have hg : wr.grownBy w52 (some go37) := (by rw [hw]; exact HP51.2); have hp_ : Kd.R (Kd.int .i64) 3 w52 w.heap.size (fun k_ => some k_ ≠ (.slice (some ad407) t400.length co31 : Value).ownBlock ∧ some k_ ≠ (.slice Ao25 x7_1.length co25 : Value).ownBlock ∧ some k_ ≠ (.slice (some ad407) t400.length co31 : Value).ownBlock) (.slice (some ⟨go37, 0, none⟩) x9_2.length co37) y408 := (by rw [hw, Ny408.out]; exact HP51.1); clear HP51; have n0_ := Aside0.mk (Kd.R_after (v := (.slice (some ⟨go37, 0, none⟩) x9_2.length co37)) (v1 := (.slice (some ⟨go37, 0, none⟩) x9_2.length co37)) (ok := (fun k_ => some k_ ≠ (.slice Ao25 x7_1.length co25 : Value).ownBlock)) (uR HO_6.out) hg (.inl rfl)); have n1_ := Aside0.mk (Kd.R_after (v := (.slice (some ⟨go37, 0, none⟩) x9_2.length co37)) (v1 := (.slice (some ⟨go37, 0, none⟩) x9_2.length co37)) (ok := (fun k_ => some k_ ≠ (.slice (some ad407) t400.length co31 : Value).ownBlock ∧ some k_ ≠ (.slice (some ad407) t400.length co31 : Value).ownBlock)) (by (with_reducible repeat (first | apply Kd.R_alloc | apply Kd.R_drewN | apply Kd.R_drew)); exact Kd.R_mono HO_7.out (fun _ hk => ⟨⟨hk.1, hk.2.2⟩, hk.2.1⟩)) hg (.inl rfl)); have n2_ := Aside0.mk (hp_); have n3_ := Aside0.mk (Kd.R_after (v := (.slice (some ⟨go37, 0, none⟩) x9_2.length co37)) (v1 := (.slice (some ⟨go37, 0, none⟩) x9_2.length co37)) (ok := (fun k_ => some k_ ≠ (.slice Ao25 x7_1.length co25 : Value).ownBlock)) (uR HO_55.out) hg (.inl rfl)); have n4_ := Aside0.mk ((by rw [hw]; exact below_set (HB.out) GB37.out : Below w.heap.size w w52)); clear HO_6 HO_7 HO_9 HO_55 HB; have HO_6 := n0_; have HO_7 := n1_; have HO_9 := n2_; have HO_55 := n3_; have HB := n4_; clear n0_ n1_ n2_ n3_ n4_; clear hg hw hp_; have p409 : 0 ≤ ((ji39) : Int) := dT; have q409 : (ji39) < (t400.length : Int) := dT; obtain ⟨ad409, e409, hx409_0⟩ := Kd.at_int (Kd.R_reads' HO_6.out).2.2 (ji39) p409 q409; obtain rfl : ad407 = ad409 := (by injection e409); replace p409 := eq_true p409; replace q409 := eq_true q409; have p410 : 0 ≤ ((rd t400 (ji39)) : Int) := dT; have q410 : (rd t400 (ji39)) < (l0.length : Int) := dT; obtain ⟨ad410, e410, hx410_0⟩ := Kd.at_int HR0.out (rd t400 (ji39)) p410 q410; cases e410; replace hx410_0 := (HB.out.cell (World.block_lt_of_cell? w _ hx410_0)).trans hx410_0; replace p410 := eq_true p410; replace q410 := eq_true q410; have p411 : 0 ≤ ((rd t400 x57_2) : Int) := dT; have q411 : (rd t400 x57_2) < (l0.length : Int) := dT; obtain ⟨ad411, e411, hx411_0⟩ := Kd.at_int HR0.out (rd t400 x57_2) p411 q411; obtain rfl : ad410 = ad411 := (by injection e411); replace hx411_0 := (HB.out.cell (World.block_lt_of_cell? w _ hx411_0)).trans hx411_0; replace p411 := eq_true p411; replace q411 := eq_true q411; have p412 : 0 ≤ ((ji39) : Int) := dT; have q412 : (ji39) < (t400.length : Int) := dT; obtain ⟨ad412, e412, hx412_0⟩ := Kd.at_int (Kd.R_reads' HO_6.out).2.2 (ji39) p412 q412; obtain rfl : ad407 = ad412 := (by injection e412); replace p412 := eq_true p412; replace q412 := eq_true q412; have p413 : 0 ≤ ((rd t400 (ji39)) : Int) := dT; have q413 : (rd t400 (ji39)) < (x7_1.length : Int) := dT; obtain ⟨ad413, e413, hx413_0⟩ := Kd.at_int (Kd.R_reads' HO_7.out).2.2 (rd t400 (ji39)) p413 q413; cases e413; replace p413 := eq_true p413; replace q413 := eq_true q413; have p414 : 0 ≤ ((rd t400 x57_2) : Int) := dT; have q414 : (rd t400 x57_2) < (x7_1.length : Int) := dT; obtain ⟨ad414, e414, hx414_0⟩ := Kd.at_int (Kd.R_reads' HO_7.out).2.2 (rd t400 x57_2) p414 q414; obtain rfl : ad413 = ad414 := (by injection e414); replace p414 := eq_true p414; replace q414 := eq_true q414; have p415 : 0 ≤ ((ji39) : Int) := dT; have q415 : (ji39) < (t400.length : Int) := dT; obtain ⟨ad415, e415, hx415_0⟩ := Kd.at_int (Kd.R_reads' HO_6.out).2.2 (ji39) p415 q415; obtain rfl : ad407 = ad415 := (by injection e415); replace p415 := eq_true p415; replace q415 := eq_true q415; have p416 : 0 ≤ ((rd t400 (ji39)) : Int) := dT; have q416 : (rd t400 (ji39)) < (y408.length : Int) := (by have h_ : ((rd t400 (ji39)) : Int) < ((x9_2.length : Int) : Int) := dT; first | (have e_ := (Kd.R_reads' HO_9.out).1; omega) | simpa only [Ny408.out, List.length_set] using h_); have ql416 : (((rd t400 (ji39)) : Int) < ((x9_2.length : Int) : Int)) = True := eq_true dT; obtain ⟨ad416, e416, hx416_0⟩ := Kd.at_int (Kd.R_reads' HO_9.out).2.2 (rd t400 (ji39)) p416 q416; obtain rfl : (⟨go37, 0, none⟩ : Addr) = ad416 := (by injection e416); (first | simp only [add_plain] at hx416_0 | simp only [add_at] at hx416_0 | simp only [Addr.add, Nat.zero_add] at hx416_0 | skip); replace p416 := eq_true p416; replace q416 := eq_true q416; have p50 : 0 ≤ ((rd t400 x57_2) : Int) := dT; have q50 : ((rd t400 x57_2) : Int) < ((x9_2.length : Int) : Int) := dT; obtain ⟨hx50_0, hf50_0⟩ := Kd.R_celln 0 HO_9.out ((rd t400 x57_2) : Int) p50 q50; replace p50 := eq_true p50; replace q50 := eq_true q50; obtain ⟨hy53_, hz53_⟩ := Kd.R_celln 0 HO_9.out ((rd t400 x57_2) : Int) dT dT; have HP53 := Kd.R_putg HO_9.out ((rd t400 x57_2) : Int) (rd y408 (rd t400 (ji39)))) | ((with_reducible refine gate_store (t := 3) (p := 108) rfl ?_); (try (rw [drewN_self w52]; generalize hq_ : World.drewN w52 _ = w52; have n0_ := Aside0.mk (Kd.R_at hq_ HO_6.out); have n1_ := Aside0.mk (Kd.R_at hq_ HO_7.out); have n2_ := Aside0.mk (Kd.R_at hq_ HO_9.out); have n3_ := Aside0.mk (Kd.R_at hq_ HO_55.out); have n4_ := Aside0.mk (below_at hq_ HB.out); clear hq_ HO_6 HO_7 HO_9 HO_55 HB; have HO_6 := n0_; have HO_7 := n1_; have HO_9 := n2_; have HO_55 := n3_; have HB := n4_; clear n0_ n1_ n2_ n3_ n4_; (try (obtain ⟨hy53_, hz53_⟩ := Kd.R_celln 0 HO_9.out ((rd t400 x57_2) : Int) dT dT)); (try (have HP53 := Kd.R_putg HO_9.out ((rd t400 x57_2) : Int) (rd y408 (rd t400 (ji39))))))); refine store_event (t := 3) (p := 108) (v := ?vo_w54) (w1 := (w52.setCell ⟨go37, ((rd t400 x57_2) : Int).toNat, none⟩ (.int .i64 (rd y408 (rd t400 (ji39)))))) ?hg ?ho ?hn ?hr ?_; (case ho => rfl); (case hg => rfl); (case hn => rfl); (case hr => first | (go_simp; done) | (go_simp; rfl)); intro w54 hw; have hg : w52.grownBy w54 (some go37) := (by rw [hw]; exact HP53.2); have hp_ : Kd.R (Kd.int .i64) 3 w54 w.heap.size (fun k_ => some k_ ≠ (.slice (some ad407) t400.length co31 : Value).ownBlock ∧ some k_ ≠ (.slice (some ad413) x7_1.length co25 : Value).ownBlock ∧ some k_ ≠ (.slice (some ad407) t400.length co31 : Value).ownBlock) (.slice (some ⟨go37, 0, none⟩) x9_2.length co37) y417 := (by rw [hw, Ny417.out]; exact HP53.1); clear HP53; have n0_ := Aside0.mk (Kd.R_after (v := (.slice (some ⟨go37, 0, none⟩) x9_2.length co37)) (v1 := (.slice (some ⟨go37, 0, none⟩) x9_2.length co37)) (ok := (fun k_ => some k_ ≠ (.slice (some ad413) x7_1.length co25 : Value).ownBlock)) (uR HO_6.out) hg (.inl rfl)); have n1_ := Aside0.mk (Kd.R_after (v := (.slice (some ⟨go37, 0, none⟩) x9_2.length co37)) (v1 := (.slice (some ⟨go37, 0, none⟩) x9_2.length co37)) (ok := (fun k_ => some k_ ≠ (.slice (some ad407) t400.length co31 : Value).ownBlock ∧ some k_ ≠ (.slice (some ad407) t400.length co31 : Value).ownBlock)) (uR HO_7.out) hg (.inl rfl)); have n2_ := Aside0.mk (hp_); have n3_ := Aside0.mk (Kd.R_after (v := (.slice (some ⟨go37, 0, none⟩) x9_2.length co37)) (v1 := (.slice (some ⟨go37, 0, none⟩) x9_2.length co37)) (ok := (fun k_ => some k_ ≠ (.slice (some ad413) x7_1.length co25 : Value).ownBlock)) (uR HO_55.out) hg (.inl rfl)); have n4_ := Aside0.mk ((by rw [hw]; exact below_set (HB.out) GB37.out : Below w.heap.size w w54)); clear HO_6 HO_7 HO_9 HO_55 HB; have HO_6 := n0_; have HO_7 := n1_; have HO_9 := n2_; have HO_55 := n3_; have HB := n4_; clear n0_ n1_ n2_ n3_ n4_; clear hg hw hp_)))
          go_roundg k2
          case measure => have := HK1.out; have := HK2.out; omega
          case rel => exact ⟨(y417), (wrap64 (x57_2 + 1)), sD, H', ⟨by have := HK1.out; have := HK2.out; omega⟩, ⟨uR HO_6.out⟩, ⟨by (with_reducible repeat (first | apply Kd.R_alloc | apply Kd.R_drewN | apply Kd.R_drew)); exact Kd.R_mono HO_7.out (fun _ hk => ⟨hk.1.1, ⟨hk.2, hk.1.2⟩⟩)⟩, ⟨uR HO_9.out⟩, ⟨uR HO_55.out⟩, ⟨uB⟩⟩
         ·rw [if_neg c48] at H
          have c48b0 : ((rd x7_1 (rd t400 (ji39))) == (rd x7_1 (rd t400 x57_2))) = false := beq_eq_false_iff_ne.mpr c48
          have c48b1 : ((rd x7_1 (rd t400 (ji39))) != (rd x7_1 (rd t400 x57_2))) = true := bne_iff_ne.mpr c48
          have H' := Aside0.mk H
          clear H
          obtain ⟨ad407, e407, hx407_0, p407, q407⟩ := rI (Kd.R_reads' HO_55.out).2.2 x57_2
          cases e407
          have p37 : 0 ≤ ((rd t400 x57_2) : Int) := dT
          have q37 : ((rd t400 x57_2) : Int) < ((x9_2.length : Int) : Int) := dT
          obtain ⟨go37, co37, eo37, gb37, gl37, cl37, HG37⟩ := Kd.R_form HO_9.out (by omega)
          (first | cases eo37 | (injection eo37 with ea_ en_ ec_; (first | subst ea_ | (injection ea_ with ea_; subst ea_)); subst ec_; clear en_))
          have GB37 := Aside0.mk gb37
          have GG37 := Aside0.mk HG37
          clear gb37 gl37 HG37
          obtain ⟨hx37_0, hf37_0⟩ := Kd.R_celln 0 HO_9.out ((rd t400 x57_2) : Int) p37 q37
          replace p37 := eq_true p37
          replace q37 := eq_true q37
          have HP55 := Kd.R_putg HO_9.out ((rd t400 x57_2) : Int) x57_2
          go_wp2_with (first | ((with_reducible refine gate_store (t := 3) (p := 65) rfl ?_); (try (rw [drewN_self wr]; generalize hq_ : World.drewN wr _ = wr; have n0_ := Aside0.mk (Kd.R_at hq_ HO_6.out); have n1_ := Aside0.mk (Kd.R_at hq_ HO_7.out); have n2_ := Aside0.mk (Kd.R_at hq_ HO_9.out); have n3_ := Aside0.mk (Kd.R_at hq_ HO_55.out); have n4_ := Aside0.mk (below_at hq_ HB.out); clear hq_ HO_6 HO_7 HO_9 HO_55 HB; have HO_6 := n0_; have HO_7 := n1_; have HO_9 := n2_; have HO_55 := n3_; have HB := n4_; clear n0_ n1_ n2_ n3_ n4_; (try (have HP55 := Kd.R_putg HO_9.out ((rd t400 x57_2) : Int) x57_2)))); refine store_event (t := 3) (p := 65) (v := ?vo_w56) (w1 := (wr.setCell ⟨go37, ((rd t400 x57_2) : Int).toNat, none⟩ (.int .i64 x57_2))) ?hg ?ho ?hn ?hr ?_; (case ho => rfl); (case hg => rfl); (case hn => rfl); (case hr => first | (go_simp; done) | (go_simp; rfl)); intro w56 hw; have hg : wr.grownBy w56 (some go37) := (by rw [hw]; exact HP55.2); have hp_ : Kd.R (Kd.int .i64) 3 w56 w.heap.size (fun k_ => some k_ ≠ (.slice (some ad407) t400.length co31 : Value).ownBlock ∧ some k_ ≠ (.slice Ao25 x7_1.length co25 : Value).ownBlock ∧ some k_ ≠ (.slice (some ad407) t400.length co31 : Value).ownBlock) (.slice (some ⟨go37, 0, none⟩) x9_2.length co37) y408 := (by rw [hw, Ny408.out]; exact HP55.1); clear HP55; have n0_ := Aside0.mk (Kd.R_after (v := (.slice (some ⟨go37, 0, none⟩) x9_2.length co37)) (v1 := (.slice (some ⟨go37, 0, none⟩) x9_2.length co37)) (ok := (fun k_ => some k_ ≠ (.slice Ao25 x7_1.length co25 : Value).ownBlock)) (uR HO_6.out) hg (.inl rfl)); have n1_ := Aside0.mk (Kd.R_after (v := (.slice (some ⟨go37, 0, none⟩) x9_2.length co37)) (v1 := (.slice (some ⟨go37, 0, none⟩) x9_2.length co37)) (ok := (fun k_ => some k_ ≠ (.slice (some ad407) t400.length co31 : Value).ownBlock ∧ some k_ ≠ (.slice (some ad407) t400.length co31 : Value).ownBlock)) (by (with_reducible repeat (first | apply Kd.R_alloc | apply Kd.R_drewN | apply Kd.R_drew)); exact Kd.R_mono HO_7.out (fun _ hk => ⟨⟨hk.1, hk.2.2⟩, hk.2.1⟩)) hg (.inl rfl)); have n2_ := Aside0.mk (hp_); have n3_ := Aside0.mk (Kd.R_after (v := (.slice (some ⟨go37, 0, none⟩) x9_2.length co37)) (v1 := (.slice (some ⟨go37, 0, none⟩) x9_2.length co37)) (ok := (fun k_ => some k_ ≠ (.slice Ao25 x7_1.length co25 : Value).ownBlock)) (uR HO_55.out) hg (.inl rfl)); have n4_ := Aside0.mk ((by rw [hw]; exact below_set (HB.out) GB37.out : Below w.heap.size w w56)); clear HO_6 HO_7 HO_9 HO_55 HB; have HO_6 := n0_; have HO_7 := n1_; have HO_9 := n2_; have HO_55 := n3_; have HB := n4_; clear n0_ n1_ n2_ n3_ n4_; clear hg hw hp_; have p409 : 0 ≤ ((ji39) : Int) := dT; have q409 : (ji39) < (t400.length : Int) := dT; obtain ⟨ad409, e409, hx409_0⟩ := Kd.at_int (Kd.R_reads' HO_6.out).2.2 (ji39) p409 q409; obtain rfl : ad407 = ad409 := (by injection e409); replace p409 := eq_true p409; replace q409 := eq_true q409; have p410 : 0 ≤ ((rd t400 (ji39)) : Int) := dT; have q410 : (rd t400 (ji39)) < (l0.length : Int) := dT; obtain ⟨ad410, e410, hx410_0⟩ := Kd.at_int HR0.out (rd t400 (ji39)) p410 q410; cases e410; replace hx410_0 := (HB.out.cell (World.block_lt_of_cell? w _ hx410_0)).trans hx410_0; replace p410 := eq_true p410; replace q410 := eq_true q410; have p411 : 0 ≤ ((rd t400 x57_2) : Int) := dT; have q411 : (rd t400 x57_2) < (l0.length : Int) := dT; obtain ⟨ad411, e411, hx411_0⟩ := Kd.at_int HR0.out (rd t400 x57_2) p411 q411; obtain rfl : ad410 = ad411 := (by injection e411); replace hx411_0 := (HB.out.cell (World.block_lt_of_cell? w _ hx411_0)).trans hx411_0; replace p411 := eq_true p411; replace q411 := eq_true q411; have p412 : 0 ≤ ((ji39) : Int) := dT; have q412 : (ji39) < (t400.length : Int) := dT; obtain ⟨ad412, e412, hx412_0⟩ := Kd.at_int (Kd.R_reads' HO_6.out).2.2 (ji39) p412 q412; obtain rfl : ad407 = ad412 := (by injection e412); replace p412 := eq_true p412; replace q412 := eq_true q412; have p413 : 0 ≤ ((rd t400 (ji39)) : Int) := dT; have q413 : (rd t400 (ji39)) < (x7_1.length : Int) := dT; obtain ⟨ad413, e413, hx413_0⟩ := Kd.at_int (Kd.R_reads' HO_7.out).2.2 (rd t400 (ji39)) p413 q413; cases e413; replace p413 := eq_true p413; replace q413 := eq_true q413; have p414 : 0 ≤ ((rd t400 x57_2) : Int) := dT; have q414 : (rd t400 x57_2) < (x7_1.length : Int) := dT; obtain ⟨ad414, e414, hx414_0⟩ := Kd.at_int (Kd.R_reads' HO_7.out).2.2 (rd t400 x57_2) p414 q414; obtain rfl : ad413 = ad414 := (by injection e414); replace p414 := eq_true p414; replace q414 := eq_true q414))
          repeat (go_quiet (first | ((with_reducible refine gate_store (t := 3) (p := 65) rfl ?_); (try (rw [drewN_self wr]; generalize hq_ : World.drewN wr _ = wr; have n0_ := Aside0.mk (Kd.R_at hq_ HO_6.out); have n1_ := Aside0.mk (Kd.R_at hq_ HO_7.out); have n2_ := Aside0.mk (Kd.R_at hq_ HO_9.out); have n3_ := Aside0.mk (Kd.R_at hq_ HO_55.out); have n4_ := Aside0.mk (below_at hq_ HB.out); clear hq_ HO_6 HO_7 HO_9 HO_55 HB; have HO_6 := n0_; have HO_7 := n1_; have HO_9 := n2_; have HO_55 := n3_; have HB := n4_; clear n0_ n1_ n2_ n3_ n4_; (try (have HP55 := Kd.R_putg HO_9.out ((rd t400 x57_2) : Int) x57_2)))); refine store_event (t := 3) (p := 65) (v := ?vo_w56) (w1 := (wr.setCell ⟨go37, ((rd t400 x57_2) : Int).toNat, none⟩ (.int .i64 x57_2))) ?hg ?ho ?hn ?hr ?_; (case ho => rfl); (case hg => rfl); (case hn => rfl); (case hr => first | (go_simp; done) | (go_simp; rfl)); intro w56 hw; have hg : wr.grownBy w56 (some go37) := (by rw [hw]; exact HP55.2); have hp_ : Kd.R (Kd.int .i64) 3 w56 w.heap.size (fun k_ => some k_ ≠ (.slice (some ad407) t400.length co31 : Value).ownBlock ∧ some k_ ≠ (.slice Ao25 x7_1.length co25 : Value).ownBlock ∧ some k_ ≠ (.slice (some ad407) t400.length co31 : Value).ownBlock) (.slice (some ⟨go37, 0, none⟩) x9_2.length co37) y408 := (by rw [hw, Ny408.out]; exact HP55.1); clear HP55; have n0_ := Aside0.mk (Kd.R_after (v := (.slice (some ⟨go37, 0, none⟩) x9_2.length co37)) (v1 := (.slice (some ⟨go37, 0, none⟩) x9_2.length co37)) (ok := (fun k_ => some k_ ≠ (.slice Ao25 x7_1.length co25 : Value).ownBlock)) (uR HO_6.out) hg (.inl rfl)); have n1_ := Aside0.mk (Kd.R_after (v := (.slice (some ⟨go37, 0, none⟩) x9_2.length co37)) (v1 := (.slice (some ⟨go37, 0, none⟩) x9_2.length co37)) (ok := (fun k_ => some k_ ≠ (.slice (some ad407) t400.length co31 : Value).ownBlock ∧ some k_ ≠ (.slice (some ad407) t400.length co31 : Value).ownBlock)) (by (with_reducible repeat (first | apply Kd.R_alloc | apply Kd.R_drewN | apply Kd.R_drew)); exact Kd.R_mono HO_7.out (fun _ hk => ⟨⟨hk.1, hk.2.2⟩, hk.2.1⟩)) hg (.inl rfl)); have n2_ := Aside0.mk (hp_); have n3_ := Aside0.mk (Kd.R_after (v := (.slice (some ⟨go37, 0, none⟩) x9_2.length co37)) (v1 := (.slice (some ⟨go37, 0, none⟩) x9_2.length co37)) (ok := (fun k_ => some k_ ≠ (.slice Ao25 x7_1.length co25 : Value).ownBlock)) (uR HO_55.out) hg (.inl rfl)); have n4_ := Aside0.mk ((by rw [hw]; exact below_set (HB.out) GB37.out : Below w.heap.size w w56)); clear HO_6 HO_7 HO_9 HO_55 HB; have HO_6 := n0_; have HO_7 := n1_; have HO_9 := n2_; have HO_55 := n3_; have HB := n4_; clear n0_ n1_ n2_ n3_ n4_; clear hg hw hp_; have p409 : 0 ≤ ((ji39) : Int) := dT; have q409 : (ji39) < (t400.length : Int) := dT; obtain ⟨ad409, e409, hx409_0⟩ := Kd.at_int (Kd.R_reads' HO_6.out).2.2 (ji39) p409 q409; obtain rfl : ad407 = ad409 := (by injection e409); replace p409 := eq_true p409; replace q409 := eq_true q409; have p410 : 0 ≤ ((rd t400 (ji39)) : Int) := dT; have q410 : (rd t400 (ji39)) < (l0.length : Int) := dT; obtain ⟨ad410, e410, hx410_0⟩ := Kd.at_int HR0.out (rd t400 (ji39)) p410 q410; cases e410; replace hx410_0 := (HB.out.cell (World.block_lt_of_cell? w _ hx410_0)).trans hx410_0; replace p410 := eq_true p410; replace q410 := eq_true q410; have p411 : 0 ≤ ((rd t400 x57_2) : Int) := dT; have q411 : (rd t400 x57_2) < (l0.length : Int) := dT; obtain ⟨ad411, e411, hx411_0⟩ := Kd.at_int HR0.out (rd t400 x57_2) p411 q411; obtain rfl : ad410 = ad411 := (by injection e411); replace hx411_0 := (HB.out.cell (World.block_lt_of_cell? w _ hx411_0)).trans hx411_0; replace p411 := eq_true p411; replace q411 := eq_true q411; have p412 : 0 ≤ ((ji39) : Int) := dT; have q412 : (ji39) < (t400.length : Int) := dT; obtain ⟨ad412, e412, hx412_0⟩ := Kd.at_int (Kd.R_reads' HO_6.out).2.2 (ji39) p412 q412; obtain rfl : ad407 = ad412 := (by injection e412); replace p412 := eq_true p412; replace q412 := eq_true q412; have p413 : 0 ≤ ((rd t400 (ji39)) : Int) := dT; have q413 : (rd t400 (ji39)) < (x7_1.length : Int) := dT; obtain ⟨ad413, e413, hx413_0⟩ := Kd.at_int (Kd.R_reads' HO_7.out).2.2 (rd t400 (ji39)) p413 q413; cases e413; replace p413 := eq_true p413; replace q413 := eq_true q413; have p414 : 0 ≤ ((rd t400 x57_2) : Int) := dT; have q414 : (rd t400 x57_2) < (x7_1.length : Int) := dT; obtain ⟨ad414, e414, hx414_0⟩ := Kd.at_int (Kd.R_reads' HO_7.out).2.2 (rd t400 x57_2) p414 q414; obtain rfl : ad413 = ad414 := (by injection e414); replace p414 := eq_true p414; replace q414 := eq_true q414)); try go_wp2_with (first | ((with_reducible refine gate_store (t := 3) (p := 65) rfl ?_); (try (rw [drewN_self wr]; generalize hq_ : World.drewN wr _ = wr; have n0_ := Aside0.mk (Kd.R_at hq_ HO_6.out); have n1_ := Aside0.mk (Kd.R_at hq_ HO_7.out); have n2_ := Aside0.mk (Kd.R_at hq_ HO_9.out); have n3_ := Aside0.mk (Kd.R_at hq_ HO_55.out); have n4_ := Aside0.mk (below_at hq_ HB.out); clear hq_ HO_6 HO_7 HO_9 HO_55 HB; have HO_6 := n0_; have HO_7 := n1_; have HO_9 := n2_; have HO_55 := n3_; have HB := n4_; clear n0_ n1_ n2_ n3_ n4_; (try (have HP55 := Kd.R_putg HO_9.out ((rd t400 x57_2) : Int) x57_2)))); refine store_event (t := 3) (p := 65) (v := ?vo_w56) (w1 := (wr.setCell ⟨go37, ((rd t400 x57_2) : Int).toNat, none⟩ (.int .i64 x57_2))) ?hg ?ho ?hn ?hr ?_; (case ho => rfl); (case hg => rfl); (case hn => rfl); (case hr => first | (go_simp; done) | (go_simp; rfl)); intro w56 hw; have hg : wr.grownBy w56 (some go37) := (by rw [hw]; exact HP55.2); have hp_ : Kd.R (Kd.int .i64) 3 w56 w.heap.size (fun k_ => some k_ ≠ (.slice (some ad407) t400.length co31 : Value).ownBlock ∧ some k_ ≠ (.slice Ao25 x7_1.length co25 : Value).ownBlock ∧ some k_ ≠ (.slice (some ad407) t400.length co31 : Value).ownBlock) (.slice (some ⟨go37, 0, none⟩) x9_2.length co37) y408 := (by rw [hw, Ny408.out]; exact HP55.1); clear HP55; have n0_ := Aside0.mk (Kd.R_after (v := (.slice (some ⟨go37, 0, none⟩) x9_2.length co37)) (v1 := (.slice (some ⟨go37, 0, none⟩) x9_2.length co37)) (ok := (fun k_ => some k_ ≠ (.slice Ao25 x7_1.length co25 : Value).ownBlock)) (uR HO_6.out) hg (.inl rfl)); have n1_ := Aside0.mk (Kd.R_after (v := (.slice (some ⟨go37, 0, none⟩) x9_2.length co37)) (v1 := (.slice (some ⟨go37, 0, none⟩) x9_2.length co37)) (ok := (fun k_ => some k_ ≠ (.slice (some ad407) t400.length co31 : Value).ownBlock ∧ some k_ ≠ (.slice (some ad407) t400.length co31 : Value).ownBlock)) (by (with_reducible repeat (first | apply Kd.R_alloc | apply Kd.R_drewN | apply Kd.R_drew)); exact Kd.R_mono HO_7.out (fun _ hk => ⟨⟨hk.1, hk.2.2⟩, hk.2.1⟩)) hg (.inl rfl)); have n2_ := Aside0.mk (hp_); have n3_ := Aside0.mk (Kd.R_after (v := (.slice (some ⟨go37, 0, none⟩) x9_2.length co37)) (v1 := (.slice (some ⟨go37, 0, none⟩) x9_2.length co37)) (ok := (fun k_ => some k_ ≠ (.slice Ao25 x7_1.length co25 : Value).ownBlock)) (uR HO_55.out) hg (.inl rfl)); have n4_ := Aside0.mk ((by rw [hw]; exact below_set (HB.out) GB37.out : Below w.heap.size w w56)); clear HO_6 HO_7 HO_9 HO_55 HB; have HO_6 := n0_; have HO_7 := n1_; have HO_9 := n2_; have HO_55 := n3_; have HB := n4_; clear n0_ n1_ n2_ n3_ n4_; clear hg hw hp_; have p409 : 0 ≤ ((ji39) : Int) := dT; have q409 : (ji39) < (t400.length : Int) := dT; obtain ⟨ad409, e409, hx409_0⟩ := Kd.at_int (Kd.R_reads' HO_6.out).2.2 (ji39) p409 q409; obtain rfl : ad407 = ad409 := (by injection e409); replace p409 := eq_true p409; replace q409 := eq_true q409; have p410 : 0 ≤ ((rd t400 (ji39)) : Int) := dT; have q410 : (rd t400 (ji39)) < (l0.length : Int) := dT; obtain ⟨ad410, e410, hx410_0⟩ := Kd.at_int HR0.out (rd t400 (ji39)) p410 q410; cases e410; replace hx410_0 := (HB.out.cell (World.block_lt_of_cell? w _ hx410_0)).trans hx410_0; replace p410 := eq_true p410; replace q410 := eq_true q410; have p411 : 0 ≤ ((rd t400 x57_2) : Int) := dT; have q411 : (rd t400 x57_2) < (l0.length : Int) := dT; obtain ⟨ad411, e411, hx411_0⟩ := Kd.at_int HR0.out (rd t400 x57_2) p411 q411; obtain rfl : ad410 = ad411 := (by injection e411); replace hx411_0 := (HB.out.cell (World.block_lt_of_cell? w _ hx411_0)).trans hx411_0; replace p411 := eq_true p411; replace q411 := eq_true q411; have p412 : 0 ≤ ((ji39) : Int) := dT; have q412 : (ji39) < (t400.length : Int) := dT; obtain ⟨ad412, e412, hx412_0⟩ := Kd.at_int (Kd.R_reads' HO_6.out).2.2 (ji39) p412 q412; obtain rfl : ad407 = ad412 := (by injection e412); replace p412 := eq_true p412; replace q412 := eq_true q412; have p413 : 0 ≤ ((rd t400 (ji39)) : Int) := dT; have q413 : (rd t400 (ji39)) < (x7_1.length : Int) := dT; obtain ⟨ad413, e413, hx413_0⟩ := Kd.at_int (Kd.R_reads' HO_7.out).2.2 (rd t400 (ji39)) p413 q413; cases e413; replace p413 := eq_true p413; replace q413 := eq_true q413; have p414 : 0 ≤ ((rd t400 x57_2) : Int) := dT; have q414 : (rd t400 x57_2) < (x7_1.length : Int) := dT; obtain ⟨ad414, e414, hx414_0⟩ := Kd.at_int (Kd.R_reads' HO_7.out).2.2 (rd t400 x57_2) p414 q414; obtain rfl : ad413 = ad414 := (by injection e414); replace p414 := eq_true p414; replace q414 := eq_true q414)))
          go_roundg k2
          case measure => have := HK1.out; have := HK2.out; omega
          case rel => exact ⟨(y408), (wrap64 (x57_2 + 1)), sD, H', ⟨by have := HK1.out; have := HK2.out; omega⟩, ⟨uR HO_6.out⟩, ⟨by (with_reducible repeat (first | apply Kd.R_alloc | apply Kd.R_drewN | apply Kd.R_drew)); exact Kd.R_mono HO_7.out (fun _ hk => ⟨hk.1.1, ⟨hk.2, hk.1.2⟩⟩)⟩, ⟨uR HO_9.out⟩, ⟨uR HO_55.out⟩, ⟨uB⟩⟩
        ·rw [if_neg c45] at H
         have c45b0 : ((rd l0 (rd t400 (ji39))) == (rd l0 (rd t400 x57_2))) = false := beq_eq_false_iff_ne.mpr c45
         have c45b1 : ((rd l0 (rd t400 (ji39))) != (rd l0 (rd t400 x57_2))) = true := bne_iff_ne.mpr c45
         have H' := Aside0.mk H
         clear H
         obtain ⟨ad407, e407, hx407_0, p407, q407⟩ := rI (Kd.R_reads' HO_55.out).2.2 x57_2
         cases e407
         have p37 : 0 ≤ ((rd t400 x57_2) : Int) := dT
         have q37 : ((rd t400 x57_2) : Int) < ((x9_2.length : Int) : Int) := dT
         obtain ⟨go37, co37, eo37, gb37, gl37, cl37, HG37⟩ := Kd.R_form HO_9.out (by omega)
         (first | cases eo37 | (injection eo37 with ea_ en_ ec_; (first | subst ea_ | (injection ea_ with ea_; subst ea_)); subst ec_; clear en_))
         have GB37 := Aside0.mk gb37
         have GG37 := Aside0.mk HG37
         clear gb37 gl37 HG37
         obtain ⟨hx37_0, hf37_0⟩ := Kd.R_celln 0 HO_9.out ((rd t400 x57_2) : Int) p37 q37
         replace p37 := eq_true p37
         replace q37 := eq_true q37
         have HP57 := Kd.R_putg HO_9.out ((rd t400 x57_2) : Int) x57_2
         go_wp2_with (first | ((with_reducible refine gate_store (t := 3) (p := 65) rfl ?_); (try (rw [drewN_self wr]; generalize hq_ : World.drewN wr _ = wr; have n0_ := Aside0.mk (Kd.R_at hq_ HO_6.out); have n1_ := Aside0.mk (Kd.R_at hq_ HO_7.out); have n2_ := Aside0.mk (Kd.R_at hq_ HO_9.out); have n3_ := Aside0.mk (Kd.R_at hq_ HO_55.out); have n4_ := Aside0.mk (below_at hq_ HB.out); clear hq_ HO_6 HO_7 HO_9 HO_55 HB; have HO_6 := n0_; have HO_7 := n1_; have HO_9 := n2_; have HO_55 := n3_; have HB := n4_; clear n0_ n1_ n2_ n3_ n4_; (try (have HP57 := Kd.R_putg HO_9.out ((rd t400 x57_2) : Int) x57_2)))); refine store_event (t := 3) (p := 65) (v := ?vo_w58) (w1 := (wr.setCell ⟨go37, ((rd t400 x57_2) : Int).toNat, none⟩ (.int .i64 x57_2))) ?hg ?ho ?hn ?hr ?_; (case ho => rfl); (case hg => rfl); (case hn => rfl); (case hr => first | (go_simp; done) | (go_simp; rfl)); intro w58 hw; have hg : wr.grownBy w58 (some go37) := (by rw [hw]; exact HP57.2); have hp_ : Kd.R (Kd.int .i64) 3 w58 w.heap.size (fun k_ => some k_ ≠ (.slice (some ad407) t400.length co31 : Value).ownBlock ∧ some k_ ≠ (.slice Ao25 x7_1.length co25 : Value).ownBlock ∧ some k_ ≠ (.slice (some ad407) t400.length co31 : Value).ownBlock) (.slice (some ⟨go37, 0, none⟩) x9_2.length co37) y408 := (by rw [hw, Ny408.out]; exact HP57.1); clear HP57; have n0_ := Aside0.mk (Kd.R_after (v := (.slice (some ⟨go37, 0, none⟩) x9_2.length co37)) (v1 := (.slice (some ⟨go37, 0, none⟩) x9_2.length co37)) (ok := (fun k_ => some k_ ≠ (.slice Ao25 x7_1.length co25 : Value).ownBlock)) (uR HO_6.out) hg (.inl rfl)); have n1_ := Aside0.mk (Kd.R_after (v := (.slice (some ⟨go37, 0, none⟩) x9_2.length co37)) (v1 := (.slice (some ⟨go37, 0, none⟩) x9_2.length co37)) (ok := (fun k_ => some k_ ≠ (.slice (some ad407) t400.length co31 : Value).ownBlock ∧ some k_ ≠ (.slice (some ad407) t400.length co31 : Value).ownBlock)) (by (with_reducible repeat (first | apply Kd.R_alloc | apply Kd.R_drewN | apply Kd.R_drew)); exact Kd.R_mono HO_7.out (fun _ hk => ⟨⟨hk.1, hk.2.2⟩, hk.2.1⟩)) hg (.inl rfl)); have n2_ := Aside0.mk (hp_); have n3_ := Aside0.mk (Kd.R_after (v := (.slice (some ⟨go37, 0, none⟩) x9_2.length co37)) (v1 := (.slice (some ⟨go37, 0, none⟩) x9_2.length co37)) (ok := (fun k_ => some k_ ≠ (.slice Ao25 x7_1.length co25 : Value).ownBlock)) (uR HO_55.out) hg (.inl rfl)); have n4_ := Aside0.mk ((by rw [hw]; exact below_set (HB.out) GB37.out : Below w.heap.size w w58)); clear HO_6 HO_7 HO_9 HO_55 HB; have HO_6 := n0_; have HO_7 := n1_; have HO_9 := n2_; have HO_55 := n3_; have HB := n4_; clear n0_ n1_ n2_ n3_ n4_; clear hg hw hp_; have p409 : 0 ≤ ((ji39) : Int) := dT; have q409 : (ji39) < (t400.length : Int) := dT; obtain ⟨ad409, e409, hx409_0⟩ := Kd.at_int (Kd.R_reads' HO_6.out).2.2 (ji39) p409 q409; obtain rfl : ad407 = ad409 := (by injection e409); replace p409 := eq_true p409; replace q409 := eq_true q409; have p410 : 0 ≤ ((rd t400 (ji39)) : Int) := dT; have q410 : (rd t400 (ji39)) < (l0.length : Int) := dT; obtain ⟨ad410, e410, hx410_0⟩ := Kd.at_int HR0.out (rd t400 (ji39)) p410 q410; cases e410; replace hx410_0 := (HB.out.cell (World.block_lt_of_cell? w _ hx410_0)).trans hx410_0; replace p410 := eq_true p410; replace q410 := eq_true q410; have p411 : 0 ≤ ((rd t400 x57_2) : Int) := dT; have q411 : (rd t400 x57_2) < (l0.length : Int) := dT; obtain ⟨ad411, e411, hx411_0⟩ := Kd.at_int HR0.out (rd t400 x57_2) p411 q411; obtain rfl : ad410 = ad411 := (by injection e411); replace hx411_0 := (HB.out.cell (World.block_lt_of_cell? w _ hx411_0)).trans hx411_0; replace p411 := eq_true p411; replace q411 := eq_true q411))
         repeat (go_quiet (first | ((with_reducible refine gate_store (t := 3) (p := 65) rfl ?_); (try (rw [drewN_self wr]; generalize hq_ : World.drewN wr _ = wr; have n0_ := Aside0.mk (Kd.R_at hq_ HO_6.out); have n1_ := Aside0.mk (Kd.R_at hq_ HO_7.out); have n2_ := Aside0.mk (Kd.R_at hq_ HO_9.out); have n3_ := Aside0.mk (Kd.R_at hq_ HO_55.out); have n4_ := Aside0.mk (below_at hq_ HB.out); clear hq_ HO_6 HO_7 HO_9 HO_55 HB; have HO_6 := n0_; have HO_7 := n1_; have HO_9 := n2_; have HO_55 := n3_; have HB := n4_; clear n0_ n1_ n2_ n3_ n4_; (try (have HP57 := Kd.R_putg HO_9.out ((rd t400 x57_2) : Int) x57_2)))); refine store_event (t := 3) (p := 65) (v := ?vo_w58) (w1 := (wr.setCell ⟨go37, ((rd t400 x57_2) : Int).toNat, none⟩ (.int .i64 x57_2))) ?hg ?ho ?hn ?hr ?_; (case ho => rfl); (case hg => rfl); (case hn => rfl); (case hr => first | (go_simp; done) | (go_simp; rfl)); intro w58 hw; have hg : wr.grownBy w58 (some go37) := (by rw [hw]; exact HP57.2); have hp_ : Kd.R (Kd.int .i64) 3 w58 w.heap.size (fun k_ => some k_ ≠ (.slice (some ad407) t400.length co31 : Value).ownBlock ∧ some k_ ≠ (.slice Ao25 x7_1.length co25 : Value).ownBlock ∧ some k_ ≠ (.slice (some ad407) t400.length co31 : Value).ownBlock) (.slice (some ⟨go37, 0, none⟩) x9_2.length co37) y408 := (by rw [hw, Ny408.out]; exact HP57.1); clear HP57; have n0_ := Aside0.mk (Kd.R_after (v := (.slice (some ⟨go37, 0, none⟩) x9_2.length co37)) (v1 := (.slice (some ⟨go37, 0, none⟩) x9_2.length co37)) (ok := (fun k_ => some k_ ≠ (.slice Ao25 x7_1.length co25 : Value).ownBlock)) (uR HO_6.out) hg (.inl rfl)); have n1_ := Aside0.mk (Kd.R_after (v := (.slice (some ⟨go37, 0, none⟩) x9_2.length co37)) (v1 := (.slice (some ⟨go37, 0, none⟩) x9_2.length co37)) (ok := (fun k_ => some k_ ≠ (.slice (some ad407) t400.length co31 : Value).ownBlock ∧ some k_ ≠ (.slice (some ad407) t400.length co31 : Value).ownBlock)) (by (with_reducible repeat (first | apply Kd.R_alloc | apply Kd.R_drewN | apply Kd.R_drew)); exact Kd.R_mono HO_7.out (fun _ hk => ⟨⟨hk.1, hk.2.2⟩, hk.2.1⟩)) hg (.inl rfl)); have n2_ := Aside0.mk (hp_); have n3_ := Aside0.mk (Kd.R_after (v := (.slice (some ⟨go37, 0, none⟩) x9_2.length co37)) (v1 := (.slice (some ⟨go37, 0, none⟩) x9_2.length co37)) (ok := (fun k_ => some k_ ≠ (.slice Ao25 x7_1.length co25 : Value).ownBlock)) (uR HO_55.out) hg (.inl rfl)); have n4_ := Aside0.mk ((by rw [hw]; exact below_set (HB.out) GB37.out : Below w.heap.size w w58)); clear HO_6 HO_7 HO_9 HO_55 HB; have HO_6 := n0_; have HO_7 := n1_; have HO_9 := n2_; have HO_55 := n3_; have HB := n4_; clear n0_ n1_ n2_ n3_ n4_; clear hg hw hp_; have p409 : 0 ≤ ((ji39) : Int) := dT; have q409 : (ji39) < (t400.length : Int) := dT; obtain ⟨ad409, e409, hx409_0⟩ := Kd.at_int (Kd.R_reads' HO_6.out).2.2 (ji39) p409 q409; obtain rfl : ad407 = ad409 := (by injection e409); replace p409 := eq_true p409; replace q409 := eq_true q409; have p410 : 0 ≤ ((rd t400 (ji39)) : Int) := dT; have q410 : (rd t400 (ji39)) < (l0.length : Int) := dT; obtain ⟨ad410, e410, hx410_0⟩ := Kd.at_int HR0.out (rd t400 (ji39)) p410 q410; cases e410; replace hx410_0 := (HB.out.cell (World.block_lt_of_cell? w _ hx410_0)).trans hx410_0; replace p410 := eq_true p410; replace q410 := eq_true q410; have p411 : 0 ≤ ((rd t400 x57_2) : Int) := dT; have q411 : (rd t400 x57_2) < (l0.length : Int) := dT; obtain ⟨ad411, e411, hx411_0⟩ := Kd.at_int HR0.out (rd t400 x57_2) p411 q411; obtain rfl : ad410 = ad411 := (by injection e411); replace hx411_0 := (HB.out.cell (World.block_lt_of_cell? w _ hx411_0)).trans hx411_0; replace p411 := eq_true p411; replace q411 := eq_true q411)); try go_wp2_with (first | ((with_reducible refine gate_store (t := 3) (p := 65) rfl ?_); (try (rw [drewN_self wr]; generalize hq_ : World.drewN wr _ = wr; have n0_ := Aside0.mk (Kd.R_at hq_ HO_6.out); have n1_ := Aside0.mk (Kd.R_at hq_ HO_7.out); have n2_ := Aside0.mk (Kd.R_at hq_ HO_9.out); have n3_ := Aside0.mk (Kd.R_at hq_ HO_55.out); have n4_ := Aside0.mk (below_at hq_ HB.out); clear hq_ HO_6 HO_7 HO_9 HO_55 HB; have HO_6 := n0_; have HO_7 := n1_; have HO_9 := n2_; have HO_55 := n3_; have HB := n4_; clear n0_ n1_ n2_ n3_ n4_; (try (have HP57 := Kd.R_putg HO_9.out ((rd t400 x57_2) : Int) x57_2)))); refine store_event (t := 3) (p := 65) (v := ?vo_w58) (w1 := (wr.setCell ⟨go37, ((rd t400 x57_2) : Int).toNat, none⟩ (.int .i64 x57_2))) ?hg ?ho ?hn ?hr ?_; (case ho => rfl); (case hg => rfl); (case hn => rfl); (case hr => first | (go_simp; done) | (go_simp; rfl)); intro w58 hw; have hg : wr.grownBy w58 (some go37) := (by rw [hw]; exact HP57.2); have hp_ : Kd.R (Kd.int .i64) 3 w58 w.heap.size (fun k_ => some k_ ≠ (.slice (some ad407) t400.length co31 : Value).ownBlock ∧ some k_ ≠ (.slice Ao25 x7_1.length co25 : Value).ownBlock ∧ some k_ ≠ (.slice (some ad407) t400.length co31 : Value).ownBlock) (.slice (some ⟨go37, 0, none⟩) x9_2.length co37) y408 := (by rw [hw, Ny408.out]; exact HP57.1); clear HP57; have n0_ := Aside0.mk (Kd.R_after (v := (.slice (some ⟨go37, 0, none⟩) x9_2.length co37)) (v1 := (.slice (some ⟨go37, 0, none⟩) x9_2.length co37)) (ok := (fun k_ => some k_ ≠ (.slice Ao25 x7_1.length co25 : Value).ownBlock)) (uR HO_6.out) hg (.inl rfl)); have n1_ := Aside0.mk (Kd.R_after (v := (.slice (some ⟨go37, 0, none⟩) x9_2.length co37)) (v1 := (.slice (some ⟨go37, 0, none⟩) x9_2.length co37)) (ok := (fun k_ => some k_ ≠ (.slice (some ad407) t400.length co31 : Value).ownBlock ∧ some k_ ≠ (.slice (some ad407) t400.length co31 : Value).ownBlock)) (by (with_reducible repeat (first | apply Kd.R_alloc | apply Kd.R_drewN | apply Kd.R_drew)); exact Kd.R_mono HO_7.out (fun _ hk => ⟨⟨hk.1, hk.2.2⟩, hk.2.1⟩)) hg (.inl rfl)); have n2_ := Aside0.mk (hp_); have n3_ := Aside0.mk (Kd.R_after (v := (.slice (some ⟨go37, 0, none⟩) x9_2.length co37)) (v1 := (.slice (some ⟨go37, 0, none⟩) x9_2.length co37)) (ok := (fun k_ => some k_ ≠ (.slice Ao25 x7_1.length co25 : Value).ownBlock)) (uR HO_55.out) hg (.inl rfl)); have n4_ := Aside0.mk ((by rw [hw]; exact below_set (HB.out) GB37.out : Below w.heap.size w w58)); clear HO_6 HO_7 HO_9 HO_55 HB; have HO_6 := n0_; have HO_7 := n1_; have HO_9 := n2_; have HO_55 := n3_; have HB := n4_; clear n0_ n1_ n2_ n3_ n4_; clear hg hw hp_; have p409 : 0 ≤ ((ji39) : Int) := dT; have q409 : (ji39) < (t400.length : Int) := dT; obtain ⟨ad409, e409, hx409_0⟩ := Kd.at_int (Kd.R_reads' HO_6.out).2.2 (ji39) p409 q409; obtain rfl : ad407 = ad409 := (by injection e409); replace p409 := eq_true p409; replace q409 := eq_true q409; have p410 : 0 ≤ ((rd t400 (ji39)) : Int) := dT; have q410 : (rd t400 (ji39)) < (l0.length : Int) := dT; obtain ⟨ad410, e410, hx410_0⟩ := Kd.at_int HR0.out (rd t400 (ji39)) p410 q410; cases e410; replace hx410_0 := (HB.out.cell (World.block_lt_of_cell? w _ hx410_0)).trans hx410_0; replace p410 := eq_true p410; replace q410 := eq_true q410; have p411 : 0 ≤ ((rd t400 x57_2) : Int) := dT; have q411 : (rd t400 x57_2) < (l0.length : Int) := dT; obtain ⟨ad411, e411, hx411_0⟩ := Kd.at_int HR0.out (rd t400 x57_2) p411 q411; obtain rfl : ad410 = ad411 := (by injection e411); replace hx411_0 := (HB.out.cell (World.block_lt_of_cell? w _ hx411_0)).trans hx411_0; replace p411 := eq_true p411; replace q411 := eq_true q411)))
         go_roundg k2
         case measure => have := HK1.out; have := HK2.out; omega
         case rel => exact ⟨(y408), (wrap64 (x57_2 + 1)), sD, H', ⟨by have := HK1.out; have := HK2.out; omega⟩, ⟨uR HO_6.out⟩, ⟨by (with_reducible repeat (first | apply Kd.R_alloc | apply Kd.R_drewN | apply Kd.R_drew)); exact Kd.R_mono HO_7.out (fun _ hk => ⟨hk.1.1, ⟨hk.2, hk.1.2⟩⟩)⟩, ⟨uR HO_9.out⟩, ⟨uR HO_55.out⟩, ⟨uB⟩⟩
       ·have H' := Aside0.mk H
        clear H
        obtain ⟨ad407, e407, hx407_0, p407, q407⟩ := rI (Kd.R_reads' HO_55.out).2.2 x57_2
        cases e407
        have p37 : 0 ≤ ((rd t400 x57_2) : Int) := dT
        have q37 : ((rd t400 x57_2) : Int) < ((x9_2.length : Int) : Int) := dT
        obtain ⟨go37, co37, eo37, gb37, gl37, cl37, HG37⟩ := Kd.R_form HO_9.out (by omega)
        (first | cases eo37 | (injection eo37 with ea_ en_ ec_; (first | subst ea_ | (injection ea_ with ea_; subst ea_)); subst ec_; clear en_))
        have GB37 := Aside0.mk gb37
        have GG37 := Aside0.mk HG37
        clear gb37 gl37 HG37
        obtain ⟨hx37_0, hf37_0⟩ := Kd.R_celln 0 HO_9.out ((rd t400 x57_2) : Int) p37 q37
        replace p37 := eq_true p37
        replace q37 := eq_true q37
        have HP59 := Kd.R_putg HO_9.out ((rd t400 x57_2) : Int) x57_2
        go_wp2_with (first | ((with_reducible refine gate_store (t := 3) (p := 65) rfl ?_); (try (rw [drewN_self wr]; generalize hq_ : World.drewN wr _ = wr; have n0_ := Aside0.mk (Kd.R_at hq_ HO_6.out); have n1_ := Aside0.mk (Kd.R_at hq_ HO_7.out); have n2_ := Aside0.mk (Kd.R_at hq_ HO_9.out); have n3_ := Aside0.mk (Kd.R_at hq_ HO_55.out); have n4_ := Aside0.mk (below_at hq_ HB.out); clear hq_ HO_6 HO_7 HO_9 HO_55 HB; have HO_6 := n0_; have HO_7 := n1_; have HO_9 := n2_; have HO_55 := n3_; have HB := n4_; clear n0_ n1_ n2_ n3_ n4_; (try (have HP59 := Kd.R_putg HO_9.out ((rd t400 x57_2) : Int) x57_2)))); refine store_event (t := 3) (p := 65) (v := ?vo_w60) (w1 := (wr.setCell ⟨go37, ((rd t400 x57_2) : Int).toNat, none⟩ (.int .i64 x57_2))) ?hg ?ho ?hn ?hr ?_; (case ho => rfl); (case hg => rfl); (case hn => rfl); (case hr => first | (go_simp; done) | (go_simp; rfl)); intro w60 hw; have hg : wr.grownBy w60 (some go37) := (by rw [hw]; exact HP59.2); have hp_ : Kd.R (Kd.int .i64) 3 w60 w.heap.size (fun k_ => some k_ ≠ (.slice (some ad407) t400.length co31 : Value).ownBlock ∧ some k_ ≠ (.slice Ao25 x7_1.length co25 : Value).ownBlock ∧ some k_ ≠ (.slice (some ad407) t400.length co31 : Value).ownBlock) (.slice (some ⟨go37, 0, none⟩) x9_2.length co37) y408 := (by rw [hw, Ny408.out]; exact HP59.1); clear HP59; have n0_ := Aside0.mk (Kd.R_after (v := (.slice (some ⟨go37, 0, none⟩) x9_2.length co37)) (v1 := (.slice (some ⟨go37, 0, none⟩) x9_2.length co37)) (ok := (fun k_ => some k_ ≠ (.slice Ao25 x7_1.length co25 : Value).ownBlock)) (uR HO_6.out) hg (.inl rfl)); have n1_ := Aside0.mk (Kd.R_after (v := (.slice (some ⟨go37, 0, none⟩) x9_2.length co37)) (v1 := (.slice (some ⟨go37, 0, none⟩) x9_2.length co37)) (ok := (fun k_ => some k_ ≠ (.slice (some ad407) t400.length co31 : Value).ownBlock ∧ some k_ ≠ (.slice (some ad407) t400.length co31 : Value).ownBlock)) (by (with_reducible repeat (first | apply Kd.R_alloc | apply Kd.R_drewN | apply Kd.R_drew)); exact Kd.R_mono HO_7.out (fun _ hk => ⟨⟨hk.1, hk.2.2⟩, hk.2.1⟩)) hg (.inl rfl)); have n2_ := Aside0.mk (hp_); have n3_ := Aside0.mk (Kd.R_after (v := (.slice (some ⟨go37, 0, none⟩) x9_2.length co37)) (v1 := (.slice (some ⟨go37, 0, none⟩) x9_2.length co37)) (ok := (fun k_ => some k_ ≠ (.slice Ao25 x7_1.length co25 : Value).ownBlock)) (uR HO_55.out) hg (.inl rfl)); have n4_ := Aside0.mk ((by rw [hw]; exact below_set (HB.out) GB37.out : Below w.heap.size w w60)); clear HO_6 HO_7 HO_9 HO_55 HB; have HO_6 := n0_; have HO_7 := n1_; have HO_9 := n2_; have HO_55 := n3_; have HB := n4_; clear n0_ n1_ n2_ n3_ n4_; clear hg hw hp_))
        repeat (go_quiet (first | ((with_reducible refine gate_store (t := 3) (p := 65) rfl ?_); (try (rw [drewN_self wr]; generalize hq_ : World.drewN wr _ = wr; have n0_ := Aside0.mk (Kd.R_at hq_ HO_6.out); have n1_ := Aside0.mk (Kd.R_at hq_ HO_7.out); have n2_ := Aside0.mk (Kd.R_at hq_ HO_9.out); have n3_ := Aside0.mk (Kd.R_at hq_ HO_55.out); have n4_ := Aside0.mk (below_at hq_ HB.out); clear hq_ HO_6 HO_7 HO_9 HO_55 HB; have HO_6 := n0_; have HO_7 := n1_; have HO_9 := n2_; have HO_55 := n3_; have HB := n4_; clear n0_ n1_ n2_ n3_ n4_; (try (have HP59 := Kd.R_putg HO_9.out ((rd t400 x57_2) : Int) x57_2)))); refine store_event (t := 3) (p := 65) (v := ?vo_w60) (w1 := (wr.setCell ⟨go37, ((rd t400 x57_2) : Int).toNat, none⟩ (.int .i64 x57_2))) ?hg ?ho ?hn ?hr ?_; (case ho => rfl); (case hg => rfl); (case hn => rfl); (case hr => first | (go_simp; done) | (go_simp; rfl)); intro w60 hw; have hg : wr.grownBy w60 (some go37) := (by rw [hw]; exact HP59.2); have hp_ : Kd.R (Kd.int .i64) 3 w60 w.heap.size (fun k_ => some k_ ≠ (.slice (some ad407) t400.length co31 : Value).ownBlock ∧ some k_ ≠ (.slice Ao25 x7_1.length co25 : Value).ownBlock ∧ some k_ ≠ (.slice (some ad407) t400.length co31 : Value).ownBlock) (.slice (some ⟨go37, 0, none⟩) x9_2.length co37) y408 := (by rw [hw, Ny408.out]; exact HP59.1); clear HP59; have n0_ := Aside0.mk (Kd.R_after (v := (.slice (some ⟨go37, 0, none⟩) x9_2.length co37)) (v1 := (.slice (some ⟨go37, 0, none⟩) x9_2.length co37)) (ok := (fun k_ => some k_ ≠ (.slice Ao25 x7_1.length co25 : Value).ownBlock)) (uR HO_6.out) hg (.inl rfl)); have n1_ := Aside0.mk (Kd.R_after (v := (.slice (some ⟨go37, 0, none⟩) x9_2.length co37)) (v1 := (.slice (some ⟨go37, 0, none⟩) x9_2.length co37)) (ok := (fun k_ => some k_ ≠ (.slice (some ad407) t400.length co31 : Value).ownBlock ∧ some k_ ≠ (.slice (some ad407) t400.length co31 : Value).ownBlock)) (by (with_reducible repeat (first | apply Kd.R_alloc | apply Kd.R_drewN | apply Kd.R_drew)); exact Kd.R_mono HO_7.out (fun _ hk => ⟨⟨hk.1, hk.2.2⟩, hk.2.1⟩)) hg (.inl rfl)); have n2_ := Aside0.mk (hp_); have n3_ := Aside0.mk (Kd.R_after (v := (.slice (some ⟨go37, 0, none⟩) x9_2.length co37)) (v1 := (.slice (some ⟨go37, 0, none⟩) x9_2.length co37)) (ok := (fun k_ => some k_ ≠ (.slice Ao25 x7_1.length co25 : Value).ownBlock)) (uR HO_55.out) hg (.inl rfl)); have n4_ := Aside0.mk ((by rw [hw]; exact below_set (HB.out) GB37.out : Below w.heap.size w w60)); clear HO_6 HO_7 HO_9 HO_55 HB; have HO_6 := n0_; have HO_7 := n1_; have HO_9 := n2_; have HO_55 := n3_; have HB := n4_; clear n0_ n1_ n2_ n3_ n4_; clear hg hw hp_)); try go_wp2_with (first | ((with_reducible refine gate_store (t := 3) (p := 65) rfl ?_); (try (rw [drewN_self wr]; generalize hq_ : World.drewN wr _ = wr; have n0_ := Aside0.mk (Kd.R_at hq_ HO_6.out); have n1_ := Aside0.mk (Kd.R_at hq_ HO_7.out); have n2_ := Aside0.mk (Kd.R_at hq_ HO_9.out); have n3_ := Aside0.mk (Kd.R_at hq_ HO_55.out); have n4_ := Aside0.mk (below_at hq_ HB.out); clear hq_ HO_6 HO_7 HO_9 HO_55 HB; have HO_6 := n0_; have HO_7 := n1_; have HO_9 := n2_; have HO_55 := n3_; have HB := n4_; clear n0_ n1_ n2_ n3_ n4_; (try (have HP59 := Kd.R_putg HO_9.out ((rd t400 x57_2) : Int) x57_2)))); refine store_event (t := 3) (p := 65) (v := ?vo_w60) (w1 := (wr.setCell ⟨go37, ((rd t400 x57_2) : Int).toNat, none⟩ (.int .i64 x57_2))) ?hg ?ho ?hn ?hr ?_; (case ho => rfl); (case hg => rfl); (case hn => rfl); (case hr => first | (go_simp; done) | (go_simp; rfl)); intro w60 hw; have hg : wr.grownBy w60 (some go37) := (by rw [hw]; exact HP59.2); have hp_ : Kd.R (Kd.int .i64) 3 w60 w.heap.size (fun k_ => some k_ ≠ (.slice (some ad407) t400.length co31 : Value).ownBlock ∧ some k_ ≠ (.slice Ao25 x7_1.length co25 : Value).ownBlock ∧ some k_ ≠ (.slice (some ad407) t400.length co31 : Value).ownBlock) (.slice (some ⟨go37, 0, none⟩) x9_2.length co37) y408 := (by rw [hw, Ny408.out]; exact HP59.1); clear HP59; have n0_ := Aside0.mk (Kd.R_after (v := (.slice (some ⟨go37, 0, none⟩) x9_2.length co37)) (v1 := (.slice (some ⟨go37, 0, none⟩) x9_2.length co37)) (ok := (fun k_ => some k_ ≠ (.slice Ao25 x7_1.length co25 : Value).ownBlock)) (uR HO_6.out) hg (.inl rfl)); have n1_ := Aside0.mk (Kd.R_after (v := (.slice (some ⟨go37, 0, none⟩) x9_2.length co37)) (v1 := (.slice (some ⟨go37, 0, none⟩) x9_2.length co37)) (ok := (fun k_ => some k_ ≠ (.slice (some ad407) t400.length co31 : Value).ownBlock ∧ some k_ ≠ (.slice (some ad407) t400.length co31 : Value).ownBlock)) (by (with_reducible repeat (first | apply Kd.R_alloc | apply Kd.R_drewN | apply Kd.R_drew)); exact Kd.R_mono HO_7.out (fun _ hk => ⟨⟨hk.1, hk.2.2⟩, hk.2.1⟩)) hg (.inl rfl)); have n2_ := Aside0.mk (hp_); have n3_ := Aside0.mk (Kd.R_after (v := (.slice (some ⟨go37, 0, none⟩) x9_2.length co37)) (v1 := (.slice (some ⟨go37, 0, none⟩) x9_2.length co37)) (ok := (fun k_ => some k_ ≠ (.slice Ao25 x7_1.length co25 : Value).ownBlock)) (uR HO_55.out) hg (.inl rfl)); have n4_ := Aside0.mk ((by rw [hw]; exact below_set (HB.out) GB37.out : Below w.heap.size w w60)); clear HO_6 HO_7 HO_9 HO_55 HB; have HO_6 := n0_; have HO_7 := n1_; have HO_9 := n2_; have HO_55 := n3_; have HB := n4_; clear n0_ n1_ n2_ n3_ n4_; clear hg hw hp_)))
        go_roundg k2
        case measure => have := HK1.out; have := HK2.out; omega
        case rel => exact ⟨(y408), (wrap64 (x57_2 + 1)), sD, H', ⟨by have := HK1.out; have := HK2.out; omega⟩, ⟨uR HO_6.out⟩, ⟨by (with_reducible repeat (first | apply Kd.R_alloc | apply Kd.R_drewN | apply Kd.R_drew)); exact Kd.R_mono HO_7.out (fun _ hk => ⟨hk.1.1, ⟨hk.2, hk.1.2⟩⟩)⟩, ⟨uR HO_9.out⟩, ⟨uR HO_55.out⟩, ⟨uB⟩⟩
      ·simp only [Option.some.injEq, Prod.mk.injEq] at H
       obtain ⟨rfl, rfl⟩ := H
       go_wp2
       repeat (go_quiet (fail); try go_wp2)
       go_ret2
       exact ⟨_, _, eR, by (with_reducible repeat (first | apply Kd.R_alloc | apply Kd.R_drewN | apply Kd.R_drew)); exact Kd.R_mono HO_9.out (fun _ hk => hk.1), by (with_reducible repeat (first | apply Kd.R_alloc | apply Kd.R_drewN | apply Kd.R_drew)); exact Kd.R_mono HO_6.out (fun _ hk => hk.2), uB⟩
mutual
def double_Ranks.j0 : Nat → List Int → Int → Bool → Option (List Int)
  | 0, _, _, _ => none
  | k + 1, x0, x1, x14 => if x14 = true then (some ([] : List Int)) else (if 0 ≤ (x0.length : Int) then (if ((x0.length : Int) : Int).toNat ≤ 35184372088832 then (if x1 = 0 then (some (List.replicate ((x0.length : Int) : Int).toNat 0)) else ((double_ranks.f k x0).bind fun t421 => (double_Ranks.l0 k (mn x1 (x0.length : Int)) t421 1))) else (none)) else (none))
def double_Ranks.l0 : Nat → Int → List Int → Int → Option (List Int)
  | 0, _, _, _ => none
  | k + 1, x1, x5, x6 => if x6 < x1 then ((double_joined.f k x5 (mn x6 (wrap64 (x1 - x6)))).bind fun bt424 => (double_Ranks.l0 k x1 bt424.1 (wrap64 (x6 + (mn x6 (wrap64 (x1 - x6))))))) else (some x5)
end
def double_Ranks.f (k : Nat) (l0 : List Int) (a1 : Int) : Option (List Int) := if a1 < 0 then (double_Ranks.j0 k l0 a1 true) else (double_Ranks.j0 k l0 a1 (decide ((l0.length : Int) > 100000)))
theorem double_Ranks.mono_l : ∀ k, (∀ y0 y1 y2, LeO (double_Ranks.j0 k y0 y1 y2) (double_Ranks.j0 (k + 1) y0 y1 y2)) ∧ (∀ y0 y1 y2, LeO (double_Ranks.l0 k y0 y1 y2) (double_Ranks.l0 (k + 1) y0 y1 y2))
  | 0 => ⟨fun _ _ _ r h => by simp [double_Ranks.j0] at h, fun _ _ _ r h => by simp [double_Ranks.l0] at h⟩
  | k + 1 => by
    obtain ⟨ih0, ih1⟩ := double_Ranks.mono_l k
    refine ⟨?_, ?_⟩
    · intro y0 y1 y2
      unfold double_Ranks.j0
      have m0 := @double_joined.mono
      have m1 := @double_ranks.mono
      exact mB
    · intro y0 y1 y2
      unfold double_Ranks.l0
      have m0 := @double_joined.mono
      have m1 := @double_ranks.mono
      exact mB
theorem double_Ranks.mono : ∀ a0 a1 k, LeO (double_Ranks.f k a0 a1) (double_Ranks.f (k + 1) a0 a1) := by
  intro a0 a1 k
  obtain ⟨ih0, ih1⟩ := double_Ranks.mono_l k
  unfold double_Ranks.f
  have m0 := @double_joined.mono
  have m1 := @double_ranks.mono
  exact mB
theorem double_Ranks.calls (k : Nat) (A0 : Option Addr) (c0 : Nat) (l0 : List Int) (a1 : Int) (r : List Int) (w : World) (hr0 : Kd.C (Kd.int .i64) w A0 l0.length l0) (hc0 : l0.length ≤ c0) (h : double_Ranks.f k l0 a1 = some r) :
    Calls Tryz.prog 109 #[.slice A0 l0.length c0, .int .i64 a1] w fun e w' => ∃ v0_ : Value, e = .returned (v0_) ∧ Kd.R (Kd.int .i64) 3 w' w.heap.size (fun _ => True) v0_ r ∧ Below w.heap.size w w' := by
 have HR0 := Aside0.mk hr0
 have HC0 := Aside0.mk hc0
 clear hr0 hc0
 have HB := Aside0.mk (Below.refl w.heap.size w)
 have H := h
 clear h
 unfold double_Ranks.f at H
 have HC3 := Aside0.mk H
 clear H
 go_enter Tryz.func109, Tryz.ntmps109
 go_upto_region 1 with (fail)
 go_cut [14] (fun v14 wc => ∃ (kq : Nat) (x14_2 : Bool), v14 = .bool x14_2 ∧ Aside0 (double_Ranks.j0 kq l0 a1 x14_2 = some r) ∧ Aside0 (kq ≤ k) ∧ Aside0 (Below w.heap.size w wc))
 case first =>
  have H := HC3.out
  clear HC3
  rcases ifC H with ⟨c4b0, H⟩ | ⟨c4b0, H⟩
  ·(first | rw [c4b0] | (simp only [i64_w, i32_w]; rw [c4b0]) | skip)
   have H' := Aside0.mk H
   clear H
   go_wp2
   go_meet
   case rel => exact ⟨_, (true), sD, H', ⟨by first | omega | exact Nat.le_refl _⟩, ⟨uB⟩⟩
  ·(first | rw [c4b0] | (simp only [i64_w, i32_w]; rw [c4b0]) | skip)
   have H' := Aside0.mk H
   clear H
   go_wp2
   go_meet
   case rel => exact ⟨_, (decide ((l0.length : Int) > 100000)), sD, H', ⟨by first | omega | exact Nat.le_refl _⟩, ⟨uB⟩⟩
 case rest =>
  clear HC3
  obtain ⟨kq, x14_2, rfl, HA, HJ2, HB⟩ := hcut
  cases kq with
  | zero => exact absurd HA.out (by simp [double_Ranks.j0])
  | succ kj2 =>
   have H := HA.out
   clear HA
   simp only [double_Ranks.j0] at H
   by_cases c5 : x14_2 = true
   ·subst c5
    rw [if_pos rfl] at H
    obtain rfl := Option.some.inj H
    go_wp2
    go_ret
    exact ⟨_, eR, nL, uB⟩
   ·replace c5 := Bool.eq_false_iff.mpr c5
    subst c5
    rw [if_neg (by decide)] at H
    obtain ⟨c6b0, c6b1, H⟩ := ifE H
    obtain ⟨c7b0, c7b1, H⟩ := ifE H
    generalize hy418 : (List.replicate ((l0.length : Int) : Int).toNat 0 : List Int) = y418 at H
    try simp only [Option.bind_some] at H
    have Ny418 := Aside0.mk hy418.symm
    clear hy418
    by_cases c8 : a1 = 0
    ·rw [if_pos c8] at H
     have c8b0 : (a1 == 0) = true := beq_iff_eq.mpr c8
     have c8b1 : (a1 != 0) = false := bne_eq_false_iff_eq.mpr c8
     clear c8
     obtain rfl := Option.some.inj H
     go_wp2_with (first | ((with_reducible refine gate_dst (N := 17) rfl ?_); (try (refine gate_guard (by rfl) ?_; dsimp only)); refine Kd.R_make (Kd.int .i64) _ 3 rfl (N := 17) rfl 29 _ _ rfl (l0.length : Int) rfl rfl Tryz.underlying29 (.int .i64 0) 8 info3 rfl (by decide) (by omega) 0 (ok := fun _ => True) (okp := fun _ => True) rfl (fun _ hk => hk) trivial dT (Nat.le_trans (Nat.mul_le_mul_right _ (dT : (l0.length : Int).toNat ≤ 35184372088832)) (by omega)) (Below.refl _ _) (Nat.le_refl _) ?_; intro v419 w9 ho10 hb hg_ hnew_; clear hg_ hnew_; (first | rw [← Ny418.out] at ho10 | (simp only [Int.reduceToNat] at ho10; rw [← Ny418.out] at ho10)); have n0_ := Aside0.mk (Kd.R_lower ho10 (below_size uB)); have n1_ := Aside0.mk (below_step uB hb); clear HB; have HO420 := n0_; have HB := n1_; clear n0_ n1_; clear hb ho10))
     go_ret
     exact ⟨_, eR, uR HO420.out, uB⟩
    ·rw [if_neg c8] at H
     have c8b0 : (a1 == 0) = false := beq_eq_false_iff_ne.mpr c8
     have c8b1 : (a1 != 0) = true := bne_iff_ne.mpr c8
     obtain ⟨t421, A11, H⟩ := bdS H
     try dsimp only at H
     obtain ⟨ji12, hji12⟩ : ∃ j_ : Int, (mn a1 (l0.length : Int)) = j_ := ⟨_, rfl⟩
     first | rw [hji12] at H | simp only [hji12] at H
     (try rw [hji12] at A11)
     have hji12_ : (if (l0.length : Int) < a1 then (l0.length : Int) else a1) = ji12 := hji12
     have H' := Aside0.mk H
     clear H
     go_wp2_with (first | ((with_reducible refine gate_dst (N := 17) rfl ?_); (try (refine gate_guard (by rfl) ?_; dsimp only)); refine Kd.R_make (Kd.int .i64) _ 3 rfl (N := 17) rfl 29 _ _ rfl (l0.length : Int) rfl rfl Tryz.underlying29 (.int .i64 0) 8 info3 rfl (by decide) (by omega) 0 (ok := fun _ => True) (okp := fun _ => True) rfl (fun _ hk => hk) trivial dT (Nat.le_trans (Nat.mul_le_mul_right _ (dT : (l0.length : Int).toNat ≤ 35184372088832)) (by omega)) (Below.refl _ _) (Nat.le_refl _) ?_; intro v419 w13 ho14 hb hg_ hnew_; clear hg_ hnew_; (first | rw [← Ny418.out] at ho14 | (simp only [Int.reduceToNat] at ho14; rw [← Ny418.out] at ho14)); have n0_ := Aside0.mk (Kd.R_lower ho14 (below_size uB)); have n1_ := Aside0.mk (below_step uB hb); clear HB; have HO420 := n0_; have HB := n1_; clear n0_ n1_; clear hb ho14) | ((with_reducible refine gate_callee (f := 133) rfl ?_); refine goesL_ (some 22) rfl rfl Tryz.func133 (by kernel_rfl) rfl #[.slice A0 l0.length c0] rfl aE ?_; (with_reducible refine (double_ranks.calls kj2 _ _ l0 t421 _ ?side1 ?side2 A11.out).mono ?_); (case side1 => exact uC (Kd.C_below HR0.out HB.out)); (case side2 => exact HC0.out); rintro e w15 ⟨v422, rfl, ho0, hb⟩; refine ⟨_, rfl, ?_⟩; have n0_ := Aside0.mk (Kd.R_elder' (uR HO420.out) (Kd.R_base ho0) hb); have n1_ := Aside0.mk (Kd.R_lower (Kd.R_new' ho0 (Kd.R_lt (uR HO420.out))) (below_size uB)); have n2_ := Aside0.mk (below_step uB hb); clear HO420 HB; have HO420 := n0_; have HO423 := n1_; have HB := n2_; clear n0_ n1_ n2_))
     go_loopg [5, 6] kj2 (fun kq v5 v6 w' => ∃ (x5_2 : List Int) (x6_2 : Int), v6 = .int .i64 x6_2 ∧ Aside0 (double_Ranks.l0 kq ji12 x5_2 x6_2 = some r) ∧ Aside0 (kq ≤ kj2) ∧ Aside0 (Kd.R (Kd.int .i64) 3 w' w.heap.size (fun _ => True) v5 x5_2) ∧ Aside0 (Below w.heap.size w w'))
     case atStart => exact ⟨(t421), (1), sD, H', ⟨Nat.le_refl _⟩, ⟨by (with_reducible repeat (first | apply Kd.R_alloc | apply Kd.R_drewN | apply Kd.R_drew)); exact Kd.R_mono HO423.out (fun _ hk => trivial)⟩, ⟨uB⟩⟩
     case round =>
      clear H'
      obtain ⟨x5_2, x6_2, rfl, HA, HK2, HO_5, HB⟩ := hrel
      cases gk with
      | zero => exact absurd HA.out (by simp [double_Ranks.l0])
      | succ k2 =>
       have H := HA.out
       clear HA
       simp only [double_Ranks.l0] at H
       rcases ifC H with ⟨c16b0, H⟩ | ⟨c16b0, H⟩
       ·obtain ⟨ji17, hji17⟩ : ∃ j_ : Int, (mn x6_2 (wrap64 (ji12 - x6_2))) = j_ := ⟨_, rfl⟩
        first | rw [hji17] at H | simp only [hji17] at H
        have hji17_ : (if (wrap64 (ji12 - x6_2)) < x6_2 then (wrap64 (ji12 - x6_2)) else x6_2) = ji17 := hji17
        obtain ⟨⟨t424, t425⟩, A18, H⟩ := bdS H
        try dsimp only at H
        have H' := Aside0.mk H
        clear H
        obtain ⟨Ao19, co19, eo19⟩ := Kd.R_slice HO_5.out
        subst eo19
        go_wp2_with (first | ((with_reducible refine gate_callee (f := 134) rfl ?_); refine goesL_ (some 38) rfl rfl Tryz.func134 (by kernel_rfl) rfl #[.slice Ao19 x5_2.length co19, .int .i64 ji17] rfl (by (try simp only [List.map_toArray, List.map_cons, List.map_nil]); first | done | (simp only [hji17]; rfl) | rfl | (simp only [List.length_drop, List.length_take]; rfl)) ?_; (with_reducible refine (double_joined.calls k2 _ _ x5_2 ji17 t424 t425 _ ?side1 ?side2 A18.out).mono ?_); (case side1 => exact uC (Kd.R_reads' HO_5.out).2.2); (case side2 => exact (Kd.R_reads' HO_5.out).2.1); rintro e w20 ⟨v426, v428, rfl, ho0, ho1, hb⟩; refine ⟨_, rfl, ?_⟩; have n0_ := Aside0.mk (Kd.R_mono (Kd.R_told (Kd.R_told (Kd.R_old (uR HO_5.out) hb) (Kd.R_base ho0)) (Kd.R_base ho1)) (fun _ h_ => h_.1)); have n1_ := Aside0.mk (Kd.R_lower (Kd.R_new' ho0 (Kd.R_lt (uR HO_5.out))) (below_size uB)); have n2_ := Aside0.mk (Kd.R_lower (Kd.R_new' ho1 (Kd.R_lt (uR HO_5.out))) (below_size uB)); have n3_ := Aside0.mk (below_step uB hb); clear HO_5 HB; have HO_5 := n0_; have HO427 := n1_; have HO429 := n2_; have HB := n3_; clear n0_ n1_ n2_ n3_))
        go_roundg k2
        case measure => have := HJ2.out; have := HK2.out; omega
        case rel => exact ⟨(t424), (wrap64 (x6_2 + (ji17))), (by first | rfl | (simp; done) | (simp only [← hji17] <;> (first | rfl | simp)) | (simp [*]; done)), H', ⟨by have := HJ2.out; have := HK2.out; omega⟩, ⟨by (with_reducible repeat (first | apply Kd.R_alloc | apply Kd.R_drewN | apply Kd.R_drew)); exact Kd.R_mono HO427.out (fun _ hk => trivial)⟩, ⟨uB⟩⟩
       ·obtain rfl := Option.some.inj H
        go_wp2
        go_ret
        exact ⟨_, by first | rfl | (simp [errW_none, errW_some] <;> rfl) | (simp only [← hji12]; first | rfl | (simp [errW_none, errW_some] <;> rfl)) | (simp [*, errW_none, errW_some] <;> rfl), uR HO_5.out, uB⟩
def double_Ints.l0 : Nat → List Int → List Int → Int → Int → Option (List Int × Int)
  | 0, _, _, _, _ => none
  | k + 1, x8, x28, x29, x30 => if x30 < x29 then (if 0 ≤ x30 then (if x30 < (x28.length : Int) then (if 0 ≤ (rd x28 x30) then (if (rd x28 x30) < (x8.length : Int) then (double_Ints.l0 k (x8.set ((rd x28 x30) : Int).toNat x30) x28 x29 (wrap64 (x30 + 1))) else (none)) else (none)) else (none)) else (none)) else (some (x8, 0))
def double_Ints.f (k : Nat) (l0 : List Int) (a1 : Int) : Option (List Int × Int) := if (l0.length : Int) > 100000 then (some (([] : List Int), 2)) else ((bucket_Counts.f k l0 a1).bind fun bt430 => (if bt430.2 = true then (if 0 ≤ (l0.length : Int) then (if ((l0.length : Int) : Int).toNat ≤ 35184372088832 then ((double_Ranks.f k l0 (l0.length : Int)).bind fun t437 => (double_Ints.l0 k (List.replicate ((l0.length : Int) : Int).toNat 0) t437 (t437.length : Int) 0)) else (none)) else (none)) else (some (([] : List Int), 1))))
theorem double_Ints.mono_l : ∀ k, (∀ y0 y1 y2 y3, LeO (double_Ints.l0 k y0 y1 y2 y3) (double_Ints.l0 (k + 1) y0 y1 y2 y3))
  | 0 => fun _ _ _ _ r h => by simp [double_Ints.l0] at h
  | k + 1 => by
    have ih0 := double_Ints.mono_l k
    · intro y0 y1 y2 y3
      unfold double_Ints.l0
      have m0 := @bucket_Counts.mono
      have m1 := @double_Ranks.mono
      exact mB
theorem double_Ints.mono : ∀ a0 a1 k, LeO (double_Ints.f k a0 a1) (double_Ints.f (k + 1) a0 a1) := by
  intro a0 a1 k
  have ih0 := double_Ints.mono_l k
  unfold double_Ints.f
  have m0 := @bucket_Counts.mono
  have m1 := @double_Ranks.mono
  exact mB
theorem double_Ints.calls (k : Nat) (A0 : Option Addr) (c0 : Nat) (l0 : List Int) (a1 : Int) (r1 : List Int) (r2 : Int) (w : World) (hr0 : Kd.C (Kd.int .i64) w A0 l0.length l0) (hc0 : l0.length ≤ c0) (h : double_Ints.f k l0 a1 = some (r1, r2)) :
    Calls Tryz.prog 95 #[.slice A0 l0.length c0, .int .i64 a1] w fun e w' => ∃ v0_ : Value, e = .returned (.tuple #[v0_, .int .i64 r2]) ∧ Kd.R (Kd.int .i64) 3 w' w.heap.size (fun _ => True) v0_ r1 ∧ Below w.heap.size w w' := by
 have HR0 := Aside0.mk hr0
 have HC0 := Aside0.mk hc0
 clear hr0 hc0
 have HB := Aside0.mk (Below.refl w.heap.size w)
 have H := h
 clear h
 unfold double_Ints.f at H
 by_cases c3 : (l0.length : Int) > 100000
 ·rw [if_pos c3] at H
  have c3b0 : decide (100000 < (l0.length : Int)) = true := decide_eq_true c3
  have c3b1 : decide (100000 < l0.length) = true := decide_eq_true (by omega)
  clear c3
  simp only [Option.some.injEq, Prod.mk.injEq] at H
  obtain ⟨rfl, rfl⟩ := H
  go_enter Tryz.func95, Tryz.ntmps95
  go_wp2
  go_ret2
  exact ⟨_, eR, nL, uB⟩
 ·rw [if_neg c3] at H
  have c3b0 : decide (100000 < (l0.length : Int)) = false := decide_eq_false c3
  have c3b1 : decide (100000 < l0.length) = false := decide_eq_false (by omega)
  clear c3
  obtain ⟨⟨t430, t431⟩, A4, H⟩ := bdS H
  try dsimp only at H
  by_cases c5 : t431 = true
  ·subst c5
   rw [if_pos rfl] at H
   obtain ⟨c6b0, c6b1, H⟩ := ifE H
   obtain ⟨c7b0, c7b1, H⟩ := ifE H
   generalize hy434 : (List.replicate ((l0.length : Int) : Int).toNat 0 : List Int) = y434 at H
   try simp only [Option.bind_some] at H
   have Ny434 := Aside0.mk hy434.symm
   clear hy434
   obtain ⟨t437, A8, H⟩ := bdS H
   try dsimp only at H
   have H' := Aside0.mk H
   clear H
   go_enter Tryz.func95, Tryz.ntmps95
   go_wp2_with (first | ((with_reducible refine gate_callee (f := 91) rfl ?_); refine goesL_ (some 17) rfl rfl Tryz.func91 (by kernel_rfl) rfl #[.slice A0 l0.length c0, .int .i64 a1] rfl aE ?_; (with_reducible refine (bucket_Counts.calls k _ _ l0 a1 t430 true _ ?side1 ?side2 A4.out).mono ?_); (case side1 => exact uC HR0.out); (case side2 => exact HC0.out); rintro e w9 ⟨v432, rfl, ho0, hb⟩; refine ⟨_, rfl, ?_⟩; have n0_ := Aside0.mk (Kd.R_lower ho0 (below_size uB)); have n1_ := Aside0.mk (below_step uB hb); clear HB; have HO433 := n0_; have HB := n1_; clear n0_ n1_) | ((with_reducible refine gate_dst (N := 24) rfl ?_); refine Kd.R_make (Kd.int .i64) _ 3 rfl (N := 24) rfl 29 _ _ rfl (l0.length : Int) rfl rfl Tryz.underlying29 (.int .i64 0) 8 info3 rfl (by decide) (by omega) 0 (ok := fun _ => True) (okp := fun _ => True) rfl (fun _ hk => hk) trivial dT (Nat.le_trans (Nat.mul_le_mul_right _ (dT : (l0.length : Int).toNat ≤ 35184372088832)) (by omega)) (Below.refl _ _) (Nat.le_refl _) ?_; intro v435 w10 ho11 hb hg_ hnew_; clear hg_ hnew_; (first | rw [← Ny434.out] at ho11 | (simp only [Int.reduceToNat] at ho11; rw [← Ny434.out] at ho11)); have n0_ := Aside0.mk (Kd.R_elder' (uR HO433.out) (Kd.R_base ho11) hb); have n1_ := Aside0.mk (Kd.R_lower (Kd.R_new' ho11 (Kd.R_lt (uR HO433.out))) (below_size uB)); have n2_ := Aside0.mk (below_step uB hb); clear HO433 HB; have HO433 := n0_; have HO436 := n1_; have HB := n2_; clear n0_ n1_ n2_; clear hb ho11) | ((with_reducible refine gate_callee (f := 109) rfl ?_); refine goesL_ (some 28) rfl rfl Tryz.func109 (by kernel_rfl) rfl #[.slice A0 l0.length c0, .int .i64 (l0.length : Int)] rfl aE ?_; (with_reducible refine (double_Ranks.calls k _ _ l0 (l0.length : Int) t437 _ ?side1 ?side2 A8.out).mono ?_); (case side1 => exact uC (Kd.C_below HR0.out HB.out)); (case side2 => exact HC0.out); rintro e w12 ⟨v438, rfl, ho0, hb⟩; refine ⟨_, rfl, ?_⟩; have n0_ := Aside0.mk (Kd.R_elder' (uR HO433.out) (Kd.R_base ho0) hb); have n1_ := Aside0.mk (Kd.R_elder' (uR HO436.out) (Kd.R_base ho0) hb); have n2_ := Aside0.mk (Kd.R_lower (Kd.R_new' (Kd.R_new' ho0 (Kd.R_lt (uR HO433.out))) (Kd.R_lt (uR HO436.out))) (below_size uB)); have n3_ := Aside0.mk (below_step uB hb); clear HO433 HO436 HB; have HO433 := n0_; have HO436 := n1_; have HO439 := n2_; have HB := n3_; clear n0_ n1_ n2_ n3_; obtain ⟨Ao13, co13, eo13⟩ := Kd.R_slice HO439.out; subst eo13))
   go_loopg [30] k (fun kq v30 w' => ∃ (x8_1 : List Int) (x30_1 : Int), v30 = .int .i64 x30_1 ∧ Aside0 (double_Ints.l0 kq x8_1 t437 (t437.length : Int) x30_1 = some (r1, r2)) ∧ Aside0 (kq ≤ k) ∧ Aside0 (Kd.R (Kd.int .i64) 3 w' w.heap.size (fun k_ => some k_ ≠ ((.slice Ao13 t437.length co13) : Value).ownBlock) v435 x8_1) ∧ Aside0 (Kd.R (Kd.int .i64) 3 w' w.heap.size (fun k_ => some k_ ≠ (v435 : Value).ownBlock) (.slice Ao13 t437.length co13) t437) ∧ Aside0 (Below w.heap.size w w'))
   case atStart => exact ⟨(y434), (0), sD, H', ⟨Nat.le_refl _⟩, ⟨by (with_reducible repeat (first | apply Kd.R_alloc | apply Kd.R_drewN | apply Kd.R_drew)); exact Kd.R_mono HO436.out (fun _ hk => hk.2)⟩, ⟨by (with_reducible repeat (first | apply Kd.R_alloc | apply Kd.R_drewN | apply Kd.R_drew)); exact Kd.R_mono HO439.out (fun _ hk => hk.2)⟩, ⟨uB⟩⟩
   case round =>
    clear H'
    obtain ⟨x8_1, x30_1, rfl, HA, HK1, HO_8, HO_28, HB⟩ := hrel
    cases gk with
    | zero => exact absurd HA.out (by simp [double_Ints.l0])
    | succ k1 =>
     have H := HA.out
     clear HA
     simp only [double_Ints.l0] at H
     rcases ifC H with ⟨c14b0, H⟩ | ⟨c14b0, H⟩
     ·obtain ⟨c15b0, c16b0, H⟩ := ifD2 H
      obtain ⟨c17b0, c18b0, H⟩ := ifD2 H
      generalize hy441 : (x8_1.set ((rd t437 x30_1) : Int).toNat x30_1 : List Int) = y441 at H
      try simp only [Option.bind_some] at H
      have Ny441 := Aside0.mk hy441.symm
      clear hy441
      have H' := Aside0.mk H
      clear H
      obtain ⟨ad440, e440, hx440_0, p440, q440⟩ := rI (Kd.R_reads' HO_28.out).2.2 x30_1
      cases e440
      have p19 : 0 ≤ ((rd t437 x30_1) : Int) := dT
      have q19 : ((rd t437 x30_1) : Int) < ((x8_1.length : Int) : Int) := dT
      obtain ⟨go19, co19, eo19, gb19, gl19, cl19, HG19⟩ := Kd.R_form HO_8.out (by omega)
      (first | cases eo19 | (injection eo19 with ea_ en_ ec_; (first | subst ea_ | (injection ea_ with ea_; subst ea_)); subst ec_; clear en_))
      have GB19 := Aside0.mk gb19
      have GG19 := Aside0.mk HG19
      clear gb19 gl19 HG19
      obtain ⟨hx19_0, hf19_0⟩ := Kd.R_celln 0 HO_8.out ((rd t437 x30_1) : Int) p19 q19
      replace p19 := eq_true p19
      replace q19 := eq_true q19
      have HP20 := Kd.R_putg HO_8.out ((rd t437 x30_1) : Int) x30_1
      go_wp2_with (first | ((with_reducible refine gate_store (t := 3) (p := 38) rfl ?_); refine store_event (t := 3) (p := 38) (v := ?vo_w21) (w1 := (wr.setCell ⟨go19, ((rd t437 x30_1) : Int).toNat, none⟩ (.int .i64 x30_1))) ?hg ?ho ?hn ?hr ?_; (case ho => rfl); (case hg => rfl); (case hn => rfl); (case hr => first | (go_simp; done) | (go_simp; rfl)); intro w21 hw; have hg : wr.grownBy w21 (some go19) := (by rw [hw]; exact HP20.2); have hp_ : Kd.R (Kd.int .i64) 3 w21 w.heap.size (fun k_ => some k_ ≠ (.slice (some ad440) t437.length co13 : Value).ownBlock) (.slice (some ⟨go19, 0, none⟩) x8_1.length co19) y441 := (by rw [hw, Ny441.out]; exact HP20.1); clear HP20; have n0_ := Aside0.mk (hp_); have n1_ := Aside0.mk (Kd.R_after (v := (.slice (some ⟨go19, 0, none⟩) x8_1.length co19)) (v1 := (.slice (some ⟨go19, 0, none⟩) x8_1.length co19)) (ok := (fun _ => True)) (by (with_reducible repeat (first | apply Kd.R_alloc | apply Kd.R_drewN | apply Kd.R_drew)); exact Kd.R_mono HO_28.out (fun _ hk => ⟨trivial, hk⟩)) hg (.inl rfl)); have n2_ := Aside0.mk ((by rw [hw]; exact below_set (HB.out) GB19.out : Below w.heap.size w w21)); clear HO_8 HO_28 HB; have HO_8 := n0_; have HO_28 := n1_; have HB := n2_; clear n0_ n1_ n2_; clear hg hw hp_))
      go_roundg k1
      case measure => have := HK1.out; omega
      case rel => exact ⟨(y441), (wrap64 (x30_1 + 1)), sD, H', ⟨by have := HK1.out; omega⟩, ⟨uR HO_8.out⟩, ⟨by (with_reducible repeat (first | apply Kd.R_alloc | apply Kd.R_drewN | apply Kd.R_drew)); exact Kd.R_mono HO_28.out (fun _ hk => hk.2)⟩, ⟨uB⟩⟩
     ·simp only [Option.some.injEq, Prod.mk.injEq] at H
      obtain ⟨rfl, rfl⟩ := H
      go_wp2
      go_ret2
      exact ⟨_, eR, by (with_reducible repeat (first | apply Kd.R_alloc | apply Kd.R_drewN | apply Kd.R_drew)); exact Kd.R_mono HO_8.out (fun _ hk => trivial), uB⟩
  ·replace c5 := Bool.eq_false_iff.mpr c5
   subst c5
   rw [if_neg (by decide)] at H
   simp only [Option.some.injEq, Prod.mk.injEq] at H
   obtain ⟨rfl, rfl⟩ := H
   go_enter Tryz.func95, Tryz.ntmps95
   go_wp2_with (first | ((with_reducible refine gate_callee (f := 91) rfl ?_); refine goesL_ (some 17) rfl rfl Tryz.func91 (by kernel_rfl) rfl #[.slice A0 l0.length c0, .int .i64 a1] rfl aE ?_; (with_reducible refine (bucket_Counts.calls k _ _ l0 a1 t430 false _ ?side1 ?side2 A4.out).mono ?_); (case side1 => exact uC HR0.out); (case side2 => exact HC0.out); rintro e w22 ⟨v432, rfl, ho0, hb⟩; refine ⟨_, rfl, ?_⟩; have n0_ := Aside0.mk (Kd.R_lower ho0 (below_size uB)); have n1_ := Aside0.mk (below_step uB hb); clear HB; have HO433 := n0_; have HB := n1_; clear n0_ n1_))
   go_ret2
   exact ⟨_, eR, nL, uB⟩
def double_Bytes.l0 : Nat → List Int → List Int → Int → Int → Option (List Int × Int)
  | 0, _, _, _, _ => none
  | k + 1, x4, x13, x14, x15 => if x15 < x14 then (if 0 ≤ x15 then (if x15 < (x13.length : Int) then (if x15 < (x4.length : Int) then (double_Bytes.l0 k (x4.set (x15 : Int).toNat (wrap64 (rd x13 x15))) x13 x14 (wrap64 (x15 + 1))) else (none)) else (none)) else (none)) else ((double_Ints.f k x4 256).bind fun bt447 => (some (bt447.1, bt447.2)))
def double_Bytes.f (k : Nat) (l0 : List Int) : Option (List Int × Int) := if (l0.length : Int) > 100000 then (some (([] : List Int), 2)) else (if 0 ≤ (l0.length : Int) then (if ((l0.length : Int) : Int).toNat ≤ 35184372088832 then (double_Bytes.l0 k (List.replicate ((l0.length : Int) : Int).toNat 0) l0 (l0.length : Int) 0) else (none)) else (none))
theorem double_Bytes.mono_l : ∀ k, (∀ y0 y1 y2 y3, LeO (double_Bytes.l0 k y0 y1 y2 y3) (double_Bytes.l0 (k + 1) y0 y1 y2 y3))
  | 0 => fun _ _ _ _ r h => by simp [double_Bytes.l0] at h
  | k + 1 => by
    have ih0 := double_Bytes.mono_l k
    · intro y0 y1 y2 y3
      unfold double_Bytes.l0
      have m0 := @double_Ints.mono
      exact mB
theorem double_Bytes.mono : ∀ a0 k, LeO (double_Bytes.f k a0) (double_Bytes.f (k + 1) a0) := by
  intro a0 k
  have ih0 := double_Bytes.mono_l k
  unfold double_Bytes.f
  have m0 := @double_Ints.mono
  exact mB
theorem double_Bytes.calls (k : Nat) (A0 : Option Addr) (c0 : Nat) (l0 : List Int) (r1 : List Int) (r2 : Int) (w : World) (hr0 : Kd.C (Kd.int .u8) w A0 l0.length l0) (hc0 : l0.length ≤ c0) (h : double_Bytes.f k l0 = some (r1, r2)) :
    Calls Tryz.prog 78 #[.slice A0 l0.length c0] w fun e w' => ∃ v0_ : Value, e = .returned (.tuple #[v0_, .int .i64 r2]) ∧ Kd.R (Kd.int .i64) 3 w' w.heap.size (fun _ => True) v0_ r1 ∧ Below w.heap.size w w' := by
 have HR0 := Aside0.mk hr0
 have HC0 := Aside0.mk hc0
 clear hr0 hc0
 have HB := Aside0.mk (Below.refl w.heap.size w)
 have H := h
 clear h
 unfold double_Bytes.f at H
 by_cases c2 : (l0.length : Int) > 100000
 ·rw [if_pos c2] at H
  have c2b0 : decide (100000 < (l0.length : Int)) = true := decide_eq_true c2
  have c2b1 : decide (100000 < l0.length) = true := decide_eq_true (by omega)
  clear c2
  simp only [Option.some.injEq, Prod.mk.injEq] at H
  obtain ⟨rfl, rfl⟩ := H
  go_enter Tryz.func78, Tryz.ntmps78
  go_wp2
  go_ret2
  exact ⟨_, eR, nL, uB⟩
 ·rw [if_neg c2] at H
  have c2b0 : decide (100000 < (l0.length : Int)) = false := decide_eq_false c2
  have c2b1 : decide (100000 < l0.length) = false := decide_eq_false (by omega)
  clear c2
  obtain ⟨c3b0, c3b1, H⟩ := ifE H
  obtain ⟨c4b0, c4b1, H⟩ := ifE H
  generalize hy442 : (List.replicate ((l0.length : Int) : Int).toNat 0 : List Int) = y442 at H
  try simp only [Option.bind_some] at H
  have Ny442 := Aside0.mk hy442.symm
  clear hy442
  have H' := Aside0.mk H
  clear H
  go_enter Tryz.func78, Tryz.ntmps78
  go_wp2_with (first | ((with_reducible refine gate_dst (N := 12) rfl ?_); refine Kd.R_make (Kd.int .i64) _ 3 rfl (N := 12) rfl 29 _ _ rfl (l0.length : Int) rfl rfl Tryz.underlying29 (.int .i64 0) 8 info3 rfl (by decide) (by omega) 0 (ok := fun _ => True) (okp := fun _ => True) rfl (fun _ hk => hk) trivial dT (Nat.le_trans (Nat.mul_le_mul_right _ (dT : (l0.length : Int).toNat ≤ 35184372088832)) (by omega)) (Below.refl _ _) (Nat.le_refl _) ?_; intro v443 w5 ho6 hb hg_ hnew_; clear hg_ hnew_; (first | rw [← Ny442.out] at ho6 | (simp only [Int.reduceToNat] at ho6; rw [← Ny442.out] at ho6)); have n0_ := Aside0.mk (Kd.R_lower ho6 (below_size uB)); have n1_ := Aside0.mk (below_step uB hb); clear HB; have HO444 := n0_; have HB := n1_; clear n0_ n1_; clear hb ho6))
  go_loopg [15] k (fun kq v15 w' => ∃ (x4_1 : List Int) (x15_1 : Int), v15 = .int .i64 x15_1 ∧ Aside0 (double_Bytes.l0 kq x4_1 l0 (l0.length : Int) x15_1 = some (r1, r2)) ∧ Aside0 (kq ≤ k) ∧ Aside0 (Kd.R (Kd.int .i64) 3 w' w.heap.size (fun _ => True) v443 x4_1) ∧ Aside0 (Below w.heap.size w w'))
  case atStart => exact ⟨(y442), (0), sD, H', ⟨Nat.le_refl _⟩, ⟨uR HO444.out⟩, ⟨uB⟩⟩
  case round =>
   clear H'
   obtain ⟨x4_1, x15_1, rfl, HA, HK1, HO_4, HB⟩ := hrel
   cases gk with
   | zero => exact absurd HA.out (by simp [double_Bytes.l0])
   | succ k1 =>
    have H := HA.out
    clear HA
    simp only [double_Bytes.l0] at H
    rcases ifC H with ⟨c7b0, H⟩ | ⟨c7b0, H⟩
    ·obtain ⟨c8b0, H⟩ := ifD H
     obtain ⟨c9b0, c10b0, H⟩ := ifD2 H
     generalize hy446 : (x4_1.set (x15_1 : Int).toNat (wrap64 (rd l0 x15_1)) : List Int) = y446 at H
     try simp only [Option.bind_some] at H
     have Ny446 := Aside0.mk hy446.symm
     clear hy446
     have H' := Aside0.mk H
     clear H
     obtain ⟨ad445, e445, hx445_0, p445, q445⟩ := rIO HB.out HR0.out x15_1
     cases e445
     have p11 : 0 ≤ (x15_1 : Int) := dT
     have q11 : (x15_1 : Int) < ((x4_1.length : Int) : Int) := dT
     obtain ⟨go11, co11, eo11, gb11, gl11, cl11, HG11⟩ := Kd.R_form HO_4.out (by omega)
     (first | cases eo11 | (injection eo11 with ea_ en_ ec_; (first | subst ea_ | (injection ea_ with ea_; subst ea_)); subst ec_; clear en_))
     have GB11 := Aside0.mk gb11
     have GG11 := Aside0.mk HG11
     clear gb11 gl11 HG11
     obtain ⟨hx11_0, hf11_0⟩ := Kd.R_celln 0 HO_4.out (x15_1 : Int) p11 q11
     replace p11 := eq_true p11
     replace q11 := eq_true q11
     have HP12 := Kd.R_putg HO_4.out (x15_1 : Int) (wrap64 (rd l0 x15_1))
     go_wp2_with (first | ((with_reducible refine gate_store (t := 3) (p := 24) rfl ?_); refine store_event (t := 3) (p := 24) (v := ?vo_w13) (w1 := (wr.setCell ⟨go11, (x15_1 : Int).toNat, none⟩ (.int .i64 (wrap64 (rd l0 x15_1))))) ?hg ?ho ?hn ?hr ?_; (case ho => rfl); (case hg => rfl); (case hn => rfl); (case hr => first | (go_simp; done) | (go_simp; rfl)); intro w13 hw; have hg : wr.grownBy w13 (some go11) := (by rw [hw]; exact HP12.2); have hp_ : Kd.R (Kd.int .i64) 3 w13 w.heap.size (fun _ => True) (.slice (some ⟨go11, 0, none⟩) x4_1.length co11) y446 := (by rw [hw, Ny446.out]; exact HP12.1); clear HP12; have n0_ := Aside0.mk (hp_); have n1_ := Aside0.mk ((by rw [hw]; exact below_set (HB.out) GB11.out : Below w.heap.size w w13)); clear HO_4 HB; have HO_4 := n0_; have HB := n1_; clear n0_ n1_; clear hg hw hp_))
     go_roundg k1
     case measure => have := HK1.out; omega
     case rel => exact ⟨(y446), (wrap64 (x15_1 + 1)), sD, H', ⟨by have := HK1.out; omega⟩, ⟨uR HO_4.out⟩, ⟨uB⟩⟩
    ·obtain ⟨⟨t447, t448⟩, A14, H⟩ := bdS H
     try dsimp only at H
     simp only [Option.some.injEq, Prod.mk.injEq] at H
     obtain ⟨rfl, rfl⟩ := H
     obtain ⟨Ao15, co15, eo15⟩ := Kd.R_slice HO_4.out
     subst eo15
     go_wp2_with (first | ((with_reducible refine gate_callee (f := 95) rfl ?_); refine goesL_ (some 27) rfl rfl Tryz.func95 (by kernel_rfl) rfl #[.slice Ao15 x4_1.length co15, .int .i64 256] rfl aE ?_; (with_reducible refine (double_Ints.calls k1 _ _ x4_1 256 t447 t448 _ ?side1 ?side2 A14.out).mono ?_); (case side1 => exact uC (Kd.R_reads' HO_4.out).2.2); (case side2 => exact (Kd.R_reads' HO_4.out).2.1); rintro e w16 ⟨v449, rfl, ho0, hb⟩; refine ⟨_, rfl, ?_⟩; have n0_ := Aside0.mk (Kd.R_elder' (uR HO_4.out) (Kd.R_base ho0) hb); have n1_ := Aside0.mk (Kd.R_lower (Kd.R_new' ho0 (Kd.R_lt (uR HO_4.out))) (below_size uB)); have n2_ := Aside0.mk (below_step uB hb); clear HO_4 HB; have HO_4 := n0_; have HO450 := n1_; have HB := n2_; clear n0_ n1_ n2_))
     go_ret2
     exact ⟨_, eR, by (with_reducible repeat (first | apply Kd.R_alloc | apply Kd.R_drewN | apply Kd.R_drew)); exact Kd.R_mono HO450.out (fun _ hk => trivial), uB⟩
def rank_Inverse.l0 : Nat → List Int → List Int → List Bool → List Int → Int → Int → Option (List Int × Bool)
  | 0, _, _, _, _, _, _ => none
  | k + 1, x0, x4, x5, x14, x15, x16 => if x16 < x15 then (if 0 ≤ x16 then (if x16 < (x14.length : Int) then (if (rd x14 x16) < 0 then (some (([] : List Int), false)) else (if (rd x14 x16) ≥ (x0.length : Int) then (some (([] : List Int), false)) else (if 0 ≤ (rd x14 x16) then (if (rd x14 x16) < (x5.length : Int) then (if rdOf false x5 (rd x14 x16) = true then (some (([] : List Int), false)) else (if (rd x14 x16) < (x4.length : Int) then (rank_Inverse.l0 k x0 (x4.set ((rd x14 x16) : Int).toNat x16) (x5.set ((rd x14 x16) : Int).toNat true) x14 x15 (wrap64 (x16 + 1))) else (none))) else (none)) else (none)))) else (none)) else (none)) else (some (x4, true))
def rank_Inverse.f (k : Nat) (l0 : List Int) : Option (List Int × Bool) := if 0 ≤ (l0.length : Int) then (if ((l0.length : Int) : Int).toNat ≤ 35184372088832 then (if ((l0.length : Int) : Int).toNat ≤ 281474976710656 then (rank_Inverse.l0 k l0 (List.replicate ((l0.length : Int) : Int).toNat 0) (List.replicate ((l0.length : Int) : Int).toNat false) l0 (l0.length : Int) 0) else (none)) else (none)) else (none)
theorem rank_Inverse.mono_l : ∀ k, (∀ y0 y1 y2 y3 y4 y5, LeO (rank_Inverse.l0 k y0 y1 y2 y3 y4 y5) (rank_Inverse.l0 (k + 1) y0 y1 y2 y3 y4 y5))
  | 0 => fun _ _ _ _ _ _ r h => by simp [rank_Inverse.l0] at h
  | k + 1 => by
    have ih0 := rank_Inverse.mono_l k
    · intro y0 y1 y2 y3 y4 y5
      unfold rank_Inverse.l0
      exact mB
theorem rank_Inverse.mono : ∀ a0 k, LeO (rank_Inverse.f k a0) (rank_Inverse.f (k + 1) a0) := by
  intro a0 k
  have ih0 := rank_Inverse.mono_l k
  unfold rank_Inverse.f
  exact mB
theorem rank_Inverse.calls (k : Nat) (A0 : Option Addr) (c0 : Nat) (l0 : List Int) (r1 : List Int) (r2 : Bool) (w : World) (hr0 : Kd.C (Kd.int .i64) w A0 l0.length l0) (hc0 : l0.length ≤ c0) (h : rank_Inverse.f k l0 = some (r1, r2)) :
    Calls Tryz.prog 72 #[.slice A0 l0.length c0] w fun e w' => ∃ v0_ : Value, e = .returned (.tuple #[v0_, .bool r2]) ∧ Kd.R (Kd.int .i64) 3 w' w.heap.size (fun _ => True) v0_ r1 ∧ Below w.heap.size w w' := by
 have HR0 := Aside0.mk hr0
 have HC0 := Aside0.mk hc0
 clear hr0 hc0
 have HB := Aside0.mk (Below.refl w.heap.size w)
 have H := h
 clear h
 unfold rank_Inverse.f at H
 obtain ⟨c2b0, c2b1, H⟩ := ifE H
 obtain ⟨c3b0, c3b1, H⟩ := ifE H
 generalize hy451 : (List.replicate ((l0.length : Int) : Int).toNat 0 : List Int) = y451 at H
 try simp only [Option.bind_some] at H
 have Ny451 := Aside0.mk hy451.symm
 clear hy451
 obtain ⟨c4b0, c4b1, H⟩ := ifE H
 generalize hy454 : (List.replicate ((l0.length : Int) : Int).toNat false : List Bool) = y454 at H
 try simp only [Option.bind_some] at H
 have Ny454 := Aside0.mk hy454.symm
 clear hy454
 have H' := Aside0.mk H
 clear H
 go_enter Tryz.func72, Tryz.ntmps72
 go_wp2_with (first | ((with_reducible refine gate_dst (N := 10) rfl ?_); (try (refine gate_guard (by rfl) ?_; dsimp only)); refine Kd.R_make (Kd.int .i64) _ 3 rfl (N := 10) rfl 29 _ _ rfl (l0.length : Int) rfl rfl Tryz.underlying29 (.int .i64 0) 8 info3 rfl (by decide) (by omega) 0 (ok := fun _ => True) (okp := fun _ => True) rfl (fun _ hk => hk) trivial dT (Nat.le_trans (Nat.mul_le_mul_right _ (dT : (l0.length : Int).toNat ≤ 35184372088832)) (by omega)) (Below.refl _ _) (Nat.le_refl _) ?_; intro v452 w5 ho6 hb hg_ hnew_; clear hg_ hnew_; (first | rw [← Ny451.out] at ho6 | (simp only [Int.reduceToNat] at ho6; rw [← Ny451.out] at ho6)); have n0_ := Aside0.mk (Kd.R_lower ho6 (below_size uB)); have n1_ := Aside0.mk (below_step uB hb); clear HB; have HO453 := n0_; have HB := n1_; clear n0_ n1_; clear hb ho6) | ((with_reducible refine gate_dst (N := 13) rfl ?_); (try (refine gate_guard (by rfl) ?_; dsimp only)); refine Kd.R_make Kd.bool _ 4 rfl (N := 13) rfl 122 _ _ rfl (l0.length : Int) rfl rfl Tryz.underlying122 (.bool false) 1 info4 rfl (by decide) (by omega) false (ok := fun _ => True) (okp := fun _ => True) rfl (fun _ hk => hk) trivial dT (Nat.le_trans (Nat.mul_le_mul_right _ (dT : (l0.length : Int).toNat ≤ 281474976710656)) (by omega)) (Below.refl _ _) (Nat.le_refl _) ?_; intro v455 w7 ho8 hb hg_ hnew_; clear hg_ hnew_; (first | rw [← Ny454.out] at ho8 | (simp only [Int.reduceToNat] at ho8; rw [← Ny454.out] at ho8)); have n0_ := Aside0.mk (Kd.R_below (uR HO453.out) hb); have n1_ := Aside0.mk (Kd.R_lower ho8 (below_size uB)); have n2_ := Aside0.mk (below_step uB hb); clear HO453 HB; have HO453 := n0_; have HO456 := n1_; have HB := n2_; clear n0_ n1_ n2_; clear hb ho8))
 go_loopg [16] k (fun kq v16 w' => ∃ (x4_1 : List Int) (x5_1 : List Bool) (x16_1 : Int), v16 = .int .i64 x16_1 ∧ Aside0 (rank_Inverse.l0 kq l0 x4_1 x5_1 l0 (l0.length : Int) x16_1 = some (r1, r2)) ∧ Aside0 (kq ≤ k) ∧ Aside0 (Kd.R (Kd.int .i64) 3 w' w.heap.size (fun _ => True) v452 x4_1) ∧ Aside0 (Kd.R Kd.bool 4 w' w.heap.size (fun _ => True) v455 x5_1) ∧ Aside0 (Below w.heap.size w w'))
 case atStart => exact ⟨(y451), (y454), (0), sD, H', ⟨Nat.le_refl _⟩, ⟨uR HO453.out⟩, ⟨uR HO456.out⟩, ⟨uB⟩⟩
 case round =>
  clear H'
  obtain ⟨x4_1, x5_1, x16_1, rfl, HA, HK1, HO_4, HO_5, HB⟩ := hrel
  cases gk with
  | zero => exact absurd HA.out (by simp [rank_Inverse.l0])
  | succ k1 =>
   have H := HA.out
   clear HA
   simp only [rank_Inverse.l0] at H
   rcases ifC H with ⟨c9b0, H⟩ | ⟨c9b0, H⟩
   ·obtain ⟨c10b0, c11b0, H⟩ := ifD2 H
    rcases ifC H with ⟨c12b0, H⟩ | ⟨c12b0, H⟩
    ·simp only [Option.some.injEq, Prod.mk.injEq] at H
     obtain ⟨rfl, rfl⟩ := H
     obtain ⟨ad457, e457, hx457_0, p457, q457⟩ := rIO HB.out HR0.out x16_1
     cases e457
     go_wp2
     go_ret2
     exact ⟨_, eR, nL, uB⟩
    ·rcases ifG H with ⟨c13b0, H⟩ | ⟨c13b0, H⟩
     ·simp only [Option.some.injEq, Prod.mk.injEq] at H
      obtain ⟨rfl, rfl⟩ := H
      obtain ⟨ad457, e457, hx457_0, p457, q457⟩ := rIO HB.out HR0.out x16_1
      cases e457
      go_wp2
      go_ret2
      exact ⟨_, eR, nL, uB⟩
     ·obtain ⟨c14b0, c15b0, H⟩ := ifD2 H
      obtain ⟨bq16, hbq16⟩ : ∃ b_ : Bool, b_ = (rdOf false x5_1 (rd l0 x16_1)) := ⟨_, rfl⟩
      replace H : (if bq16 = true then (some (([] : List Int), false)) else (if (rd l0 x16_1) < (x4_1.length : Int) then (rank_Inverse.l0 k1 l0 (x4_1.set ((rd l0 x16_1) : Int).toNat x16_1) (x5_1.set ((rd l0 x16_1) : Int).toNat true) l0 (l0.length : Int) (wrap64 (x16_1 + 1))) else (none))) = some (r1, r2) := by rw [← hbq16] at H; exact H
      have Nbq16 := Aside0.mk hbq16
      clear hbq16
      by_cases c17 : bq16 = true
      ·subst c17
       rw [if_pos rfl] at H
       simp only [Option.some.injEq, Prod.mk.injEq] at H
       obtain ⟨rfl, rfl⟩ := H
       obtain ⟨ad457, e457, hx457_0, p457, q457⟩ := rIO HB.out HR0.out x16_1
       cases e457
       obtain ⟨Ao18, co18, eo18⟩ := Kd.R_slice HO_5.out
       subst eo18
       have p458 : 0 ≤ ((rd l0 x16_1) : Int) := dT
       have q458 : (rd l0 x16_1) < (x5_1.length : Int) := dT
       obtain ⟨ad458, e458, hx458_0⟩ := Kd.at_bool (Kd.R_reads' HO_5.out).2.2 (rd l0 x16_1) p458 q458
       (try rw [← Nbq16.out] at hx458_0)
       cases e458
       replace p458 := eq_true p458
       replace q458 := eq_true q458
       go_wp2
       go_ret2
       exact ⟨_, eR, nL, uB⟩
      ·replace c17 := Bool.eq_false_iff.mpr c17
       subst c17
       rw [if_neg (by decide)] at H
       obtain ⟨c19b0, H⟩ := ifD H
       generalize hy459 : (x4_1.set ((rd l0 x16_1) : Int).toNat x16_1 : List Int) = y459 at H
       try simp only [Option.bind_some] at H
       have Ny459 := Aside0.mk hy459.symm
       clear hy459
       generalize hy460 : (x5_1.set ((rd l0 x16_1) : Int).toNat true : List Bool) = y460 at H
       try simp only [Option.bind_some] at H
       have Ny460 := Aside0.mk hy460.symm
       clear hy460
       have H' := Aside0.mk H
       clear H
       obtain ⟨ad457, e457, hx457_0, p457, q457⟩ := rIO HB.out HR0.out x16_1
       cases e457
       obtain ⟨Ao22, co22, eo22⟩ := Kd.R_slice HO_5.out
       subst eo22
       have p458 : 0 ≤ ((rd l0 x16_1) : Int) := dT
       have q458 : (rd l0 x16_1) < (x5_1.length : Int) := dT
       obtain ⟨ad458, e458, hx458_0⟩ := Kd.at_bool (Kd.R_reads' HO_5.out).2.2 (rd l0 x16_1) p458 q458
       (try rw [← Nbq16.out] at hx458_0)
       cases e458
       replace p458 := eq_true p458
       replace q458 := eq_true q458
       have p20 : 0 ≤ ((rd l0 x16_1) : Int) := dT
       have q20 : ((rd l0 x16_1) : Int) < ((x4_1.length : Int) : Int) := dT
       obtain ⟨go20, co20, eo20, gb20, gl20, cl20, HG20⟩ := Kd.R_form HO_4.out (by omega)
       (first | cases eo20 | (injection eo20 with ea_ en_ ec_; (first | subst ea_ | (injection ea_ with ea_; subst ea_)); subst ec_; clear en_))
       have GB20 := Aside0.mk gb20
       have GG20 := Aside0.mk HG20
       clear gb20 gl20 HG20
       obtain ⟨hx20_0, hf20_0⟩ := Kd.R_celln 0 HO_4.out ((rd l0 x16_1) : Int) p20 q20
       replace p20 := eq_true p20
       replace q20 := eq_true q20
       have HP23 := Kd.R_putg HO_4.out ((rd l0 x16_1) : Int) x16_1
       go_wp2_with (first | ((with_reducible refine gate_store (t := 3) (p := 40) rfl ?_); refine store_event (t := 3) (p := 40) (v := ?vo_w24) (w1 := (wr.setCell ⟨go20, ((rd l0 x16_1) : Int).toNat, none⟩ (.int .i64 x16_1))) ?hg ?ho ?hn ?hr ?_; (case ho => rfl); (case hg => rfl); (case hn => rfl); (case hr => first | (go_simp; done) | (go_simp; rfl)); intro w24 hw; have hg : wr.grownBy w24 (some go20) := (by rw [hw]; exact HP23.2); have hp_ : Kd.R (Kd.int .i64) 3 w24 w.heap.size (fun _ => True) (.slice (some ⟨go20, 0, none⟩) x4_1.length co20) y459 := (by rw [hw, Ny459.out]; exact HP23.1); clear HP23; have n0_ := Aside0.mk (hp_); have n1_ := Aside0.mk (Kd.R_over' (v := (.slice (some ⟨go20, 0, none⟩) x4_1.length co20)) (uR HO_5.out) (Kd.R_typed HO_4.out) (by decide) hg); have n2_ := Aside0.mk ((by rw [hw]; exact below_set (HB.out) GB20.out : Below w.heap.size w w24)); clear HO_4 HO_5 HB; have HO_4 := n0_; have HO_5 := n1_; have HB := n2_; clear n0_ n1_ n2_; clear hg hw hp_; have p21 : 0 ≤ ((rd l0 x16_1) : Int) := dT; have q21 : ((rd l0 x16_1) : Int) < ((x5_1.length : Int) : Int) := dT; obtain ⟨go21, co21, eo21, gb21, gl21, cl21, HG21⟩ := Kd.R_form HO_5.out (by omega); (first | cases eo21 | (injection eo21 with ea_ en_ ec_; (first | subst ea_ | (injection ea_ with ea_; subst ea_)); subst ec_; clear en_)); have GB21 := Aside0.mk gb21; have GG21 := Aside0.mk HG21; clear gb21 gl21 HG21; (first | simp only [add_plain] at hx458_0 | skip); obtain ⟨hx21_0, hf21_0⟩ := Kd.R_celln false HO_5.out ((rd l0 x16_1) : Int) p21 q21; replace p21 := eq_true p21; replace q21 := eq_true q21; obtain ⟨hy25_, hz25_⟩ := Kd.R_celln false HO_5.out ((rd l0 x16_1) : Int) dT dT; have HP25 := Kd.R_putg HO_5.out ((rd l0 x16_1) : Int) true) | ((with_reducible refine gate_store (t := 4) (p := 41) rfl ?_); refine store_event (t := 4) (p := 41) (v := ?vo_w26) (w1 := (w24.setCell ⟨go21, ((rd l0 x16_1) : Int).toNat, none⟩ (.bool true))) ?hg ?ho ?hn ?hr ?_; (case ho => rfl); (case hg => rfl); (case hn => rfl); (case hr => first | (go_simp; done) | (go_simp; rfl)); intro w26 hw; have hg : w24.grownBy w26 (some go21) := (by rw [hw]; exact HP25.2); have hp_ : Kd.R Kd.bool 4 w26 w.heap.size (fun _ => True) (.slice (some ⟨go21, 0, none⟩) x5_1.length co22) y460 := (by rw [hw, Ny460.out]; exact HP25.1); clear HP25; have n0_ := Aside0.mk (Kd.R_over' (v := (.slice (some ⟨go21, 0, none⟩) x5_1.length co22)) (uR HO_4.out) (Kd.R_typed HO_5.out) (by decide) hg); have n1_ := Aside0.mk (hp_); have n2_ := Aside0.mk ((by rw [hw]; exact below_set (HB.out) GB21.out : Below w.heap.size w w26)); clear HO_4 HO_5 HB; have HO_4 := n0_; have HO_5 := n1_; have HB := n2_; clear n0_ n1_ n2_; clear hg hw hp_))
       go_roundg k1
       case measure => have := HK1.out; omega
       case rel => exact ⟨(y459), (y460), (wrap64 (x16_1 + 1)), sD, H', ⟨by have := HK1.out; omega⟩, ⟨uR HO_4.out⟩, ⟨uR HO_5.out⟩, ⟨uB⟩⟩
   ·simp only [Option.some.injEq, Prod.mk.injEq] at H
    obtain ⟨rfl, rfl⟩ := H
    go_wp2
    go_ret2
    exact ⟨_, eR, uR HO_4.out, uB⟩
def kasai_behind.f (l0 : List Int) (a1 : Int) : Option (Int) := if (wrap64 (a1 + 1)) = (l0.length : Int) then (some (-1)) else (if 0 ≤ (wrap64 (a1 + 1)) then (if (wrap64 (a1 + 1)) < (l0.length : Int) then (some (rd l0 (wrap64 (a1 + 1)))) else (none)) else (none))
theorem kasai_behind.calls (A0 : Option Addr) (c0 : Nat) (l0 : List Int) (a1 : Int) (r : Int) (w : World) (hr0 : Kd.C (Kd.int .i64) w A0 l0.length l0) (hc0 : l0.length ≤ c0) (h : kasai_behind.f l0 a1 = some r) :
    Calls Tryz.prog 97 #[.slice A0 l0.length c0, .int .i64 a1] w fun e w' => e = .returned (.int .i64 r) ∧ Drawn0 w w' := by
 have HR0 := Aside0.mk hr0
 have HC0 := Aside0.mk hc0
 clear hr0 hc0
 have H := h
 clear h
 unfold kasai_behind.f at H
 by_cases c3 : (wrap64 (a1 + 1)) = (l0.length : Int)
 ·rw [if_pos c3] at H
  have c3b0 : ((wrap64 (a1 + 1)) == (l0.length : Int)) = true := beq_iff_eq.mpr c3
  have c3b1 : ((wrap64 (a1 + 1)) != (l0.length : Int)) = false := bne_eq_false_iff_eq.mpr c3
  clear c3
  obtain rfl := Option.some.inj H
  go_enter Tryz.func97, Tryz.ntmps97
  go_wp2
  go_ret
  exact ⟨sD, dD⟩
 ·rw [if_neg c3] at H
  have c3b0 : ((wrap64 (a1 + 1)) == (l0.length : Int)) = false := beq_eq_false_iff_ne.mpr c3
  have c3b1 : ((wrap64 (a1 + 1)) != (l0.length : Int)) = true := bne_iff_ne.mpr c3
  obtain ⟨ji4, hji4⟩ : ∃ j_ : Int, (wrap64 (a1 + 1)) = j_ := ⟨_, rfl⟩
  first | rw [hji4] at H | simp only [hji4] at H
  (try rw [hji4] at c3b0)
  (try rw [hji4] at c3b1)
  have hji4w : (IntKind.i64.wrap (a1 + 1)) = ji4 := (i64_w _).trans hji4
  obtain ⟨c5b0, c6b0, H⟩ := ifD2 H
  obtain rfl := Option.some.inj H
  obtain ⟨ad461, e461, hx461_0, p461, q461⟩ := rI HR0.out (ji4)
  cases e461
  go_enter Tryz.func97, Tryz.ntmps97
  go_wp2
  go_ret
  exact ⟨by first | rfl | (simp; done) | (simp only [← hji4] <;> (first | rfl | simp)) | (simp [*]; done), dD⟩
def kasai_ordered.l0 : Nat → List Int → List Int → List Int → Int → Option (Bool)
  | 0, _, _, _, _ => none
  | k + 1, x0, x1, x2, x7 => if x7 < (x1.length : Int) then (if 0 ≤ (wrap64 (x7 - 1)) then (if (wrap64 (x7 - 1)) < (x1.length : Int) then (if 0 ≤ x7 then (if 0 ≤ (rd x1 (wrap64 (x7 - 1))) then (if (rd x1 (wrap64 (x7 - 1))) < (x0.length : Int) then (if 0 ≤ (rd x1 x7) then (if (rd x1 x7) < (x0.length : Int) then (if (rd x0 (rd x1 (wrap64 (x7 - 1)))) > (rd x0 (rd x1 x7)) then (some false) else (if (rd x0 (rd x1 (wrap64 (x7 - 1)))) = (rd x0 (rd x1 x7)) then ((kasai_behind.f x2 (rd x1 (wrap64 (x7 - 1)))).bind fun t468 => ((kasai_behind.f x2 (rd x1 x7)).bind fun t469 => (if t468 > t469 then (some false) else (kasai_ordered.l0 k x0 x1 x2 (wrap64 (x7 + 1)))))) else (kasai_ordered.l0 k x0 x1 x2 (wrap64 (x7 + 1))))) else (none)) else (none)) else (none)) else (none)) else (none)) else (none)) else (none)) else (some true)
def kasai_ordered.f (k : Nat) (l0 : List Int) (l1 : List Int) (l2 : List Int) : Option (Bool) := kasai_ordered.l0 k l0 l1 l2 1
theorem kasai_ordered.mono_l : ∀ k, (∀ y0 y1 y2 y3, LeO (kasai_ordered.l0 k y0 y1 y2 y3) (kasai_ordered.l0 (k + 1) y0 y1 y2 y3))
  | 0 => fun _ _ _ _ r h => by simp [kasai_ordered.l0] at h
  | k + 1 => by
    have ih0 := kasai_ordered.mono_l k
    · intro y0 y1 y2 y3
      unfold kasai_ordered.l0
      exact mB
theorem kasai_ordered.mono : ∀ a0 a1 a2 k, LeO (kasai_ordered.f k a0 a1 a2) (kasai_ordered.f (k + 1) a0 a1 a2) := by
  intro a0 a1 a2 k
  have ih0 := kasai_ordered.mono_l k
  unfold kasai_ordered.f
  exact mB
theorem kasai_ordered.calls (k : Nat) (A0 : Option Addr) (c0 : Nat) (l0 : List Int) (A1 : Option Addr) (c1 : Nat) (l1 : List Int) (A2 : Option Addr) (c2 : Nat) (l2 : List Int) (r : Bool) (w : World) (hr0 : Kd.C (Kd.int .u8) w A0 l0.length l0) (hc0 : l0.length ≤ c0) (hr1 : Kd.C (Kd.int .i64) w A1 l1.length l1) (hc1 : l1.length ≤ c1) (hr2 : Kd.C (Kd.int .i64) w A2 l2.length l2) (hc2 : l2.length ≤ c2) (h : kasai_ordered.f k l0 l1 l2 = some r) :
    Calls Tryz.prog 80 #[.slice A0 l0.length c0, .slice A1 l1.length c1, .slice A2 l2.length c2] w fun e w' => e = .returned (.bool r) ∧ Drawn0 w w' := by
 have HR0 := Aside0.mk hr0
 have HC0 := Aside0.mk hc0
 clear hr0 hc0
 have HR1 := Aside0.mk hr1
 have HC1 := Aside0.mk hc1
 clear hr1 hc1
 have HR2 := Aside0.mk hr2
 have HC2 := Aside0.mk hc2
 clear hr2 hc2
 have H := h
 clear h
 unfold kasai_ordered.f at H
 have H' := Aside0.mk H
 clear H
 go_enter Tryz.func80, Tryz.ntmps80
 go_wp2
 repeat (go_quiet (fail); try go_wp2)
 go_loopg [7] k (fun kq v7 w' => ∃ (x7_1 : Int), v7 = .int .i64 x7_1 ∧ Aside0 (kasai_ordered.l0 kq l0 l1 l2 x7_1 = some r) ∧ Aside0 (kq ≤ k) ∧ Drawn0 w w')
 case atStart => exact ⟨(1), sD, H', ⟨Nat.le_refl _⟩, dD⟩
 case round =>
  clear H'
  obtain ⟨x7_1, rfl, HA, HK1, ⟨m1, rfl⟩⟩ := hrel
  cases gk with
  | zero => exact absurd HA.out (by simp [kasai_ordered.l0])
  | succ k1 =>
   have H := HA.out
   clear HA
   simp only [kasai_ordered.l0] at H
   rcases ifC H with ⟨c4b0, H⟩ | ⟨c4b0, H⟩
   ·obtain ⟨ji5, hji5⟩ : ∃ j_ : Int, (wrap64 (x7_1 - 1)) = j_ := ⟨_, rfl⟩
    first | rw [hji5] at H | simp only [hji5] at H
    have hji5w : (IntKind.i64.wrap (x7_1 - 1)) = ji5 := (i64_w _).trans hji5
    obtain ⟨c6b0, H⟩ := ifD H
    obtain ⟨c7b0, c8b0, H⟩ := ifD2 H
    obtain ⟨c9b0, c10b0, H⟩ := ifD2 H
    obtain ⟨c11b0, c12b0, H⟩ := ifD2 H
    rcases ifK H with ⟨c13b0, H⟩ | ⟨c13b0, H⟩
    ·obtain rfl := Option.some.inj H
     obtain ⟨ad462, e462, hx462_0, p462, q462⟩ := rI HR1.out (ji5)
     cases e462
     obtain ⟨ad463, e463, hx463_0, p463, q463⟩ := rI HR1.out x7_1
     obtain rfl : ad462 = ad463 := (by injection e463)
     obtain ⟨ad464, e464, hx464_0, p464, q464⟩ := rI HR0.out (rd l1 (ji5))
     cases e464
     obtain ⟨ad465, e465, hx465_0, p465, q465⟩ := rI HR0.out (rd l1 x7_1)
     obtain rfl : ad464 = ad465 := (by injection e465)
     go_wp2
     repeat (go_quiet (fail); try go_wp2)
     go_ret
     exact ⟨by first | rfl | (simp; done) | (simp only [← hji5] <;> (first | rfl | simp)) | (simp [*]; done), dD⟩
    ·by_cases c14 : (rd l0 (rd l1 (ji5))) = (rd l0 (rd l1 x7_1))
     ·rw [if_pos c14] at H
      have c14b0 : ((rd l0 (rd l1 (ji5))) == (rd l0 (rd l1 x7_1))) = true := beq_iff_eq.mpr c14
      have c14b1 : ((rd l0 (rd l1 (ji5))) != (rd l0 (rd l1 x7_1))) = false := bne_eq_false_iff_eq.mpr c14
      clear c14
      obtain ⟨t468, A15, H⟩ := bdS H
      try dsimp only at H
      obtain ⟨t469, A16, H⟩ := bdS H
      try dsimp only at H
      rcases ifK H with ⟨c17b0, H⟩ | ⟨c17b0, H⟩
      ·obtain rfl := Option.some.inj H
       obtain ⟨ad462, e462, hx462_0, p462, q462⟩ := rI HR1.out (ji5)
       cases e462
       obtain ⟨ad463, e463, hx463_0, p463, q463⟩ := rI HR1.out x7_1
       obtain rfl : ad462 = ad463 := (by injection e463)
       obtain ⟨ad464, e464, hx464_0, p464, q464⟩ := rI HR0.out (rd l1 (ji5))
       cases e464
       obtain ⟨ad465, e465, hx465_0, p465, q465⟩ := rI HR0.out (rd l1 x7_1)
       obtain rfl : ad464 = ad465 := (by injection e465)
       obtain ⟨ad466, e466, hx466_0, p466, q466⟩ := rI HR0.out (rd l1 (ji5))
       obtain rfl : ad464 = ad466 := (by injection e466)
       obtain ⟨ad467, e467, hx467_0, p467, q467⟩ := rI HR0.out (rd l1 x7_1)
       obtain rfl : ad464 = ad467 := (by injection e467)
       go_wp2_with (first | (go_at_call 97; (with_reducible refine (kasai_behind.calls _ _ l2 (rd l1 (ji5)) t468 _ ?side1 ?side2 A15.out).mono ?_); (case side1 => exact uC HR2.out); (case side2 => exact HC2.out); rintro e w' ⟨rfl, ⟨nd, rfl⟩⟩; (try first | exact ⟨rfl, _, World.drewN_drewN _ _ _⟩ | exact ⟨rfl, _, Eq.trans (World.drewN_drewN _ _ _) (congrArg (World.drewN _) (Nat.add_assoc _ _ _))⟩)) | (go_at_call 97; (with_reducible refine (kasai_behind.calls _ _ l2 (rd l1 x7_1) t469 _ ?side1 ?side2 A16.out).mono ?_); (case side1 => exact uC HR2.out); (case side2 => exact HC2.out); rintro e w' ⟨rfl, ⟨nd, rfl⟩⟩; (try first | exact ⟨rfl, _, World.drewN_drewN _ _ _⟩ | exact ⟨rfl, _, Eq.trans (World.drewN_drewN _ _ _) (congrArg (World.drewN _) (Nat.add_assoc _ _ _))⟩)))
       repeat (go_quiet (first | (go_at_call 97; (with_reducible refine (kasai_behind.calls _ _ l2 (rd l1 (ji5)) t468 _ ?side1 ?side2 A15.out).mono ?_); (case side1 => exact uC HR2.out); (case side2 => exact HC2.out); rintro e w' ⟨rfl, ⟨nd, rfl⟩⟩; (try first | exact ⟨rfl, _, World.drewN_drewN _ _ _⟩ | exact ⟨rfl, _, Eq.trans (World.drewN_drewN _ _ _) (congrArg (World.drewN _) (Nat.add_assoc _ _ _))⟩)) | (go_at_call 97; (with_reducible refine (kasai_behind.calls _ _ l2 (rd l1 x7_1) t469 _ ?side1 ?side2 A16.out).mono ?_); (case side1 => exact uC HR2.out); (case side2 => exact HC2.out); rintro e w' ⟨rfl, ⟨nd, rfl⟩⟩; (try first | exact ⟨rfl, _, World.drewN_drewN _ _ _⟩ | exact ⟨rfl, _, Eq.trans (World.drewN_drewN _ _ _) (congrArg (World.drewN _) (Nat.add_assoc _ _ _))⟩))); try go_wp2_with (first | (go_at_call 97; (with_reducible refine (kasai_behind.calls _ _ l2 (rd l1 (ji5)) t468 _ ?side1 ?side2 A15.out).mono ?_); (case side1 => exact uC HR2.out); (case side2 => exact HC2.out); rintro e w' ⟨rfl, ⟨nd, rfl⟩⟩; (try first | exact ⟨rfl, _, World.drewN_drewN _ _ _⟩ | exact ⟨rfl, _, Eq.trans (World.drewN_drewN _ _ _) (congrArg (World.drewN _) (Nat.add_assoc _ _ _))⟩)) | (go_at_call 97; (with_reducible refine (kasai_behind.calls _ _ l2 (rd l1 x7_1) t469 _ ?side1 ?side2 A16.out).mono ?_); (case side1 => exact uC HR2.out); (case side2 => exact HC2.out); rintro e w' ⟨rfl, ⟨nd, rfl⟩⟩; (try first | exact ⟨rfl, _, World.drewN_drewN _ _ _⟩ | exact ⟨rfl, _, Eq.trans (World.drewN_drewN _ _ _) (congrArg (World.drewN _) (Nat.add_assoc _ _ _))⟩))))
       go_ret
       exact ⟨by first | rfl | (simp; done) | (simp only [← hji5] <;> (first | rfl | simp)) | (simp [*]; done), dD⟩
      ·have H' := Aside0.mk H
       clear H
       obtain ⟨ad462, e462, hx462_0, p462, q462⟩ := rI HR1.out (ji5)
       cases e462
       obtain ⟨ad463, e463, hx463_0, p463, q463⟩ := rI HR1.out x7_1
       obtain rfl : ad462 = ad463 := (by injection e463)
       obtain ⟨ad464, e464, hx464_0, p464, q464⟩ := rI HR0.out (rd l1 (ji5))
       cases e464
       obtain ⟨ad465, e465, hx465_0, p465, q465⟩ := rI HR0.out (rd l1 x7_1)
       obtain rfl : ad464 = ad465 := (by injection e465)
       obtain ⟨ad466, e466, hx466_0, p466, q466⟩ := rI HR0.out (rd l1 (ji5))
       obtain rfl : ad464 = ad466 := (by injection e466)
       obtain ⟨ad467, e467, hx467_0, p467, q467⟩ := rI HR0.out (rd l1 x7_1)
       obtain rfl : ad464 = ad467 := (by injection e467)
       go_wp2_with (first | (go_at_call 97; (with_reducible refine (kasai_behind.calls _ _ l2 (rd l1 (ji5)) t468 _ ?side1 ?side2 A15.out).mono ?_); (case side1 => exact uC HR2.out); (case side2 => exact HC2.out); rintro e w' ⟨rfl, ⟨nd, rfl⟩⟩; (try first | exact ⟨rfl, _, World.drewN_drewN _ _ _⟩ | exact ⟨rfl, _, Eq.trans (World.drewN_drewN _ _ _) (congrArg (World.drewN _) (Nat.add_assoc _ _ _))⟩)) | (go_at_call 97; (with_reducible refine (kasai_behind.calls _ _ l2 (rd l1 x7_1) t469 _ ?side1 ?side2 A16.out).mono ?_); (case side1 => exact uC HR2.out); (case side2 => exact HC2.out); rintro e w' ⟨rfl, ⟨nd, rfl⟩⟩; (try first | exact ⟨rfl, _, World.drewN_drewN _ _ _⟩ | exact ⟨rfl, _, Eq.trans (World.drewN_drewN _ _ _) (congrArg (World.drewN _) (Nat.add_assoc _ _ _))⟩)))
       repeat (go_quiet (first | (go_at_call 97; (with_reducible refine (kasai_behind.calls _ _ l2 (rd l1 (ji5)) t468 _ ?side1 ?side2 A15.out).mono ?_); (case side1 => exact uC HR2.out); (case side2 => exact HC2.out); rintro e w' ⟨rfl, ⟨nd, rfl⟩⟩; (try first | exact ⟨rfl, _, World.drewN_drewN _ _ _⟩ | exact ⟨rfl, _, Eq.trans (World.drewN_drewN _ _ _) (congrArg (World.drewN _) (Nat.add_assoc _ _ _))⟩)) | (go_at_call 97; (with_reducible refine (kasai_behind.calls _ _ l2 (rd l1 x7_1) t469 _ ?side1 ?side2 A16.out).mono ?_); (case side1 => exact uC HR2.out); (case side2 => exact HC2.out); rintro e w' ⟨rfl, ⟨nd, rfl⟩⟩; (try first | exact ⟨rfl, _, World.drewN_drewN _ _ _⟩ | exact ⟨rfl, _, Eq.trans (World.drewN_drewN _ _ _) (congrArg (World.drewN _) (Nat.add_assoc _ _ _))⟩))); try go_wp2_with (first | (go_at_call 97; (with_reducible refine (kasai_behind.calls _ _ l2 (rd l1 (ji5)) t468 _ ?side1 ?side2 A15.out).mono ?_); (case side1 => exact uC HR2.out); (case side2 => exact HC2.out); rintro e w' ⟨rfl, ⟨nd, rfl⟩⟩; (try first | exact ⟨rfl, _, World.drewN_drewN _ _ _⟩ | exact ⟨rfl, _, Eq.trans (World.drewN_drewN _ _ _) (congrArg (World.drewN _) (Nat.add_assoc _ _ _))⟩)) | (go_at_call 97; (with_reducible refine (kasai_behind.calls _ _ l2 (rd l1 x7_1) t469 _ ?side1 ?side2 A16.out).mono ?_); (case side1 => exact uC HR2.out); (case side2 => exact HC2.out); rintro e w' ⟨rfl, ⟨nd, rfl⟩⟩; (try first | exact ⟨rfl, _, World.drewN_drewN _ _ _⟩ | exact ⟨rfl, _, Eq.trans (World.drewN_drewN _ _ _) (congrArg (World.drewN _) (Nat.add_assoc _ _ _))⟩))))
       go_roundg k1
       case measure => have := HK1.out; omega
       case rel => exact ⟨(wrap64 (x7_1 + 1)), sD, H', ⟨by have := HK1.out; omega⟩, dD⟩
     ·rw [if_neg c14] at H
      have c14b0 : ((rd l0 (rd l1 (ji5))) == (rd l0 (rd l1 x7_1))) = false := beq_eq_false_iff_ne.mpr c14
      have c14b1 : ((rd l0 (rd l1 (ji5))) != (rd l0 (rd l1 x7_1))) = true := bne_iff_ne.mpr c14
      have H' := Aside0.mk H
      clear H
      obtain ⟨ad462, e462, hx462_0, p462, q462⟩ := rI HR1.out (ji5)
      cases e462
      obtain ⟨ad463, e463, hx463_0, p463, q463⟩ := rI HR1.out x7_1
      obtain rfl : ad462 = ad463 := (by injection e463)
      obtain ⟨ad464, e464, hx464_0, p464, q464⟩ := rI HR0.out (rd l1 (ji5))
      cases e464
      obtain ⟨ad465, e465, hx465_0, p465, q465⟩ := rI HR0.out (rd l1 x7_1)
      obtain rfl : ad464 = ad465 := (by injection e465)
      obtain ⟨ad466, e466, hx466_0, p466, q466⟩ := rI HR0.out (rd l1 (ji5))
      obtain rfl : ad464 = ad466 := (by injection e466)
      obtain ⟨ad467, e467, hx467_0, p467, q467⟩ := rI HR0.out (rd l1 x7_1)
      obtain rfl : ad464 = ad467 := (by injection e467)
      go_wp2
      repeat (go_quiet (fail); try go_wp2)
      go_roundg k1
      case measure => have := HK1.out; omega
      case rel => exact ⟨(wrap64 (x7_1 + 1)), sD, H', ⟨by have := HK1.out; omega⟩, dD⟩
   ·obtain rfl := Option.some.inj H
    go_wp2
    repeat (go_quiet (fail); try go_wp2)
    go_ret
    exact ⟨sD, dD⟩
mutual
def kasai_quick.l0 : Nat → List Int → List Int → List Int → Int → List Int → Int → Int → Option (List Int)
  | 0, _, _, _, _, _, _, _ => none
  | k + 1, x0, x1, x7, x8, x15, x16, x17 => if x17 < x16 then (if 0 ≤ x17 then (if x17 < (x15.length : Int) then (if (rd x15 x17) = 0 then (kasai_quick.l0 k x0 x1 x7 0 x15 x16 (wrap64 (x17 + 1))) else (if 0 ≤ (wrap64 ((rd x15 x17) - 1)) then (if (wrap64 ((rd x15 x17) - 1)) < (x1.length : Int) then (kasai_quick.l1 k x0 x1 x7 x8 x17 (rd x15 x17) (rd x1 (wrap64 ((rd x15 x17) - 1))) x15 x16 x17) else (none)) else (none))) else (none)) else (none)) else (some x7)
def kasai_quick.l1 : Nat → List Int → List Int → List Int → Int → Int → Int → Int → List Int → Int → Int → Option (List Int)
  | 0, _, _, _, _, _, _, _, _, _, _ => none
  | k + 1, x0, x1, x7, x8, x9, x10, x11, x15, x16, x17 => if (wrap64 ((mx x9 x11) + x8)) < (x0.length : Int) then (if 0 ≤ (wrap64 (x9 + x8)) then (if (wrap64 (x9 + x8)) < (x0.length : Int) then (if 0 ≤ (wrap64 (x11 + x8)) then (if (wrap64 (x11 + x8)) < (x0.length : Int) then (if (rd x0 (wrap64 (x9 + x8))) = (rd x0 (wrap64 (x11 + x8))) then (kasai_quick.l1 k x0 x1 x7 (wrap64 (x8 + 1)) x9 x10 x11 x15 x16 x17) else (if 0 ≤ x10 then (if x10 < (x7.length : Int) then (kasai_quick.l0 k x0 x1 (x7.set (x10 : Int).toNat x8) (mx (wrap64 (x8 - 1)) 0) x15 x16 (wrap64 (x17 + 1))) else (none)) else (none))) else (none)) else (none)) else (none)) else (none)) else (if 0 ≤ x10 then (if x10 < (x7.length : Int) then (kasai_quick.l0 k x0 x1 (x7.set (x10 : Int).toNat x8) (mx (wrap64 (x8 - 1)) 0) x15 x16 (wrap64 (x17 + 1))) else (none)) else (none))
end
def kasai_quick.f (k : Nat) (l0 : List Int) (l1 : List Int) (l2 : List Int) : Option (List Int) := if 0 ≤ (l1.length : Int) then (if ((l1.length : Int) : Int).toNat ≤ 35184372088832 then (kasai_quick.l0 k l0 l1 (List.replicate ((l1.length : Int) : Int).toNat 0) 0 l2 (l2.length : Int) 0) else (none)) else (none)
theorem kasai_quick.mono_l : ∀ k, (∀ y0 y1 y2 y3 y4 y5 y6, LeO (kasai_quick.l0 k y0 y1 y2 y3 y4 y5 y6) (kasai_quick.l0 (k + 1) y0 y1 y2 y3 y4 y5 y6)) ∧ (∀ y0 y1 y2 y3 y4 y5 y6 y7 y8 y9, LeO (kasai_quick.l1 k y0 y1 y2 y3 y4 y5 y6 y7 y8 y9) (kasai_quick.l1 (k + 1) y0 y1 y2 y3 y4 y5 y6 y7 y8 y9))
  | 0 => ⟨fun _ _ _ _ _ _ _ r h => by simp [kasai_quick.l0] at h, fun _ _ _ _ _ _ _ _ _ _ r h => by simp [kasai_quick.l1] at h⟩
  | k + 1 => by
    obtain ⟨ih0, ih1⟩ := kasai_quick.mono_l k
    refine ⟨?_, ?_⟩
    · intro y0 y1 y2 y3 y4 y5 y6
      unfold kasai_quick.l0
      exact mB
    · intro y0 y1 y2 y3 y4 y5 y6 y7 y8 y9
      unfold kasai_quick.l1
      exact mB
theorem kasai_quick.mono : ∀ a0 a1 a2 k, LeO (kasai_quick.f k a0 a1 a2) (kasai_quick.f (k + 1) a0 a1 a2) := by
  intro a0 a1 a2 k
  obtain ⟨ih0, ih1⟩ := kasai_quick.mono_l k
  unfold kasai_quick.f
  exact mB
theorem kasai_quick.calls (k : Nat) (A0 : Option Addr) (c0 : Nat) (l0 : List Int) (A1 : Option Addr) (c1 : Nat) (l1 : List Int) (A2 : Option Addr) (c2 : Nat) (l2 : List Int) (r : List Int) (w : World) (hr0 : Kd.C (Kd.int .u8) w A0 l0.length l0) (hc0 : l0.length ≤ c0) (hr1 : Kd.C (Kd.int .i64) w A1 l1.length l1) (hc1 : l1.length ≤ c1) (hr2 : Kd.C (Kd.int .i64) w A2 l2.length l2) (hc2 : l2.length ≤ c2) (h : kasai_quick.f k l0 l1 l2 = some r) :
    Calls Tryz.prog 81 #[.slice A0 l0.length c0, .slice A1 l1.length c1, .slice A2 l2.length c2] w fun e w' => ∃ v0_ : Value, e = .returned (v0_) ∧ Kd.R (Kd.int .i64) 3 w' w.heap.size (fun _ => True) v0_ r ∧ Below w.heap.size w w' := by
 have HR0 := Aside0.mk hr0
 have HC0 := Aside0.mk hc0
 clear hr0 hc0
 have HR1 := Aside0.mk hr1
 have HC1 := Aside0.mk hc1
 clear hr1 hc1
 have HR2 := Aside0.mk hr2
 have HC2 := Aside0.mk hc2
 clear hr2 hc2
 have HB := Aside0.mk (Below.refl w.heap.size w)
 have H := h
 clear h
 unfold kasai_quick.f at H
 obtain ⟨c4b0, c4b1, H⟩ := ifE H
 obtain ⟨c5b0, c5b1, H⟩ := ifE H
 generalize hy470 : (List.replicate ((l1.length : Int) : Int).toNat 0 : List Int) = y470 at H
 try simp only [Option.bind_some] at H
 have Ny470 := Aside0.mk hy470.symm
 clear hy470
 have H' := Aside0.mk H
 clear H
 go_enter Tryz.func81, Tryz.ntmps81
 go_wp2_with (first | ((with_reducible refine gate_dst (N := 14) rfl ?_); refine Kd.R_make (Kd.int .i64) _ 3 rfl (N := 14) rfl 29 _ _ rfl (l1.length : Int) rfl rfl Tryz.underlying29 (.int .i64 0) 8 info3 rfl (by decide) (by omega) 0 (ok := fun _ => True) (okp := fun _ => True) rfl (fun _ hk => hk) trivial dT (Nat.le_trans (Nat.mul_le_mul_right _ (dT : (l1.length : Int).toNat ≤ 35184372088832)) (by omega)) (Below.refl _ _) (Nat.le_refl _) ?_; intro v471 w6 ho7 hb hg_ hnew_; clear hg_ hnew_; (first | rw [← Ny470.out] at ho7 | (simp only [Int.reduceToNat] at ho7; rw [← Ny470.out] at ho7)); have n0_ := Aside0.mk (Kd.R_lower ho7 (below_size uB)); have n1_ := Aside0.mk (below_step uB hb); clear HB; have HO472 := n0_; have HB := n1_; clear n0_ n1_; clear hb ho7))
 repeat (go_quiet (first | ((with_reducible refine gate_dst (N := 14) rfl ?_); refine Kd.R_make (Kd.int .i64) _ 3 rfl (N := 14) rfl 29 _ _ rfl (l1.length : Int) rfl rfl Tryz.underlying29 (.int .i64 0) 8 info3 rfl (by decide) (by omega) 0 (ok := fun _ => True) (okp := fun _ => True) rfl (fun _ hk => hk) trivial dT (Nat.le_trans (Nat.mul_le_mul_right _ (dT : (l1.length : Int).toNat ≤ 35184372088832)) (by omega)) (Below.refl _ _) (Nat.le_refl _) ?_; intro v471 w6 ho7 hb hg_ hnew_; clear hg_ hnew_; (first | rw [← Ny470.out] at ho7 | (simp only [Int.reduceToNat] at ho7; rw [← Ny470.out] at ho7)); have n0_ := Aside0.mk (Kd.R_lower ho7 (below_size uB)); have n1_ := Aside0.mk (below_step uB hb); clear HB; have HO472 := n0_; have HB := n1_; clear n0_ n1_; clear hb ho7)); try go_wp2_with (first | ((with_reducible refine gate_dst (N := 14) rfl ?_); refine Kd.R_make (Kd.int .i64) _ 3 rfl (N := 14) rfl 29 _ _ rfl (l1.length : Int) rfl rfl Tryz.underlying29 (.int .i64 0) 8 info3 rfl (by decide) (by omega) 0 (ok := fun _ => True) (okp := fun _ => True) rfl (fun _ hk => hk) trivial dT (Nat.le_trans (Nat.mul_le_mul_right _ (dT : (l1.length : Int).toNat ≤ 35184372088832)) (by omega)) (Below.refl _ _) (Nat.le_refl _) ?_; intro v471 w6 ho7 hb hg_ hnew_; clear hg_ hnew_; (first | rw [← Ny470.out] at ho7 | (simp only [Int.reduceToNat] at ho7; rw [← Ny470.out] at ho7)); have n0_ := Aside0.mk (Kd.R_lower ho7 (below_size uB)); have n1_ := Aside0.mk (below_step uB hb); clear HB; have HO472 := n0_; have HB := n1_; clear n0_ n1_; clear hb ho7)))
 go_loopg [8, 17] k (fun kq v8 v17 w' => ∃ (x7_1 : List Int) (x8_1 : Int) (x17_1 : Int), v8 = .int .i64 x8_1 ∧ v17 = .int .i64 x17_1 ∧ Aside0 (kasai_quick.l0 kq l0 l1 x7_1 x8_1 l2 (l2.length : Int) x17_1 = some r) ∧ Aside0 (kq ≤ k) ∧ Aside0 (Kd.R (Kd.int .i64) 3 w' w.heap.size (fun _ => True) v471 x7_1) ∧ Aside0 (Below w.heap.size w w'))
 case atStart => exact ⟨(y470), (0), (0), sD, sD, H', ⟨Nat.le_refl _⟩, ⟨uR HO472.out⟩, ⟨uB⟩⟩
 case round =>
  clear H'
  obtain ⟨x7_1, x8_1, x17_1, rfl, rfl, HA, HK1, HO_7, HB⟩ := hrel
  cases gk with
  | zero => exact absurd HA.out (by simp [kasai_quick.l0])
  | succ k1 =>
   have H := HA.out
   clear HA
   simp only [kasai_quick.l0] at H
   rcases ifC H with ⟨c8b0, H⟩ | ⟨c8b0, H⟩
   ·obtain ⟨c9b0, c10b0, H⟩ := ifD2 H
    by_cases c11 : (rd l2 x17_1) = 0
    ·rw [if_pos c11] at H
     have c11b0 : ((rd l2 x17_1) == 0) = true := beq_iff_eq.mpr c11
     have c11b1 : ((rd l2 x17_1) != 0) = false := bne_eq_false_iff_eq.mpr c11
     clear c11
     have H' := Aside0.mk H
     clear H
     obtain ⟨ad473, e473, hx473_0, p473, q473⟩ := rIO HB.out HR2.out x17_1
     cases e473
     go_wp2
     repeat (go_quiet (fail); try go_wp2)
     go_roundg k1
     case measure => have := HK1.out; omega
     case rel => exact ⟨(x7_1), (0), (wrap64 (x17_1 + 1)), sD, sD, H', ⟨by have := HK1.out; omega⟩, ⟨uR HO_7.out⟩, ⟨uB⟩⟩
    ·rw [if_neg c11] at H
     have c11b0 : ((rd l2 x17_1) == 0) = false := beq_eq_false_iff_ne.mpr c11
     have c11b1 : ((rd l2 x17_1) != 0) = true := bne_iff_ne.mpr c11
     obtain ⟨ji12, hji12⟩ : ∃ j_ : Int, (wrap64 ((rd l2 x17_1) - 1)) = j_ := ⟨_, rfl⟩
     first | rw [hji12] at H | simp only [hji12] at H
     have hji12w : (IntKind.i64.wrap ((rd l2 x17_1) - 1)) = ji12 := (i64_w _).trans hji12
     obtain ⟨c13b0, c14b0, H⟩ := ifD2 H
     have H' := Aside0.mk H
     clear H
     obtain ⟨ad473, e473, hx473_0, p473, q473⟩ := rIO HB.out HR2.out x17_1
     cases e473
     obtain ⟨ad474, e474, hx474_0, p474, q474⟩ := rIO HB.out HR1.out (ji12)
     cases e474
     go_wp2
     repeat (go_quiet (fail); try go_wp2)
     go_loopg [8] k1 (fun kq v8 w' => ∃ (x8_2 : Int), v8 = .int .i64 x8_2 ∧ Aside0 (kasai_quick.l1 kq l0 l1 x7_1 x8_2 x17_1 (rd l2 x17_1) (rd l1 (ji12)) l2 (l2.length : Int) x17_1 = some r) ∧ Aside0 (kq ≤ k1) ∧ Aside0 (Kd.R (Kd.int .i64) 3 w' w.heap.size (fun _ => True) v471 x7_1) ∧ Aside0 (Below w.heap.size w w'))
     case atStart => exact ⟨(x8_1), sD, H', ⟨Nat.le_refl _⟩, ⟨uR HO_7.out⟩, ⟨uB⟩⟩
     case round =>
      clear H'
      obtain ⟨x8_2, rfl, HA, HK2, HO_7, HB⟩ := hrel
      cases gk with
      | zero => exact absurd HA.out (by simp [kasai_quick.l1])
      | succ k2 =>
       have H := HA.out
       clear HA
       simp only [kasai_quick.l1] at H
       obtain ⟨ji15, hji15⟩ : ∃ j_ : Int, (mx x17_1 (rd l1 (ji12))) = j_ := ⟨_, rfl⟩
       first | rw [hji15] at H | simp only [hji15] at H
       have hji15_ : (if x17_1 < (rd l1 (ji12)) then (rd l1 (ji12)) else x17_1) = ji15 := hji15
       rcases ifC H with ⟨c16b0, H⟩ | ⟨c16b0, H⟩
       ·obtain ⟨ji17, hji17⟩ : ∃ j_ : Int, (wrap64 (x17_1 + x8_2)) = j_ := ⟨_, rfl⟩
        first | rw [hji17] at H | simp only [hji17] at H
        have hji17w : (IntKind.i64.wrap (x17_1 + x8_2)) = ji17 := (i64_w _).trans hji17
        obtain ⟨c18b0, c19b0, H⟩ := ifD2 H
        obtain ⟨ji20, hji20⟩ : ∃ j_ : Int, (wrap64 ((rd l1 (ji12)) + x8_2)) = j_ := ⟨_, rfl⟩
        first | rw [hji20] at H | simp only [hji20] at H
        have hji20w : (IntKind.i64.wrap ((rd l1 (ji12)) + x8_2)) = ji20 := (i64_w _).trans hji20
        obtain ⟨c21b0, c22b0, H⟩ := ifD2 H
        by_cases c23 : (rd l0 (ji17)) = (rd l0 (ji20))
        ·rw [if_pos c23] at H
         have c23b0 : ((rd l0 (ji17)) == (rd l0 (ji20))) = true := beq_iff_eq.mpr c23
         have c23b1 : ((rd l0 (ji17)) != (rd l0 (ji20))) = false := bne_eq_false_iff_eq.mpr c23
         clear c23
         have H' := Aside0.mk H
         clear H
         obtain ⟨ad475, e475, hx475_0, p475, q475⟩ := rIO HB.out HR0.out (ji17)
         cases e475
         obtain ⟨ad476, e476, hx476_0, p476, q476⟩ := rIO HB.out HR0.out (ji20)
         obtain rfl : ad475 = ad476 := (by injection e476)
         go_wp2
         repeat (go_quiet (fail); try go_wp2)
         go_roundg k2
         case measure => have := HK1.out; have := HK2.out; omega
         case rel => exact ⟨(wrap64 (x8_2 + 1)), sD, H', ⟨by have := HK1.out; have := HK2.out; omega⟩, ⟨uR HO_7.out⟩, ⟨uB⟩⟩
        ·rw [if_neg c23] at H
         have c23b0 : ((rd l0 (ji17)) == (rd l0 (ji20))) = false := beq_eq_false_iff_ne.mpr c23
         have c23b1 : ((rd l0 (ji17)) != (rd l0 (ji20))) = true := bne_iff_ne.mpr c23
         obtain ⟨c24b0, c25b0, H⟩ := ifD2 H
         generalize hy477 : (x7_1.set ((rd l2 x17_1) : Int).toNat x8_2 : List Int) = y477 at H
         try simp only [Option.bind_some] at H
         have Ny477 := Aside0.mk hy477.symm
         clear hy477
         obtain ⟨ji27, hji27⟩ : ∃ j_ : Int, (mx (wrap64 (x8_2 - 1)) 0) = j_ := ⟨_, rfl⟩
         first | rw [hji27] at H | simp only [hji27] at H
         have hji27_ : (if (wrap64 (x8_2 - 1)) < 0 then 0 else (wrap64 (x8_2 - 1))) = ji27 := hji27
         have H' := Aside0.mk H
         clear H
         obtain ⟨ad475, e475, hx475_0, p475, q475⟩ := rIO HB.out HR0.out (ji17)
         cases e475
         obtain ⟨ad476, e476, hx476_0, p476, q476⟩ := rIO HB.out HR0.out (ji20)
         obtain rfl : ad475 = ad476 := (by injection e476)
         have p26 : 0 ≤ ((rd l2 x17_1) : Int) := dT
         have q26 : ((rd l2 x17_1) : Int) < ((x7_1.length : Int) : Int) := dT
         obtain ⟨go26, co26, eo26, gb26, gl26, cl26, HG26⟩ := Kd.R_form HO_7.out (by omega)
         (first | cases eo26 | (injection eo26 with ea_ en_ ec_; (first | subst ea_ | (injection ea_ with ea_; subst ea_)); subst ec_; clear en_))
         have GB26 := Aside0.mk gb26
         have GG26 := Aside0.mk HG26
         clear gb26 gl26 HG26
         obtain ⟨hx26_0, hf26_0⟩ := Kd.R_celln 0 HO_7.out ((rd l2 x17_1) : Int) p26 q26
         replace p26 := eq_true p26
         replace q26 := eq_true q26
         have HP28 := Kd.R_putg HO_7.out ((rd l2 x17_1) : Int) x8_2
         go_wp2_with (first | ((with_reducible refine gate_store (t := 3) (p := 57) rfl ?_); (try (rw [drewN_self wr]; generalize hq_ : World.drewN wr _ = wr; have n0_ := Aside0.mk (Kd.R_at hq_ HO_7.out); have n1_ := Aside0.mk (below_at hq_ HB.out); clear hq_ HO_7 HB; have HO_7 := n0_; have HB := n1_; clear n0_ n1_; (try (have HP28 := Kd.R_putg HO_7.out ((rd l2 x17_1) : Int) x8_2)))); refine store_event (t := 3) (p := 57) (v := ?vo_w29) (w1 := (wr.setCell ⟨go26, ((rd l2 x17_1) : Int).toNat, none⟩ (.int .i64 x8_2))) ?hg ?ho ?hn ?hr ?_; (case ho => rfl); (case hg => rfl); (case hn => rfl); (case hr => first | (go_simp; done) | (go_simp; rfl)); intro w29 hw; have hg : wr.grownBy w29 (some go26) := (by rw [hw]; exact HP28.2); have hp_ : Kd.R (Kd.int .i64) 3 w29 w.heap.size (fun _ => True) (.slice (some ⟨go26, 0, none⟩) x7_1.length co26) y477 := (by rw [hw, Ny477.out]; exact HP28.1); clear HP28; have n0_ := Aside0.mk (hp_); have n1_ := Aside0.mk ((by rw [hw]; exact below_set (HB.out) GB26.out : Below w.heap.size w w29)); clear HO_7 HB; have HO_7 := n0_; have HB := n1_; clear n0_ n1_; clear hg hw hp_))
         repeat (go_quiet (first | ((with_reducible refine gate_store (t := 3) (p := 57) rfl ?_); (try (rw [drewN_self wr]; generalize hq_ : World.drewN wr _ = wr; have n0_ := Aside0.mk (Kd.R_at hq_ HO_7.out); have n1_ := Aside0.mk (below_at hq_ HB.out); clear hq_ HO_7 HB; have HO_7 := n0_; have HB := n1_; clear n0_ n1_; (try (have HP28 := Kd.R_putg HO_7.out ((rd l2 x17_1) : Int) x8_2)))); refine store_event (t := 3) (p := 57) (v := ?vo_w29) (w1 := (wr.setCell ⟨go26, ((rd l2 x17_1) : Int).toNat, none⟩ (.int .i64 x8_2))) ?hg ?ho ?hn ?hr ?_; (case ho => rfl); (case hg => rfl); (case hn => rfl); (case hr => first | (go_simp; done) | (go_simp; rfl)); intro w29 hw; have hg : wr.grownBy w29 (some go26) := (by rw [hw]; exact HP28.2); have hp_ : Kd.R (Kd.int .i64) 3 w29 w.heap.size (fun _ => True) (.slice (some ⟨go26, 0, none⟩) x7_1.length co26) y477 := (by rw [hw, Ny477.out]; exact HP28.1); clear HP28; have n0_ := Aside0.mk (hp_); have n1_ := Aside0.mk ((by rw [hw]; exact below_set (HB.out) GB26.out : Below w.heap.size w w29)); clear HO_7 HB; have HO_7 := n0_; have HB := n1_; clear n0_ n1_; clear hg hw hp_)); try go_wp2_with (first | ((with_reducible refine gate_store (t := 3) (p := 57) rfl ?_); (try (rw [drewN_self wr]; generalize hq_ : World.drewN wr _ = wr; have n0_ := Aside0.mk (Kd.R_at hq_ HO_7.out); have n1_ := Aside0.mk (below_at hq_ HB.out); clear hq_ HO_7 HB; have HO_7 := n0_; have HB := n1_; clear n0_ n1_; (try (have HP28 := Kd.R_putg HO_7.out ((rd l2 x17_1) : Int) x8_2)))); refine store_event (t := 3) (p := 57) (v := ?vo_w29) (w1 := (wr.setCell ⟨go26, ((rd l2 x17_1) : Int).toNat, none⟩ (.int .i64 x8_2))) ?hg ?ho ?hn ?hr ?_; (case ho => rfl); (case hg => rfl); (case hn => rfl); (case hr => first | (go_simp; done) | (go_simp; rfl)); intro w29 hw; have hg : wr.grownBy w29 (some go26) := (by rw [hw]; exact HP28.2); have hp_ : Kd.R (Kd.int .i64) 3 w29 w.heap.size (fun _ => True) (.slice (some ⟨go26, 0, none⟩) x7_1.length co26) y477 := (by rw [hw, Ny477.out]; exact HP28.1); clear HP28; have n0_ := Aside0.mk (hp_); have n1_ := Aside0.mk ((by rw [hw]; exact below_set (HB.out) GB26.out : Below w.heap.size w w29)); clear HO_7 HB; have HO_7 := n0_; have HB := n1_; clear n0_ n1_; clear hg hw hp_)))
         go_roundg k2
         case measure => have := HK1.out; have := HK2.out; omega
         case rel => exact ⟨(y477), (ji27), (wrap64 (x17_1 + 1)), (by first | rfl | (simp; done) | (simp only [← hji27] <;> (first | rfl | simp)) | (simp [*]; done)), sD, H', ⟨by have := HK1.out; have := HK2.out; omega⟩, ⟨by first | ((with_reducible repeat (first | apply Kd.R_alloc | apply Kd.R_drewN | apply Kd.R_drew)); exact HO_7.out) | (rw [Ny477.out]; exact (Kd.R_putg (Kd.R_drewN HO_7.out _) _ _).1) | (rw [Ny477.out]; exact (Kd.R_putg HO_7.out _ _).1)⟩, ⟨by first | ((repeat (first | (with_reducible first | exact HB.out | apply below_alloc | apply pw_below_drewN | apply below_drew1) | exact HB.out)); done) | exact Below.setCell (pw_below_drewN HB.out _) GB26.out _ | exact Below.setCell HB.out GB26.out _⟩⟩
       ·obtain ⟨c30b0, c31b0, H⟩ := ifD2 H
        generalize hy478 : (x7_1.set ((rd l2 x17_1) : Int).toNat x8_2 : List Int) = y478 at H
        try simp only [Option.bind_some] at H
        have Ny478 := Aside0.mk hy478.symm
        clear hy478
        obtain ⟨ji33, hji33⟩ : ∃ j_ : Int, (mx (wrap64 (x8_2 - 1)) 0) = j_ := ⟨_, rfl⟩
        first | rw [hji33] at H | simp only [hji33] at H
        have hji33_ : (if (wrap64 (x8_2 - 1)) < 0 then 0 else (wrap64 (x8_2 - 1))) = ji33 := hji33
        have H' := Aside0.mk H
        clear H
        have p32 : 0 ≤ ((rd l2 x17_1) : Int) := dT
        have q32 : ((rd l2 x17_1) : Int) < ((x7_1.length : Int) : Int) := dT
        obtain ⟨go32, co32, eo32, gb32, gl32, cl32, HG32⟩ := Kd.R_form HO_7.out (by omega)
        (first | cases eo32 | (injection eo32 with ea_ en_ ec_; (first | subst ea_ | (injection ea_ with ea_; subst ea_)); subst ec_; clear en_))
        have GB32 := Aside0.mk gb32
        have GG32 := Aside0.mk HG32
        clear gb32 gl32 HG32
        obtain ⟨hx32_0, hf32_0⟩ := Kd.R_celln 0 HO_7.out ((rd l2 x17_1) : Int) p32 q32
        replace p32 := eq_true p32
        replace q32 := eq_true q32
        have HP34 := Kd.R_putg HO_7.out ((rd l2 x17_1) : Int) x8_2
        go_wp2_with (first | ((with_reducible refine gate_store (t := 3) (p := 57) rfl ?_); (try (rw [drewN_self wr]; generalize hq_ : World.drewN wr _ = wr; have n0_ := Aside0.mk (Kd.R_at hq_ HO_7.out); have n1_ := Aside0.mk (below_at hq_ HB.out); clear hq_ HO_7 HB; have HO_7 := n0_; have HB := n1_; clear n0_ n1_; (try (have HP34 := Kd.R_putg HO_7.out ((rd l2 x17_1) : Int) x8_2)))); refine store_event (t := 3) (p := 57) (v := ?vo_w35) (w1 := (wr.setCell ⟨go32, ((rd l2 x17_1) : Int).toNat, none⟩ (.int .i64 x8_2))) ?hg ?ho ?hn ?hr ?_; (case ho => rfl); (case hg => rfl); (case hn => rfl); (case hr => first | (go_simp; done) | (go_simp; rfl)); intro w35 hw; have hg : wr.grownBy w35 (some go32) := (by rw [hw]; exact HP34.2); have hp_ : Kd.R (Kd.int .i64) 3 w35 w.heap.size (fun _ => True) (.slice (some ⟨go32, 0, none⟩) x7_1.length co32) y478 := (by rw [hw, Ny478.out]; exact HP34.1); clear HP34; have n0_ := Aside0.mk (hp_); have n1_ := Aside0.mk ((by rw [hw]; exact below_set (HB.out) GB32.out : Below w.heap.size w w35)); clear HO_7 HB; have HO_7 := n0_; have HB := n1_; clear n0_ n1_; clear hg hw hp_))
        repeat (go_quiet (first | ((with_reducible refine gate_store (t := 3) (p := 57) rfl ?_); (try (rw [drewN_self wr]; generalize hq_ : World.drewN wr _ = wr; have n0_ := Aside0.mk (Kd.R_at hq_ HO_7.out); have n1_ := Aside0.mk (below_at hq_ HB.out); clear hq_ HO_7 HB; have HO_7 := n0_; have HB := n1_; clear n0_ n1_; (try (have HP34 := Kd.R_putg HO_7.out ((rd l2 x17_1) : Int) x8_2)))); refine store_event (t := 3) (p := 57) (v := ?vo_w35) (w1 := (wr.setCell ⟨go32, ((rd l2 x17_1) : Int).toNat, none⟩ (.int .i64 x8_2))) ?hg ?ho ?hn ?hr ?_; (case ho => rfl); (case hg => rfl); (case hn => rfl); (case hr => first | (go_simp; done) | (go_simp; rfl)); intro w35 hw; have hg : wr.grownBy w35 (some go32) := (by rw [hw]; exact HP34.2); have hp_ : Kd.R (Kd.int .i64) 3 w35 w.heap.size (fun _ => True) (.slice (some ⟨go32, 0, none⟩) x7_1.length co32) y478 := (by rw [hw, Ny478.out]; exact HP34.1); clear HP34; have n0_ := Aside0.mk (hp_); have n1_ := Aside0.mk ((by rw [hw]; exact below_set (HB.out) GB32.out : Below w.heap.size w w35)); clear HO_7 HB; have HO_7 := n0_; have HB := n1_; clear n0_ n1_; clear hg hw hp_)); try go_wp2_with (first | ((with_reducible refine gate_store (t := 3) (p := 57) rfl ?_); (try (rw [drewN_self wr]; generalize hq_ : World.drewN wr _ = wr; have n0_ := Aside0.mk (Kd.R_at hq_ HO_7.out); have n1_ := Aside0.mk (below_at hq_ HB.out); clear hq_ HO_7 HB; have HO_7 := n0_; have HB := n1_; clear n0_ n1_; (try (have HP34 := Kd.R_putg HO_7.out ((rd l2 x17_1) : Int) x8_2)))); refine store_event (t := 3) (p := 57) (v := ?vo_w35) (w1 := (wr.setCell ⟨go32, ((rd l2 x17_1) : Int).toNat, none⟩ (.int .i64 x8_2))) ?hg ?ho ?hn ?hr ?_; (case ho => rfl); (case hg => rfl); (case hn => rfl); (case hr => first | (go_simp; done) | (go_simp; rfl)); intro w35 hw; have hg : wr.grownBy w35 (some go32) := (by rw [hw]; exact HP34.2); have hp_ : Kd.R (Kd.int .i64) 3 w35 w.heap.size (fun _ => True) (.slice (some ⟨go32, 0, none⟩) x7_1.length co32) y478 := (by rw [hw, Ny478.out]; exact HP34.1); clear HP34; have n0_ := Aside0.mk (hp_); have n1_ := Aside0.mk ((by rw [hw]; exact below_set (HB.out) GB32.out : Below w.heap.size w w35)); clear HO_7 HB; have HO_7 := n0_; have HB := n1_; clear n0_ n1_; clear hg hw hp_)))
        go_roundg k2
        case measure => have := HK1.out; have := HK2.out; omega
        case rel => exact ⟨(y478), (ji33), (wrap64 (x17_1 + 1)), (by first | rfl | (simp; done) | (simp only [← hji33] <;> (first | rfl | simp)) | (simp [*]; done)), sD, H', ⟨by have := HK1.out; have := HK2.out; omega⟩, ⟨by first | ((with_reducible repeat (first | apply Kd.R_alloc | apply Kd.R_drewN | apply Kd.R_drew)); exact HO_7.out) | (rw [Ny478.out]; exact (Kd.R_putg (Kd.R_drewN HO_7.out _) _ _).1) | (rw [Ny478.out]; exact (Kd.R_putg HO_7.out _ _).1)⟩, ⟨by first | ((repeat (first | (with_reducible first | exact HB.out | apply below_alloc | apply pw_below_drewN | apply below_drew1) | exact HB.out)); done) | exact Below.setCell (pw_below_drewN HB.out _) GB32.out _ | exact Below.setCell HB.out GB32.out _⟩⟩
   ·obtain rfl := Option.some.inj H
    go_wp2
    repeat (go_quiet (fail); try go_wp2)
    go_ret
    exact ⟨_, eR, uR HO_7.out, uB⟩
def lex_isEnding.f (l0 : List Int) (a1 : Int) : Option (Bool) := if a1 ≥ 0 then (some (decide (a1 ≤ (l0.length : Int)))) else (some false)
theorem lex_isEnding.calls (A0 : Option Addr) (c0 : Nat) (l0 : List Int) (a1 : Int) (r : Bool) (w : World) (hr0 : Kd.C (Kd.int .u8) w A0 l0.length l0) (hc0 : l0.length ≤ c0) (h : lex_isEnding.f l0 a1 = some r) :
    Calls Tryz.prog 98 #[.slice A0 l0.length c0, .int .i64 a1] w fun e w' => e = .returned (.bool r) ∧ Drawn0 w w' := by
 have HR0 := Aside0.mk hr0
 have HC0 := Aside0.mk hc0
 clear hr0 hc0
 have H := h
 clear h
 unfold lex_isEnding.f at H
 rcases ifG H with ⟨c3b0, H⟩ | ⟨c3b0, H⟩
 ·obtain rfl := Option.some.inj H
  go_enter Tryz.func98, Tryz.ntmps98
  go_wp2
  go_ret
  exact ⟨sD, dD⟩
 ·obtain rfl := Option.some.inj H
  go_enter Tryz.func98, Tryz.ntmps98
  go_wp2
  go_ret
  exact ⟨sD, dD⟩
mutual
def lex_Common.j0 : Nat → List Int → Int → Int → Bool → Option (Int)
  | 0, _, _, _, _ => none
  | k + 1, x0, x1, x2, x17 => if x17 = true then (some 0) else (lex_Common.l0 k x0 x1 x2 0)
def lex_Common.l0 : Nat → List Int → Int → Int → Int → Option (Int)
  | 0, _, _, _, _ => none
  | k + 1, x0, x1, x2, x7 => if (wrap64 ((mx x1 x2) + x7)) < (x0.length : Int) then (if 0 ≤ (wrap64 (x1 + x7)) then (if (wrap64 (x1 + x7)) < (x0.length : Int) then (if 0 ≤ (wrap64 (x2 + x7)) then (if (wrap64 (x2 + x7)) < (x0.length : Int) then (if (rd x0 (wrap64 (x1 + x7))) = (rd x0 (wrap64 (x2 + x7))) then (lex_Common.l0 k x0 x1 x2 (wrap64 (x7 + 1))) else (some x7)) else (none)) else (none)) else (none)) else (none)) else (some x7)
end
def lex_Common.f (k : Nat) (l0 : List Int) (a1 : Int) (a2 : Int) : Option (Int) := (lex_isEnding.f l0 a1).bind fun t479 => (if t479 = true then ((lex_isEnding.f l0 a2).bind fun t480 => (lex_Common.j0 k l0 a1 a2 (!t480))) else (lex_Common.j0 k l0 a1 a2 true))
theorem lex_Common.mono_l : ∀ k, (∀ y0 y1 y2 y3, LeO (lex_Common.j0 k y0 y1 y2 y3) (lex_Common.j0 (k + 1) y0 y1 y2 y3)) ∧ (∀ y0 y1 y2 y3, LeO (lex_Common.l0 k y0 y1 y2 y3) (lex_Common.l0 (k + 1) y0 y1 y2 y3))
  | 0 => ⟨fun _ _ _ _ r h => by simp [lex_Common.j0] at h, fun _ _ _ _ r h => by simp [lex_Common.l0] at h⟩
  | k + 1 => by
    obtain ⟨ih0, ih1⟩ := lex_Common.mono_l k
    refine ⟨?_, ?_⟩
    · intro y0 y1 y2 y3
      unfold lex_Common.j0
      exact mB
    · intro y0 y1 y2 y3
      unfold lex_Common.l0
      exact mB
theorem lex_Common.mono : ∀ a0 a1 a2 k, LeO (lex_Common.f k a0 a1 a2) (lex_Common.f (k + 1) a0 a1 a2) := by
  intro a0 a1 a2 k
  obtain ⟨ih0, ih1⟩ := lex_Common.mono_l k
  unfold lex_Common.f
  exact mB
theorem lex_Common.calls (k : Nat) (A0 : Option Addr) (c0 : Nat) (l0 : List Int) (a1 : Int) (a2 : Int) (r : Int) (w : World) (hr0 : Kd.C (Kd.int .u8) w A0 l0.length l0) (hc0 : l0.length ≤ c0) (h : lex_Common.f k l0 a1 a2 = some r) :
    Calls Tryz.prog 82 #[.slice A0 l0.length c0, .int .i64 a1, .int .i64 a2] w fun e w' => e = .returned (.int .i64 r) ∧ Below w.heap.size w w' := by
 have HR0 := Aside0.mk hr0
 have HC0 := Aside0.mk hc0
 clear hr0 hc0
 have HB := Aside0.mk (Below.refl w.heap.size w)
 have H := h
 clear h
 unfold lex_Common.f at H
 have HC4 := Aside0.mk H
 clear H
 go_enter Tryz.func82, Tryz.ntmps82
 go_upto_region 1 with (fail)
 repeat (go_quiet (fail); go_upto_region 1 with (fail))
 go_cut [17] (fun v17 wc => ∃ (kq : Nat) (x17_3 : Bool), v17 = .bool x17_3 ∧ Aside0 (lex_Common.j0 kq l0 a1 a2 x17_3 = some r) ∧ Aside0 (kq ≤ k) ∧ Aside0 (Below w.heap.size w wc))
 case first =>
  have H := HC4.out
  clear HC4
  obtain ⟨t479, A5, H⟩ := bdS H
  try dsimp only at H
  by_cases c6 : t479 = true
  ·subst c6
   rw [if_pos rfl] at H
   obtain ⟨t480, A7, H⟩ := bdS H
   try dsimp only at H
   have H' := Aside0.mk H
   clear H
   go_wp2_with (first | (go_at_call 98; (with_reducible refine (lex_isEnding.calls _ _ l0 a1 true _ ?side1 ?side2 A5.out).mono ?_); (case side1 => exact uC (Kd.C_below HR0.out HB.out)); (case side2 => exact HC0.out); rintro e w' ⟨rfl, ⟨nd, rfl⟩⟩; (try first | exact ⟨rfl, _, World.drewN_drewN _ _ _⟩ | exact ⟨rfl, _, Eq.trans (World.drewN_drewN _ _ _) (congrArg (World.drewN _) (Nat.add_assoc _ _ _))⟩)) | (go_at_call 98; (with_reducible refine (lex_isEnding.calls _ _ l0 a2 t480 _ ?side1 ?side2 A7.out).mono ?_); (case side1 => repeat (first | exact (Kd.C_below HR0.out uB) | (with_reducible refine Kd.C_alloc ?_ _) | (with_reducible refine Kd.C_drewN ?_ _) | (with_reducible refine Kd.C_drew ?_))); (case side2 => exact HC0.out); rintro e w' ⟨rfl, ⟨nd, rfl⟩⟩; (try first | exact ⟨rfl, _, World.drewN_drewN _ _ _⟩ | exact ⟨rfl, _, Eq.trans (World.drewN_drewN _ _ _) (congrArg (World.drewN _) (Nat.add_assoc _ _ _))⟩)))
   repeat (go_quiet (first | (go_at_call 98; (with_reducible refine (lex_isEnding.calls _ _ l0 a1 true _ ?side1 ?side2 A5.out).mono ?_); (case side1 => exact uC (Kd.C_below HR0.out HB.out)); (case side2 => exact HC0.out); rintro e w' ⟨rfl, ⟨nd, rfl⟩⟩; (try first | exact ⟨rfl, _, World.drewN_drewN _ _ _⟩ | exact ⟨rfl, _, Eq.trans (World.drewN_drewN _ _ _) (congrArg (World.drewN _) (Nat.add_assoc _ _ _))⟩)) | (go_at_call 98; (with_reducible refine (lex_isEnding.calls _ _ l0 a2 t480 _ ?side1 ?side2 A7.out).mono ?_); (case side1 => repeat (first | exact (Kd.C_below HR0.out uB) | (with_reducible refine Kd.C_alloc ?_ _) | (with_reducible refine Kd.C_drewN ?_ _) | (with_reducible refine Kd.C_drew ?_))); (case side2 => exact HC0.out); rintro e w' ⟨rfl, ⟨nd, rfl⟩⟩; (try first | exact ⟨rfl, _, World.drewN_drewN _ _ _⟩ | exact ⟨rfl, _, Eq.trans (World.drewN_drewN _ _ _) (congrArg (World.drewN _) (Nat.add_assoc _ _ _))⟩))); try go_wp2_with (first | (go_at_call 98; (with_reducible refine (lex_isEnding.calls _ _ l0 a1 true _ ?side1 ?side2 A5.out).mono ?_); (case side1 => exact uC (Kd.C_below HR0.out HB.out)); (case side2 => exact HC0.out); rintro e w' ⟨rfl, ⟨nd, rfl⟩⟩; (try first | exact ⟨rfl, _, World.drewN_drewN _ _ _⟩ | exact ⟨rfl, _, Eq.trans (World.drewN_drewN _ _ _) (congrArg (World.drewN _) (Nat.add_assoc _ _ _))⟩)) | (go_at_call 98; (with_reducible refine (lex_isEnding.calls _ _ l0 a2 t480 _ ?side1 ?side2 A7.out).mono ?_); (case side1 => repeat (first | exact (Kd.C_below HR0.out uB) | (with_reducible refine Kd.C_alloc ?_ _) | (with_reducible refine Kd.C_drewN ?_ _) | (with_reducible refine Kd.C_drew ?_))); (case side2 => exact HC0.out); rintro e w' ⟨rfl, ⟨nd, rfl⟩⟩; (try first | exact ⟨rfl, _, World.drewN_drewN _ _ _⟩ | exact ⟨rfl, _, Eq.trans (World.drewN_drewN _ _ _) (congrArg (World.drewN _) (Nat.add_assoc _ _ _))⟩))))
   go_meet
   case rel => exact ⟨_, (!t480), sD, H', ⟨by first | omega | exact Nat.le_refl _⟩, ⟨uB⟩⟩
  ·replace c6 := Bool.eq_false_iff.mpr c6
   subst c6
   rw [if_neg (by decide)] at H
   have H' := Aside0.mk H
   clear H
   go_wp2_with (first | (go_at_call 98; (with_reducible refine (lex_isEnding.calls _ _ l0 a1 false _ ?side1 ?side2 A5.out).mono ?_); (case side1 => exact uC (Kd.C_below HR0.out HB.out)); (case side2 => exact HC0.out); rintro e w' ⟨rfl, ⟨nd, rfl⟩⟩; (try first | exact ⟨rfl, _, World.drewN_drewN _ _ _⟩ | exact ⟨rfl, _, Eq.trans (World.drewN_drewN _ _ _) (congrArg (World.drewN _) (Nat.add_assoc _ _ _))⟩)))
   repeat (go_quiet (first | (go_at_call 98; (with_reducible refine (lex_isEnding.calls _ _ l0 a1 false _ ?side1 ?side2 A5.out).mono ?_); (case side1 => exact uC (Kd.C_below HR0.out HB.out)); (case side2 => exact HC0.out); rintro e w' ⟨rfl, ⟨nd, rfl⟩⟩; (try first | exact ⟨rfl, _, World.drewN_drewN _ _ _⟩ | exact ⟨rfl, _, Eq.trans (World.drewN_drewN _ _ _) (congrArg (World.drewN _) (Nat.add_assoc _ _ _))⟩))); try go_wp2_with (first | (go_at_call 98; (with_reducible refine (lex_isEnding.calls _ _ l0 a1 false _ ?side1 ?side2 A5.out).mono ?_); (case side1 => exact uC (Kd.C_below HR0.out HB.out)); (case side2 => exact HC0.out); rintro e w' ⟨rfl, ⟨nd, rfl⟩⟩; (try first | exact ⟨rfl, _, World.drewN_drewN _ _ _⟩ | exact ⟨rfl, _, Eq.trans (World.drewN_drewN _ _ _) (congrArg (World.drewN _) (Nat.add_assoc _ _ _))⟩))))
   go_meet
   case rel => exact ⟨_, (true), sD, H', ⟨by first | omega | exact Nat.le_refl _⟩, ⟨uB⟩⟩
 case rest =>
  clear HC4
  obtain ⟨kq, x17_3, rfl, HA, HJ3, HB⟩ := hcut
  cases kq with
  | zero => exact absurd HA.out (by simp [lex_Common.j0])
  | succ kj3 =>
   have H := HA.out
   clear HA
   simp only [lex_Common.j0] at H
   by_cases c8 : x17_3 = true
   ·subst c8
    rw [if_pos rfl] at H
    obtain rfl := Option.some.inj H
    go_wp2
    repeat (go_quiet (fail); try go_wp2)
    go_ret
    exact ⟨eR, uB⟩
   ·replace c8 := Bool.eq_false_iff.mpr c8
    subst c8
    rw [if_neg (by decide)] at H
    have H' := Aside0.mk H
    clear H
    go_wp2
    repeat (go_quiet (fail); try go_wp2)
    go_loopg [7] kj3 (fun kq v7 w' => ∃ (x7_2 : Int), v7 = .int .i64 x7_2 ∧ Aside0 (lex_Common.l0 kq l0 a1 a2 x7_2 = some r) ∧ Aside0 (kq ≤ kj3) ∧ Aside0 (Below w.heap.size w w'))
    case atStart => exact ⟨(0), sD, H', ⟨Nat.le_refl _⟩, ⟨uB⟩⟩
    case round =>
     clear H'
     obtain ⟨x7_2, rfl, HA, HK2, HB⟩ := hrel
     cases gk with
     | zero => exact absurd HA.out (by simp [lex_Common.l0])
     | succ k2 =>
      have H := HA.out
      clear HA
      simp only [lex_Common.l0] at H
      obtain ⟨ji9, hji9⟩ : ∃ j_ : Int, (mx a1 a2) = j_ := ⟨_, rfl⟩
      first | rw [hji9] at H | simp only [hji9] at H
      have hji9_ : (if a1 < a2 then a2 else a1) = ji9 := hji9
      rcases ifC H with ⟨c10b0, H⟩ | ⟨c10b0, H⟩
      ·obtain ⟨ji11, hji11⟩ : ∃ j_ : Int, (wrap64 (a1 + x7_2)) = j_ := ⟨_, rfl⟩
       first | rw [hji11] at H | simp only [hji11] at H
       have hji11w : (IntKind.i64.wrap (a1 + x7_2)) = ji11 := (i64_w _).trans hji11
       obtain ⟨c12b0, c13b0, H⟩ := ifD2 H
       obtain ⟨ji14, hji14⟩ : ∃ j_ : Int, (wrap64 (a2 + x7_2)) = j_ := ⟨_, rfl⟩
       first | rw [hji14] at H | simp only [hji14] at H
       have hji14w : (IntKind.i64.wrap (a2 + x7_2)) = ji14 := (i64_w _).trans hji14
       obtain ⟨c15b0, c16b0, H⟩ := ifD2 H
       by_cases c17 : (rd l0 (ji11)) = (rd l0 (ji14))
       ·rw [if_pos c17] at H
        have c17b0 : ((rd l0 (ji11)) == (rd l0 (ji14))) = true := beq_iff_eq.mpr c17
        have c17b1 : ((rd l0 (ji11)) != (rd l0 (ji14))) = false := bne_eq_false_iff_eq.mpr c17
        clear c17
        have H' := Aside0.mk H
        clear H
        obtain ⟨ad481, e481, hx481_0, p481, q481⟩ := rIO HB.out HR0.out (ji11)
        cases e481
        obtain ⟨ad482, e482, hx482_0, p482, q482⟩ := rIO HB.out HR0.out (ji14)
        obtain rfl : ad481 = ad482 := (by injection e482)
        go_wp2
        repeat (go_quiet (fail); try go_wp2)
        go_roundg k2
        case measure => have := HJ3.out; have := HK2.out; omega
        case rel => exact ⟨(wrap64 (x7_2 + 1)), sD, H', ⟨by have := HJ3.out; have := HK2.out; omega⟩, ⟨uB⟩⟩
       ·rw [if_neg c17] at H
        have c17b0 : ((rd l0 (ji11)) == (rd l0 (ji14))) = false := beq_eq_false_iff_ne.mpr c17
        have c17b1 : ((rd l0 (ji11)) != (rd l0 (ji14))) = true := bne_iff_ne.mpr c17
        obtain rfl := Option.some.inj H
        obtain ⟨ad481, e481, hx481_0, p481, q481⟩ := rIO HB.out HR0.out (ji11)
        cases e481
        obtain ⟨ad482, e482, hx482_0, p482, q482⟩ := rIO HB.out HR0.out (ji14)
        obtain rfl : ad481 = ad482 := (by injection e482)
        go_wp2
        repeat (go_quiet (fail); try go_wp2)
        go_ret
        exact ⟨by first | rfl | (simp [errW_none, errW_some] <;> rfl) | (simp only [← hji9, ← hji11, ← hji14]; first | rfl | (simp [errW_none, errW_some] <;> rfl)) | (simp [*, errW_none, errW_some] <;> rfl), uB⟩
      ·obtain rfl := Option.some.inj H
       go_wp2
       repeat (go_quiet (fail); try go_wp2)
       go_ret
       exact ⟨by first | rfl | (simp [errW_none, errW_some] <;> rfl) | (simp only [← hji9]; first | rfl | (simp [errW_none, errW_some] <;> rfl)) | (simp [*, errW_none, errW_some] <;> rfl), uB⟩
mutual
def kasai_LCP.j0 : Nat → List Int → List Int → List Int → Bool → Option (List Int × Bool)
  | 0, _, _, _, _ => none
  | k + 1, x0, x1, x6, x23 => if x23 = true then (some (([] : List Int), false)) else ((kasai_ordered.f k x0 x1 x6).bind fun t487 => (if t487 = true then ((kasai_quick.f k x0 x1 x6).bind fun t488 => (some (t488, true))) else (if 0 ≤ (x1.length : Int) then (if ((x1.length : Int) : Int).toNat ≤ 35184372088832 then (kasai_LCP.l0 k x0 x1 (List.replicate ((x1.length : Int) : Int).toNat 0) 1) else (none)) else (none))))
def kasai_LCP.l0 : Nat → List Int → List Int → List Int → Int → Option (List Int × Bool)
  | 0, _, _, _, _ => none
  | k + 1, x0, x1, x8, x9 => if x9 < (x1.length : Int) then (if 0 ≤ (wrap64 (x9 - 1)) then (if (wrap64 (x9 - 1)) < (x1.length : Int) then (if 0 ≤ x9 then ((lex_Common.f k x0 (rd x1 (wrap64 (x9 - 1))) (rd x1 x9)).bind fun t496 => (if x9 < (x8.length : Int) then (kasai_LCP.l0 k x0 x1 (x8.set (x9 : Int).toNat t496) (wrap64 (x9 + 1))) else (none))) else (none)) else (none)) else (none)) else (some (x8, true))
end
def kasai_LCP.f (k : Nat) (l0 : List Int) (l1 : List Int) : Option (List Int × Bool) := (rank_Inverse.f k l1).bind fun bt483 => (if bt483.2 = true then (kasai_LCP.j0 k l0 l1 bt483.1 ((l1.length : Int) != (l0.length : Int))) else (kasai_LCP.j0 k l0 l1 bt483.1 true))
theorem kasai_LCP.mono_l : ∀ k, (∀ y0 y1 y2 y3, LeO (kasai_LCP.j0 k y0 y1 y2 y3) (kasai_LCP.j0 (k + 1) y0 y1 y2 y3)) ∧ (∀ y0 y1 y2 y3, LeO (kasai_LCP.l0 k y0 y1 y2 y3) (kasai_LCP.l0 (k + 1) y0 y1 y2 y3))
  | 0 => ⟨fun _ _ _ _ r h => by simp [kasai_LCP.j0] at h, fun _ _ _ _ r h => by simp [kasai_LCP.l0] at h⟩
  | k + 1 => by
    obtain ⟨ih0, ih1⟩ := kasai_LCP.mono_l k
    refine ⟨?_, ?_⟩
    · intro y0 y1 y2 y3
      unfold kasai_LCP.j0
      have m0 := @kasai_ordered.mono
      have m1 := @kasai_quick.mono
      have m2 := @lex_Common.mono
      have m3 := @rank_Inverse.mono
      exact mB
    · intro y0 y1 y2 y3
      unfold kasai_LCP.l0
      have m0 := @kasai_ordered.mono
      have m1 := @kasai_quick.mono
      have m2 := @lex_Common.mono
      have m3 := @rank_Inverse.mono
      exact mB
theorem kasai_LCP.mono : ∀ a0 a1 k, LeO (kasai_LCP.f k a0 a1) (kasai_LCP.f (k + 1) a0 a1) := by
  intro a0 a1 k
  obtain ⟨ih0, ih1⟩ := kasai_LCP.mono_l k
  unfold kasai_LCP.f
  have m0 := @kasai_ordered.mono
  have m1 := @kasai_quick.mono
  have m2 := @lex_Common.mono
  have m3 := @rank_Inverse.mono
  exact mB
def kasai_LCP.T10 : Bool × List (List Nat × List Nat) := (true, [([], []), ([], []), ([], []), ([], []), ([], []), ([4], [4]), ([3, 5], [3, 5]), ([6], [6]), ([], []), ([], []), ([8, 9], [8, 9]), ([10], [10]), ([2, 7, 11], [2, 7, 11]), ([0, 1, 0, 1, 2, 3, 4, 5, 6, 7, 8, 9, 10, 11, 12], [0, 1]), ([13, 12, 12, 0, 1, 2, 3, 4, 5, 6, 7, 8, 9, 10, 11, 12], [12, 13])])
def kasai_LCP.B10 : List Nat := [0, 0, 0, 0, 0, 16, 56, 120, 0, 0, 768, 1792, 4092, 8191, 16383]
theorem kasai_LCP.tab10 : rtab .any (opsOf Tryz.f61 10) = kasai_LCP.T10 := by kernel_rfl
theorem kasai_LCP.bits10 : waitsOk kasai_LCP.T10.2 kasai_LCP.B10 = true := by kernel_rfl
theorem kasai_LCP.calls (k : Nat) (A0 : Option Addr) (c0 : Nat) (l0 : List Int) (A1 : Option Addr) (c1 : Nat) (l1 : List Int) (r1 : List Int) (r2 : Bool) (w : World) (hr0 : Kd.C (Kd.int .u8) w A0 l0.length l0) (hc0 : l0.length ≤ c0) (hr1 : Kd.C (Kd.int .i64) w A1 l1.length l1) (hc1 : l1.length ≤ c1) (h : kasai_LCP.f k l0 l1 = some (r1, r2)) :
    Calls Tryz.prog 61 #[.slice A0 l0.length c0, .slice A1 l1.length c1] w fun e w' => ∃ v0_ : Value, e = .returned (.tuple #[v0_, .bool r2]) ∧ Kd.R (Kd.int .i64) 3 w' w.heap.size (fun _ => True) v0_ r1 ∧ Below w.heap.size w w' := by
 have HR0 := Aside0.mk hr0
 have HC0 := Aside0.mk hc0
 clear hr0 hc0
 have HR1 := Aside0.mk hr1
 have HC1 := Aside0.mk hc1
 clear hr1 hc1
 have HB := Aside0.mk (Below.refl w.heap.size w)
 have H := h
 clear h
 unfold kasai_LCP.f at H
 obtain ⟨⟨t483, t484⟩, A3, H⟩ := bdS H
 try dsimp only at H
 have HC4 := Aside0.mk H
 clear H
 go_enter Tryz.func61, Tryz.ntmps61
 go_upto_region 2 with (first | ((with_reducible refine gate_callee (f := 72) rfl ?_); refine goesL_ (some 12) rfl rfl Tryz.func72 (by kernel_rfl) rfl #[.slice A1 l1.length c1] rfl aE ?_; (with_reducible refine (rank_Inverse.calls k _ _ l1 t483 t484 _ ?side1 ?side2 A3.out).mono ?_); (case side1 => exact uC HR1.out); (case side2 => exact HC1.out); rintro e w5 ⟨v485, rfl, ho0, hb⟩; refine ⟨_, rfl, ?_⟩; have n0_ := Aside0.mk (Kd.R_lower ho0 (below_size uB)); have n1_ := Aside0.mk (below_step uB hb); clear HB; have HO486 := n0_; have HB := n1_; clear n0_ n1_))
 (try simp only [Act.put, List.setIfInBounds_toArray, List.set_cons_zero, List.set_cons_succ])
 go_cut [23] (fun v23 wc => ∃ (kq : Nat) (x23_3 : Bool), v23 = .bool x23_3 ∧ Aside0 (kasai_LCP.j0 kq l0 l1 t483 x23_3 = some (r1, r2)) ∧ Aside0 (kq ≤ k) ∧ Aside0 (Kd.R (Kd.int .i64) 3 wc w.heap.size (fun _ => True) v485 t483) ∧ Aside0 (Below w.heap.size w wc))
 case first =>
  have H := HC4.out
  clear HC4
  by_cases c6 : t484 = true
  ·subst c6
   rw [if_pos rfl] at H
   have H' := Aside0.mk H
   clear H
   go_wp2
   go_meet
   case rel => exact ⟨_, (((l1.length : Int) != (l0.length : Int))), sD, H', ⟨by first | omega | exact Nat.le_refl _⟩, ⟨uR HO486.out⟩, ⟨uB⟩⟩
  ·replace c6 := Bool.eq_false_iff.mpr c6
   subst c6
   rw [if_neg (by decide)] at H
   have H' := Aside0.mk H
   clear H
   go_wp2
   go_meet
   case rel => exact ⟨_, (true), sD, H', ⟨by first | omega | exact Nat.le_refl _⟩, ⟨uR HO486.out⟩, ⟨uB⟩⟩
 case rest =>
  clear HC4
  obtain ⟨kq, x23_3, rfl, HA, HJ3, HO_6, HB⟩ := hcut
  cases kq with
  | zero => exact absurd HA.out (by simp [kasai_LCP.j0])
  | succ kj3 =>
   have H := HA.out
   clear HA
   simp only [kasai_LCP.j0] at H
   by_cases c7 : x23_3 = true
   ·subst c7
    rw [if_pos rfl] at H
    simp only [Option.some.injEq, Prod.mk.injEq] at H
    obtain ⟨rfl, rfl⟩ := H
    go_wp2
    go_ret2
    exact ⟨_, eR, nL, uB⟩
   ·replace c7 := Bool.eq_false_iff.mpr c7
    subst c7
    rw [if_neg (by decide)] at H
    obtain ⟨t487, A8, H⟩ := bdS H
    try dsimp only at H
    by_cases c9 : t487 = true
    ·subst c9
     rw [if_pos rfl] at H
     obtain ⟨t488, A10, H⟩ := bdS H
     try dsimp only at H
     simp only [Option.some.injEq, Prod.mk.injEq] at H
     obtain ⟨rfl, rfl⟩ := H
     obtain ⟨Ao11, co11, eo11⟩ := Kd.R_slice HO_6.out
     subst eo11
     go_wp2_with (first | ((with_reducible refine gate_callee (f := 80) rfl ?_); refine goesL_ (some 27) rfl rfl Tryz.func80 (by kernel_rfl) rfl #[.slice A0 l0.length c0, .slice A1 l1.length c1, .slice Ao11 t483.length co11] rfl aE ?_; (with_reducible refine (kasai_ordered.calls kj3 _ _ l0 _ _ l1 _ _ t483 true _ ?side1 ?side2 ?side3 ?side4 ?side5 ?side6 A8.out).mono ?_); (case side1 => exact uC (Kd.C_below HR0.out HB.out)); (case side2 => exact HC0.out); (case side3 => exact uC (Kd.C_below HR1.out HB.out)); (case side4 => exact HC1.out); (case side5 => exact uC (Kd.R_reads' HO_6.out).2.2); (case side6 => exact (Kd.R_reads' HO_6.out).2.1); rintro e w' ⟨rfl, ⟨nd, rfl⟩⟩; refine ⟨_, rfl, ?_⟩) | ((with_reducible refine gate_callee (f := 81) rfl ?_); refine goesL_ (some 31) rfl rfl Tryz.func81 (by kernel_rfl) rfl #[.slice A0 l0.length c0, .slice A1 l1.length c1, .slice Ao11 t483.length co11] rfl aE ?_; (with_reducible refine (kasai_quick.calls kj3 _ _ l0 _ _ l1 _ _ t483 t488 _ ?side1 ?side2 ?side3 ?side4 ?side5 ?side6 A10.out).mono ?_); (case side1 => repeat (first | exact (Kd.C_below HR0.out uB) | (with_reducible refine Kd.C_alloc ?_ _) | (with_reducible refine Kd.C_drewN ?_ _) | (with_reducible refine Kd.C_drew ?_))); (case side2 => exact HC0.out); (case side3 => repeat (first | exact (Kd.C_below HR1.out uB) | (with_reducible refine Kd.C_alloc ?_ _) | (with_reducible refine Kd.C_drewN ?_ _) | (with_reducible refine Kd.C_drew ?_))); (case side4 => exact HC1.out); (case side5 => exact uC (Kd.R_reads' HO_6.out).2.2); (case side6 => exact (Kd.R_reads' HO_6.out).2.1); rintro e w12 ⟨v489, rfl, ho0, hb⟩; refine ⟨_, rfl, ?_⟩; have n0_ := Aside0.mk (Kd.R_elder' (uR HO_6.out) (Kd.R_base ho0) hb); have n1_ := Aside0.mk (Kd.R_lower (Kd.R_new' ho0 (Kd.R_lt (uR HO_6.out))) (below_size uB)); have n2_ := Aside0.mk (below_step uB hb); clear HO_6 HB; have HO_6 := n0_; have HO490 := n1_; have HB := n2_; clear n0_ n1_ n2_))
     go_ret2
     exact ⟨_, eR, by (with_reducible repeat (first | apply Kd.R_alloc | apply Kd.R_drewN | apply Kd.R_drew)); exact Kd.R_mono HO490.out (fun _ hk => trivial), uB⟩
    ·replace c9 := Bool.eq_false_iff.mpr c9
     subst c9
     rw [if_neg (by decide)] at H
     obtain ⟨c13b0, c13b1, H⟩ := ifE H
     obtain ⟨c14b0, c14b1, H⟩ := ifE H
     generalize hy491 : (List.replicate ((l1.length : Int) : Int).toNat 0 : List Int) = y491 at H
     try simp only [Option.bind_some] at H
     have Ny491 := Aside0.mk hy491.symm
     clear hy491
     have H' := Aside0.mk H
     clear H
     obtain ⟨Ao15, co15, eo15⟩ := Kd.R_slice HO_6.out
     subst eo15
     go_wp2_with (first | ((with_reducible refine gate_callee (f := 80) rfl ?_); refine goesL_ (some 27) rfl rfl Tryz.func80 (by kernel_rfl) rfl #[.slice A0 l0.length c0, .slice A1 l1.length c1, .slice Ao15 t483.length co15] rfl aE ?_; (with_reducible refine (kasai_ordered.calls kj3 _ _ l0 _ _ l1 _ _ t483 false _ ?side1 ?side2 ?side3 ?side4 ?side5 ?side6 A8.out).mono ?_); (case side1 => exact uC (Kd.C_below HR0.out HB.out)); (case side2 => exact HC0.out); (case side3 => exact uC (Kd.C_below HR1.out HB.out)); (case side4 => exact HC1.out); (case side5 => exact uC (Kd.R_reads' HO_6.out).2.2); (case side6 => exact (Kd.R_reads' HO_6.out).2.1); rintro e w' ⟨rfl, ⟨nd, rfl⟩⟩; refine ⟨_, rfl, ?_⟩) | ((with_reducible refine gate_dst (N := 34) rfl ?_); (try (refine gate_guard (by rfl) ?_; dsimp only)); refine Kd.R_make (Kd.int .i64) _ 3 rfl (N := 34) rfl 29 _ _ rfl (l1.length : Int) rfl rfl Tryz.underlying29 (.int .i64 0) 8 info3 rfl (by decide) (by omega) 0 (ok := fun _ => True) (okp := fun _ => True) rfl (fun _ hk => hk) trivial dT (Nat.le_trans (Nat.mul_le_mul_right _ (dT : (l1.length : Int).toNat ≤ 35184372088832)) (by omega)) (Below.refl _ _) (Nat.le_refl _) ?_; intro v492 w16 ho17 hb hg_ hnew_; clear hg_ hnew_; (first | rw [← Ny491.out] at ho17 | (simp only [Int.reduceToNat] at ho17; rw [← Ny491.out] at ho17)); have n0_ := Aside0.mk (Kd.R_elder' (uR HO_6.out) (Kd.R_base ho17) hb); have n1_ := Aside0.mk (Kd.R_lower (Kd.R_new' ho17 (Kd.R_lt (uR HO_6.out))) (below_size uB)); have n2_ := Aside0.mk (below_step uB hb); clear HO_6 HB; have HO_6 := n0_; have HO493 := n1_; have HB := n2_; clear n0_ n1_ n2_; clear hb ho17))
     go_loopg [9] kj3 (fun kq v9 w' => ∃ (x8_2 : List Int) (x9_2 : Int), v9 = .int .i64 x9_2 ∧ Aside0 (kasai_LCP.l0 kq l0 l1 x8_2 x9_2 = some (r1, r2)) ∧ Aside0 (kq ≤ kj3) ∧ Aside0 (Kd.R (Kd.int .i64) 3 w' w.heap.size (fun _ => True) v492 x8_2) ∧ Aside0 (Below w.heap.size w w'))
     case atStart => exact ⟨(y491), (1), sD, H', ⟨Nat.le_refl _⟩, ⟨by (with_reducible repeat (first | apply Kd.R_alloc | apply Kd.R_drewN | apply Kd.R_drew)); exact Kd.R_mono HO493.out (fun _ hk => trivial)⟩, ⟨uB⟩⟩
     case round =>
      clear H'
      obtain ⟨x8_2, x9_2, rfl, HA, HK2, HO_8, HB⟩ := hrel
      cases gk with
      | zero => exact absurd HA.out (by simp [kasai_LCP.l0])
      | succ k2 =>
       have H := HA.out
       clear HA
       simp only [kasai_LCP.l0] at H
       rcases ifC H with ⟨c18b0, H⟩ | ⟨c18b0, H⟩
       ·obtain ⟨ji19, hji19⟩ : ∃ j_ : Int, (wrap64 (x9_2 - 1)) = j_ := ⟨_, rfl⟩
        first | rw [hji19] at H | simp only [hji19] at H
        have hji19w : (IntKind.i64.wrap (x9_2 - 1)) = ji19 := (i64_w _).trans hji19
        obtain ⟨c20b0, H⟩ := ifD H
        obtain ⟨c21b0, c22b0, H⟩ := ifD2 H
        obtain ⟨t496, A23, H⟩ := bdS H
        try dsimp only at H
        obtain ⟨c24b0, H⟩ := ifD H
        generalize hy497 : (x8_2.set (x9_2 : Int).toNat t496 : List Int) = y497 at H
        try simp only [Option.bind_some] at H
        have Ny497 := Aside0.mk hy497.symm
        clear hy497
        have H' := Aside0.mk H
        clear H
        try go_wp2
        have n0_ := Aside0.mk (Kd.R_drew HO_8.out)
        have n1_ := Aside0.mk (below_drew1 HB.out)
        clear HO_8
        clear HB
        have HO_8 := n0_
        have HB := n1_
        clear n0_ n1_
        obtain ⟨ad494, e494, hx494_0, p494, q494⟩ := rI HR1.out (ji19)
        have hw494_0 := hx494_0
        cases e494
        replace hx494_0 := (HB.out.cell (World.block_lt_of_cell? w _ hx494_0)).trans hx494_0
        obtain ⟨ad495, e495, hx495_0, p495, q495⟩ := rI HR1.out x9_2
        have hw495_0 := hx495_0
        obtain rfl : ad494 = ad495 := (by injection e495)
        replace hx495_0 := (HB.out.cell (World.block_lt_of_cell? w _ hx495_0)).trans hx495_0
        refine start_ (n := 15) (S := fun w' => w'.cell? (ad494.add ((ji19)).toNat) = some (.int .i64 (rd l1 (ji19))) ∧ w'.cell? (ad494.add (x9_2).toNat) = some (.int .i64 (rd l1 x9_2))) (ds := [14]) #[false, false, false, false, false, false, false, false, false, false, false, false, false, false, false] (by kernel_rfl) rfl rfl ⟨((HB.out.cell (World.block_lt_of_cell? w _ hw494_0)).trans hw494_0), ((HB.out.cell (World.block_lt_of_cell? w _ hw495_0)).trans hw495_0)⟩ (fun hHeld => ?_); refine with_tabW kasai_LCP.tab10 kasai_LCP.bits10 (fun HT_ HW_ => ?_)
        generalize wr.drew = w26 at HO_8 HB hx494_0 hx495_0 hHeld ⊢
        refine pY (i := 0) (N := some 41) (bs 0 15) ?_
        refine pY (i := 1) (N := some 42) (bs 1 15) ?_
        refine pY (i := 2) (N := some 43) (bs 2 15) ?_
        refine pY (i := 3) (N := some 44) (bs 3 15) ?_
        refine pY (i := 4) (N := some 45) (bs 4 15) ?_
        refine pY (i := 5) (N := some 46) (bs 5 15) ?_
        refine pY (i := 6) (N := some 47) (bs 6 15) ?_
        refine pY (i := 8) (N := some 49) #[true, true, true, true, true, true, true, false, true, false, false, false, false, false, false] ?_
        refine pY (i := 9) (N := some 50) #[true, true, true, true, true, true, true, false, true, true, false, false, false, false, false] ?_
        refine pY (i := 10) (N := some 51) #[true, true, true, true, true, true, true, false, true, true, true, false, false, false, false] ?_
        refine take_ (i := 7) (N := some 48) (v := ?_) (a' := ?_) (bs 10 15) rfl rfl (take_ofW HT_.out HW_.out (by kernel_rfl)) (fun _ _ _ h => h) (Or.inl ⟨by rfl, ?_⟩) hHeld ?_ ?_
        rotate_left
        ·rintro w' ⟨s0, s1⟩
         go_simp
         with_reducible rfl
        rotate_left
        ·simp only [Act.put, List.setIfInBounds_toArray, List.set_cons_zero, List.set_cons_succ, i64_w, i32_w]
         rfl
        refine take_ (i := 11) (N := some 52) (v := ?_) (a' := ?_) (bs 11 15) rfl rfl (take_ofW HT_.out HW_.out (by kernel_rfl)) (fun _ _ _ h => h) (Or.inl ⟨by rfl, ?_⟩) hHeld ?_ ?_
        rotate_left
        ·rintro w' ⟨s0, s1⟩
         go_simp
         with_reducible rfl
        rotate_left
        ·simp only [Act.put, List.setIfInBounds_toArray, List.set_cons_zero, List.set_cons_succ, i64_w, i32_w]
         rfl
        refine one_ (i := 12) (N := some 53) (bs 12 15) rfl rfl (one_of HT_.out (by kernel_rfl)) (by decide) (fun K hK => ?_)
        refine goes_ Tryz.func82 (by kernel_rfl) rfl #[.slice A0 l0.length c0, .int .i64 (rd l1 (ji19)), .int .i64 (rd l1 x9_2)] (by rfl) rfl rfl (by (try simp only [List.map_toArray, List.map_cons, List.map_nil]); first | done | (simp only [hji19]; rfl) | rfl | (simp only [List.length_drop, List.length_take]; rfl)) ?_
        with_reducible refine (lex_Common.calls k2 _ _ l0 (rd l1 (ji19)) (rd l1 x9_2) t496 _ ?side1 ?side2 A23.out).mono ?_
        (case side1 => exact uC (Kd.C_below HR0.out HB.out))
        (case side2 => exact HC0.out)
        rintro e w27 ⟨rfl, hb⟩
        refine ⟨_, rfl, ?_⟩
        have n0_ := Aside0.mk (Kd.R_below (uR HO_8.out) hb)
        have n1_ := Aside0.mk (below_step uB hb)
        clear HO_8
        clear HB
        have HO_8 := n0_
        have HB := n1_
        clear n0_ n1_
        (try clear hb)
        (try clear hb2)
        (try clear hk)
        (try clear hi)
        have p25 : 0 ≤ (x9_2 : Int) := dT
        have q25 : (x9_2 : Int) < ((x8_2.length : Int) : Int) := dT
        obtain ⟨go25, co25, eo25, gb25, gl25, cl25, HG25⟩ := Kd.R_form HO_8.out (by omega)
        (first | cases eo25 | (injection eo25 with ea_ en_ ec_; (first | subst ea_ | (injection ea_ with ea_; subst ea_)); subst ec_; clear en_))
        have GB25 := Aside0.mk gb25
        have GG25 := Aside0.mk HG25
        clear gb25 gl25 HG25
        obtain ⟨hx25_0, hf25_0⟩ := Kd.R_celln 0 HO_8.out (x9_2 : Int) p25 q25
        replace p25 := eq_true p25
        replace q25 := eq_true q25
        have HP28 := Kd.R_putn HO_8.out (x9_2 : Int) t496
        rw [← Ny497.out] at HP28
        have HQ28 := Aside0.mk HP28
        clear HP28
        refine hK.out _ _ ⟨((HB.out.cell (World.block_lt_of_cell? w _ hw494_0)).trans hw494_0), ((HB.out.cell (World.block_lt_of_cell? w _ hw495_0)).trans hw495_0)⟩ (fun hHeld => ?_)
        clear hK K
        refine norm_ (a' := ?_) ?_ ?_
        rotate_left
        ·show Act.put _ (some 53) _ = _
         simp only [Act.put, List.setIfInBounds_toArray, List.set_cons_zero, List.set_cons_succ, i64_w, i32_w]
         rfl
        refine pY (i := 13) (N := some 54) (bs 13 15) ?_
        refine last_ (i := 14) (N := none) (bs 14 15) rfl rfl (one_of HT_.out (by kernel_rfl)) (by decide) (fun K hK => ?_)
        refine skip_ (w1 := ?_) (by rfl) rfl ?_ ?_
        rotate_left
        ·go_simp
         rfl
        refine hK.out _ _ ?_
        clear hK K
        refine done_ (done_of HT_.out (by kernel_rfl)) ?_
        try go_wp2
        go_roundg k2
        case measure => have := HJ3.out; have := HK2.out; omega
        case rel => exact ⟨(y497), (wrap64 (x9_2 + 1)), sD, H', ⟨by have := HJ3.out; have := HK2.out; omega⟩, ⟨uR HQ28.out⟩, ⟨by repeat (first | (with_reducible first | exact HB.out | apply below_alloc | apply pw_below_drewN | apply below_drew1 | refine below_set ?_ GB25.out) | exact HB.out)⟩⟩
       ·simp only [Option.some.injEq, Prod.mk.injEq] at H
        obtain ⟨rfl, rfl⟩ := H
        go_wp2
        go_ret2
        exact ⟨_, eR, uR HO_8.out, uB⟩
def rank_Is.f (k : Nat) (l0 : List Int) : Option (Bool) := (rank_Inverse.f k l0).bind fun bt498 => (some bt498.2)
theorem rank_Is.mono : ∀ a0 k, LeO (rank_Is.f k a0) (rank_Is.f (k + 1) a0) := by
  intro a0 k
  unfold rank_Is.f
  have m0 := @rank_Inverse.mono
  exact mB
theorem rank_Is.calls (k : Nat) (A0 : Option Addr) (c0 : Nat) (l0 : List Int) (r : Bool) (w : World) (hr0 : Kd.C (Kd.int .i64) w A0 l0.length l0) (hc0 : l0.length ≤ c0) (h : rank_Is.f k l0 = some r) :
    Calls Tryz.prog 70 #[.slice A0 l0.length c0] w fun e w' => e = .returned (.bool r) ∧ Below w.heap.size w w' := by
 have HR0 := Aside0.mk hr0
 have HC0 := Aside0.mk hc0
 clear hr0 hc0
 have HB := Aside0.mk (Below.refl w.heap.size w)
 have H := h
 clear h
 unfold rank_Is.f at H
 obtain ⟨⟨t498, t499⟩, A2, H⟩ := bdS H
 try dsimp only at H
 obtain rfl := Option.some.inj H
 go_enter Tryz.func70, Tryz.ntmps70
 go_wp2_with (first | ((with_reducible refine gate_callee (f := 72) rfl ?_); refine goesL_ (some 7) rfl rfl Tryz.func72 (by kernel_rfl) rfl #[.slice A0 l0.length c0] rfl aE ?_; (with_reducible refine (rank_Inverse.calls k _ _ l0 t498 t499 _ ?side1 ?side2 A2.out).mono ?_); (case side1 => exact uC HR0.out); (case side2 => exact HC0.out); rintro e w3 ⟨v500, rfl, ho0, hb⟩; refine ⟨_, rfl, ?_⟩; have n0_ := Aside0.mk (Kd.R_lower ho0 (below_size uB)); have n1_ := Aside0.mk (below_step uB hb); clear HB; have HO501 := n0_; have HB := n1_; clear n0_ n1_))
 go_ret
 exact ⟨eR, uB⟩
def phi_Ahead.l0 : Nat → List Int → Int → List Int → Int → Int → Option (List Int × Bool)
  | 0, _, _, _, _, _ => none
  | k + 1, x4, x5, x14, x15, x16 => if x16 < x15 then (if 0 ≤ x16 then (if x16 < (x14.length : Int) then (if 0 ≤ (rd x14 x16) then (if (rd x14 x16) < (x4.length : Int) then (phi_Ahead.l0 k (x4.set ((rd x14 x16) : Int).toNat x5) (rd x14 x16) x14 x15 (wrap64 (x16 + 1))) else (none)) else (none)) else (none)) else (none)) else (some (x4, true))
def phi_Ahead.f (k : Nat) (l0 : List Int) : Option (List Int × Bool) := (rank_Is.f k l0).bind fun t502 => (if t502 = true then (if 0 ≤ (l0.length : Int) then (if ((l0.length : Int) : Int).toNat ≤ 35184372088832 then (phi_Ahead.l0 k (List.replicate ((l0.length : Int) : Int).toNat 0) (-1) l0 (l0.length : Int) 0) else (none)) else (none)) else (some (([] : List Int), false)))
theorem phi_Ahead.mono_l : ∀ k, (∀ y0 y1 y2 y3 y4, LeO (phi_Ahead.l0 k y0 y1 y2 y3 y4) (phi_Ahead.l0 (k + 1) y0 y1 y2 y3 y4))
  | 0 => fun _ _ _ _ _ r h => by simp [phi_Ahead.l0] at h
  | k + 1 => by
    have ih0 := phi_Ahead.mono_l k
    · intro y0 y1 y2 y3 y4
      unfold phi_Ahead.l0
      have m0 := @rank_Is.mono
      exact mB
theorem phi_Ahead.mono : ∀ a0 k, LeO (phi_Ahead.f k a0) (phi_Ahead.f (k + 1) a0) := by
  intro a0 k
  have ih0 := phi_Ahead.mono_l k
  unfold phi_Ahead.f
  have m0 := @rank_Is.mono
  exact mB
theorem phi_Ahead.calls (k : Nat) (A0 : Option Addr) (c0 : Nat) (l0 : List Int) (r1 : List Int) (r2 : Bool) (w : World) (hr0 : Kd.C (Kd.int .i64) w A0 l0.length l0) (hc0 : l0.length ≤ c0) (h : phi_Ahead.f k l0 = some (r1, r2)) :
    Calls Tryz.prog 99 #[.slice A0 l0.length c0] w fun e w' => ∃ v0_ : Value, e = .returned (.tuple #[v0_, .bool r2]) ∧ Kd.R (Kd.int .i64) 3 w' w.heap.size (fun _ => True) v0_ r1 ∧ Below w.heap.size w w' := by
 have HR0 := Aside0.mk hr0
 have HC0 := Aside0.mk hc0
 clear hr0 hc0
 have HB := Aside0.mk (Below.refl w.heap.size w)
 have H := h
 clear h
 unfold phi_Ahead.f at H
 obtain ⟨t502, A2, H⟩ := bdS H
 try dsimp only at H
 by_cases c3 : t502 = true
 ·subst c3
  rw [if_pos rfl] at H
  obtain ⟨c4b0, c4b1, H⟩ := ifE H
  obtain ⟨c5b0, c5b1, H⟩ := ifE H
  generalize hy503 : (List.replicate ((l0.length : Int) : Int).toNat 0 : List Int) = y503 at H
  try simp only [Option.bind_some] at H
  have Ny503 := Aside0.mk hy503.symm
  clear hy503
  have H' := Aside0.mk H
  clear H
  go_enter Tryz.func99, Tryz.ntmps99
  go_wp2_with (first | ((with_reducible refine gate_callee (f := 70) rfl ?_); refine goesL_ (some 9) rfl rfl Tryz.func70 (by kernel_rfl) rfl #[.slice A0 l0.length c0] rfl aE ?_; (with_reducible refine (rank_Is.calls k _ _ l0 true _ ?side1 ?side2 A2.out).mono ?_); (case side1 => exact uC HR0.out); (case side2 => exact HC0.out); rintro e w6 ⟨rfl, hb⟩; refine ⟨_, rfl, ?_⟩; have n0_ := Aside0.mk (below_step uB hb); clear HB; have HB := n0_; clear n0_) | ((with_reducible refine gate_dst (N := 13) rfl ?_); refine Kd.R_make (Kd.int .i64) _ 3 rfl (N := 13) rfl 29 _ _ rfl (l0.length : Int) rfl rfl Tryz.underlying29 (.int .i64 0) 8 info3 rfl (by decide) (by omega) 0 (ok := fun _ => True) (okp := fun _ => True) rfl (fun _ hk => hk) trivial dT (Nat.le_trans (Nat.mul_le_mul_right _ (dT : (l0.length : Int).toNat ≤ 35184372088832)) (by omega)) (Below.refl _ _) (Nat.le_refl _) ?_; intro v504 w7 ho8 hb hg_ hnew_; clear hg_ hnew_; (first | rw [← Ny503.out] at ho8 | (simp only [Int.reduceToNat] at ho8; rw [← Ny503.out] at ho8)); have n0_ := Aside0.mk (Kd.R_lower ho8 (below_size uB)); have n1_ := Aside0.mk (below_step uB hb); clear HB; have HO505 := n0_; have HB := n1_; clear n0_ n1_; clear hb ho8))
  go_loopg [5, 16] k (fun kq v5 v16 w' => ∃ (x4_1 : List Int) (x5_1 : Int) (x16_1 : Int), v5 = .int .i64 x5_1 ∧ v16 = .int .i64 x16_1 ∧ Aside0 (phi_Ahead.l0 kq x4_1 x5_1 l0 (l0.length : Int) x16_1 = some (r1, r2)) ∧ Aside0 (kq ≤ k) ∧ Aside0 (Kd.R (Kd.int .i64) 3 w' w.heap.size (fun _ => True) v504 x4_1) ∧ Aside0 (Below w.heap.size w w'))
  case atStart => exact ⟨(y503), ((-1)), (0), sD, sD, H', ⟨Nat.le_refl _⟩, ⟨uR HO505.out⟩, ⟨uB⟩⟩
  case round =>
   clear H'
   obtain ⟨x4_1, x5_1, x16_1, rfl, rfl, HA, HK1, HO_4, HB⟩ := hrel
   cases gk with
   | zero => exact absurd HA.out (by simp [phi_Ahead.l0])
   | succ k1 =>
    have H := HA.out
    clear HA
    simp only [phi_Ahead.l0] at H
    rcases ifC H with ⟨c9b0, H⟩ | ⟨c9b0, H⟩
    ·obtain ⟨c10b0, c11b0, H⟩ := ifD2 H
     obtain ⟨c12b0, c13b0, H⟩ := ifD2 H
     generalize hy507 : (x4_1.set ((rd l0 x16_1) : Int).toNat x5_1 : List Int) = y507 at H
     try simp only [Option.bind_some] at H
     have Ny507 := Aside0.mk hy507.symm
     clear hy507
     have H' := Aside0.mk H
     clear H
     obtain ⟨ad506, e506, hx506_0, p506, q506⟩ := rIO HB.out HR0.out x16_1
     cases e506
     have p14 : 0 ≤ ((rd l0 x16_1) : Int) := dT
     have q14 : ((rd l0 x16_1) : Int) < ((x4_1.length : Int) : Int) := dT
     obtain ⟨go14, co14, eo14, gb14, gl14, cl14, HG14⟩ := Kd.R_form HO_4.out (by omega)
     (first | cases eo14 | (injection eo14 with ea_ en_ ec_; (first | subst ea_ | (injection ea_ with ea_; subst ea_)); subst ec_; clear en_))
     have GB14 := Aside0.mk gb14
     have GG14 := Aside0.mk HG14
     clear gb14 gl14 HG14
     obtain ⟨hx14_0, hf14_0⟩ := Kd.R_celln 0 HO_4.out ((rd l0 x16_1) : Int) p14 q14
     replace p14 := eq_true p14
     replace q14 := eq_true q14
     have HP15 := Kd.R_putg HO_4.out ((rd l0 x16_1) : Int) x5_1
     go_wp2_with (first | ((with_reducible refine gate_store (t := 3) (p := 24) rfl ?_); refine store_event (t := 3) (p := 24) (v := ?vo_w16) (w1 := (wr.setCell ⟨go14, ((rd l0 x16_1) : Int).toNat, none⟩ (.int .i64 x5_1))) ?hg ?ho ?hn ?hr ?_; (case ho => rfl); (case hg => rfl); (case hn => rfl); (case hr => first | (go_simp; done) | (go_simp; rfl)); intro w16 hw; have hg : wr.grownBy w16 (some go14) := (by rw [hw]; exact HP15.2); have hp_ : Kd.R (Kd.int .i64) 3 w16 w.heap.size (fun _ => True) (.slice (some ⟨go14, 0, none⟩) x4_1.length co14) y507 := (by rw [hw, Ny507.out]; exact HP15.1); clear HP15; have n0_ := Aside0.mk (hp_); have n1_ := Aside0.mk ((by rw [hw]; exact below_set (HB.out) GB14.out : Below w.heap.size w w16)); clear HO_4 HB; have HO_4 := n0_; have HB := n1_; clear n0_ n1_; clear hg hw hp_))
     go_roundg k1
     case measure => have := HK1.out; omega
     case rel => exact ⟨(y507), (rd l0 x16_1), (wrap64 (x16_1 + 1)), sD, sD, H', ⟨by have := HK1.out; omega⟩, ⟨uR HO_4.out⟩, ⟨uB⟩⟩
    ·simp only [Option.some.injEq, Prod.mk.injEq] at H
     obtain ⟨rfl, rfl⟩ := H
     go_wp2
     go_ret2
     exact ⟨_, eR, uR HO_4.out, uB⟩
 ·replace c3 := Bool.eq_false_iff.mpr c3
  subst c3
  rw [if_neg (by decide)] at H
  simp only [Option.some.injEq, Prod.mk.injEq] at H
  obtain ⟨rfl, rfl⟩ := H
  go_enter Tryz.func99, Tryz.ntmps99
  go_wp2_with (first | ((with_reducible refine gate_callee (f := 70) rfl ?_); refine goesL_ (some 9) rfl rfl Tryz.func70 (by kernel_rfl) rfl #[.slice A0 l0.length c0] rfl aE ?_; (with_reducible refine (rank_Is.calls k _ _ l0 false _ ?side1 ?side2 A2.out).mono ?_); (case side1 => exact uC HR0.out); (case side2 => exact HC0.out); rintro e w17 ⟨rfl, hb⟩; refine ⟨_, rfl, ?_⟩; have n0_ := Aside0.mk (below_step uB hb); clear HB; have HB := n0_; clear n0_))
  go_ret2
  exact ⟨_, eR, nL, uB⟩
def phi_falls.l0 : Nat → List Int → List Int → List Int → List Int → Int → Int → Option (Bool)
  | 0, _, _, _, _, _, _ => none
  | k + 1, x0, x1, x5, x18, x19, x20 => if x20 < x19 then (if 0 ≤ x20 then (if x20 < (x18.length : Int) then (if x20 = 0 then (phi_falls.l0 k x0 x1 x5 x18 x19 (wrap64 (x20 + 1))) else (if 0 ≤ (wrap64 (x20 - 1)) then (if (wrap64 (x20 - 1)) < (x1.length : Int) then (if 0 ≤ (rd x1 (wrap64 (x20 - 1))) then (if (rd x1 (wrap64 (x20 - 1))) < (x0.length : Int) then (if 0 ≤ (rd x18 x20) then (if (rd x18 x20) < (x0.length : Int) then (if (rd x0 (rd x1 (wrap64 (x20 - 1)))) > (rd x0 (rd x18 x20)) then (some false) else (if (rd x0 (rd x1 (wrap64 (x20 - 1)))) = (rd x0 (rd x18 x20)) then (if 0 ≤ (wrap64 ((rd x1 (wrap64 (x20 - 1))) + 1)) then (if (wrap64 ((rd x1 (wrap64 (x20 - 1))) + 1)) < (x5.length : Int) then (if 0 ≤ (wrap64 ((rd x18 x20) + 1)) then (if (wrap64 ((rd x18 x20) + 1)) < (x5.length : Int) then (if (rd x5 (wrap64 ((rd x1 (wrap64 (x20 - 1))) + 1))) > (rd x5 (wrap64 ((rd x18 x20) + 1))) then (some false) else (phi_falls.l0 k x0 x1 x5 x18 x19 (wrap64 (x20 + 1)))) else (none)) else (none)) else (none)) else (none)) else (phi_falls.l0 k x0 x1 x5 x18 x19 (wrap64 (x20 + 1))))) else (none)) else (none)) else (none)) else (none)) else (none)) else (none))) else (none)) else (none)) else (some true)
def phi_falls.f (k : Nat) (l0 : List Int) (l1 : List Int) : Option (Bool) := (rank_Inverse.f k l1).bind fun bt508 => (if bt508.1.length < 17592186044416 then (phi_falls.l0 k l0 l1 (bt508.1 ++ [(-1)]) l1 (l1.length : Int) 0) else (none))
theorem phi_falls.mono_l : ∀ k, (∀ y0 y1 y2 y3 y4 y5, LeO (phi_falls.l0 k y0 y1 y2 y3 y4 y5) (phi_falls.l0 (k + 1) y0 y1 y2 y3 y4 y5))
  | 0 => fun _ _ _ _ _ _ r h => by simp [phi_falls.l0] at h
  | k + 1 => by
    have ih0 := phi_falls.mono_l k
    · intro y0 y1 y2 y3 y4 y5
      unfold phi_falls.l0
      have m0 := @rank_Inverse.mono
      exact mB
theorem phi_falls.mono : ∀ a0 a1 k, LeO (phi_falls.f k a0 a1) (phi_falls.f (k + 1) a0 a1) := by
  intro a0 a1 k
  have ih0 := phi_falls.mono_l k
  unfold phi_falls.f
  have m0 := @rank_Inverse.mono
  exact mB
theorem phi_falls.calls (k : Nat) (A0 : Option Addr) (c0 : Nat) (l0 : List Int) (A1 : Option Addr) (c1 : Nat) (l1 : List Int) (r : Bool) (w : World) (hr0 : Kd.C (Kd.int .u8) w A0 l0.length l0) (hc0 : l0.length ≤ c0) (hr1 : Kd.C (Kd.int .i64) w A1 l1.length l1) (hc1 : l1.length ≤ c1) (h : phi_falls.f k l0 l1 = some r) :
    Calls Tryz.prog 100 #[.slice A0 l0.length c0, .slice A1 l1.length c1] w fun e w' => e = .returned (.bool r) ∧ Below w.heap.size w w' := by
 have HR0 := Aside0.mk hr0
 have HC0 := Aside0.mk hc0
 clear hr0 hc0
 have HR1 := Aside0.mk hr1
 have HC1 := Aside0.mk hc1
 clear hr1 hc1
 have HB := Aside0.mk (Below.refl w.heap.size w)
 have H := h
 clear h
 unfold phi_falls.f at H
 obtain ⟨⟨t508, t509⟩, A3, H⟩ := bdS H
 try dsimp only at H
 obtain ⟨c4, H⟩ := ifP H
 have LMc4 := Aside0.mk c4
 clear c4
 generalize hy512 : (t508 ++ [(-1)] : List Int) = y512 at H
 try simp only [Option.bind_some] at H
 have Ny512 := Aside0.mk hy512.symm
 clear hy512
 have H' := Aside0.mk H
 clear H
 go_enter Tryz.func100, Tryz.ntmps100
 go_wp2_with (first | (go_at_call 72; (with_reducible refine (rank_Inverse.calls k _ _ l1 t508 t509 _ ?side1 ?side2 A3.out).mono ?_); (case side1 => exact uC HR1.out); (case side2 => exact HC1.out); rintro e w5 ⟨v510, rfl, ho0, hb⟩; have n0_ := Aside0.mk (Kd.R_lower ho0 (below_size uB)); have n1_ := Aside0.mk (below_step uB hb); clear HB; have HO511 := n0_; have HB := n1_; clear n0_ n1_) | ((with_reducible refine gate_builtin (b := .append) (xs := #[.tmp 15, .tmp 16]) rfl ?_); at_builtin; refine Kd.R_append (Kd.int .i64) (w0 := w) w.heap.size rfl (.tmp 15) (.tmp 16) 29 3 (.int .i64 0) 8 rfl Tryz.underlying29 info3 rfl (by decide) (by omega) v510 t508 (-1) [.int .i64 (-1)] (fun _ => True) (fun _ => False) rfl rfl ?aP (fun _ hk => hk.elim) ?aF ?aO ?aB ?aS ?aL ?_; (case aP => exact rfl); (case aB => exact uB); (case aF => exact (fun _ _ => trivial)); (case aO => exact (uR HO511.out)); (case aS => exact (below_size uB)); (case aL => have := LMc4.out; omega); intro v513 w6 ho hb hg hat; rw [← Ny512.out] at ho; have n0_ := Aside0.mk (hb); have n1_ := Aside0.mk (ho); clear HB HO511; have HB := n0_; have HO514 := n1_; clear n0_ n1_; clear ho hb hg hat))
 repeat (go_quiet (first | (go_at_call 72; (with_reducible refine (rank_Inverse.calls k _ _ l1 t508 t509 _ ?side1 ?side2 A3.out).mono ?_); (case side1 => exact uC HR1.out); (case side2 => exact HC1.out); rintro e w5 ⟨v510, rfl, ho0, hb⟩; have n0_ := Aside0.mk (Kd.R_lower ho0 (below_size uB)); have n1_ := Aside0.mk (below_step uB hb); clear HB; have HO511 := n0_; have HB := n1_; clear n0_ n1_) | ((with_reducible refine gate_builtin (b := .append) (xs := #[.tmp 15, .tmp 16]) rfl ?_); at_builtin; refine Kd.R_append (Kd.int .i64) (w0 := w) w.heap.size rfl (.tmp 15) (.tmp 16) 29 3 (.int .i64 0) 8 rfl Tryz.underlying29 info3 rfl (by decide) (by omega) v510 t508 (-1) [.int .i64 (-1)] (fun _ => True) (fun _ => False) rfl rfl ?aP (fun _ hk => hk.elim) ?aF ?aO ?aB ?aS ?aL ?_; (case aP => exact rfl); (case aB => exact uB); (case aF => exact (fun _ _ => trivial)); (case aO => exact (uR HO511.out)); (case aS => exact (below_size uB)); (case aL => have := LMc4.out; omega); intro v513 w6 ho hb hg hat; rw [← Ny512.out] at ho; have n0_ := Aside0.mk (hb); have n1_ := Aside0.mk (ho); clear HB HO511; have HB := n0_; have HO514 := n1_; clear n0_ n1_; clear ho hb hg hat)); try go_wp2_with (first | (go_at_call 72; (with_reducible refine (rank_Inverse.calls k _ _ l1 t508 t509 _ ?side1 ?side2 A3.out).mono ?_); (case side1 => exact uC HR1.out); (case side2 => exact HC1.out); rintro e w5 ⟨v510, rfl, ho0, hb⟩; have n0_ := Aside0.mk (Kd.R_lower ho0 (below_size uB)); have n1_ := Aside0.mk (below_step uB hb); clear HB; have HO511 := n0_; have HB := n1_; clear n0_ n1_) | ((with_reducible refine gate_builtin (b := .append) (xs := #[.tmp 15, .tmp 16]) rfl ?_); at_builtin; refine Kd.R_append (Kd.int .i64) (w0 := w) w.heap.size rfl (.tmp 15) (.tmp 16) 29 3 (.int .i64 0) 8 rfl Tryz.underlying29 info3 rfl (by decide) (by omega) v510 t508 (-1) [.int .i64 (-1)] (fun _ => True) (fun _ => False) rfl rfl ?aP (fun _ hk => hk.elim) ?aF ?aO ?aB ?aS ?aL ?_; (case aP => exact rfl); (case aB => exact uB); (case aF => exact (fun _ _ => trivial)); (case aO => exact (uR HO511.out)); (case aS => exact (below_size uB)); (case aL => have := LMc4.out; omega); intro v513 w6 ho hb hg hat; rw [← Ny512.out] at ho; have n0_ := Aside0.mk (hb); have n1_ := Aside0.mk (ho); clear HB HO511; have HB := n0_; have HO514 := n1_; clear n0_ n1_; clear ho hb hg hat)))
 go_loopg [20] k (fun kq v20 w' => ∃ (x20_1 : Int), v20 = .int .i64 x20_1 ∧ Aside0 (phi_falls.l0 kq l0 l1 y512 l1 (l1.length : Int) x20_1 = some r) ∧ Aside0 (kq ≤ k) ∧ Aside0 (Kd.R (Kd.int .i64) 3 w' w.heap.size (fun _ => True) v513 y512) ∧ Aside0 (Below w.heap.size w w'))
 case atStart => exact ⟨(0), sD, H', ⟨Nat.le_refl _⟩, ⟨uR HO514.out⟩, ⟨uB⟩⟩
 case round =>
  clear H'
  obtain ⟨x20_1, rfl, HA, HK1, HO_5, HB⟩ := hrel
  cases gk with
  | zero => exact absurd HA.out (by simp [phi_falls.l0])
  | succ k1 =>
   have H := HA.out
   clear HA
   simp only [phi_falls.l0] at H
   rcases ifC H with ⟨c7b0, H⟩ | ⟨c7b0, H⟩
   ·obtain ⟨c8b0, c9b0, H⟩ := ifD2 H
    by_cases c10 : x20_1 = 0
    ·rw [if_pos c10] at H
     have c10b0 : (x20_1 == 0) = true := beq_iff_eq.mpr c10
     have c10b1 : (x20_1 != 0) = false := bne_eq_false_iff_eq.mpr c10
     clear c10
     have H' := Aside0.mk H
     clear H
     obtain ⟨ad515, e515, hx515_0, p515, q515⟩ := rIO HB.out HR1.out x20_1
     cases e515
     go_wp2
     repeat (go_quiet (fail); try go_wp2)
     go_roundg k1
     case measure => have := HK1.out; omega
     case rel => exact ⟨(wrap64 (x20_1 + 1)), sD, H', ⟨by have := HK1.out; omega⟩, ⟨uR HO_5.out⟩, ⟨uB⟩⟩
    ·rw [if_neg c10] at H
     have c10b0 : (x20_1 == 0) = false := beq_eq_false_iff_ne.mpr c10
     have c10b1 : (x20_1 != 0) = true := bne_iff_ne.mpr c10
     obtain ⟨ji11, hji11⟩ : ∃ j_ : Int, (wrap64 (x20_1 - 1)) = j_ := ⟨_, rfl⟩
     first | rw [hji11] at H | simp only [hji11] at H
     have hji11w : (IntKind.i64.wrap (x20_1 - 1)) = ji11 := (i64_w _).trans hji11
     obtain ⟨c12b0, c13b0, H⟩ := ifD2 H
     obtain ⟨c14b0, c15b0, H⟩ := ifD2 H
     obtain ⟨c16b0, c17b0, H⟩ := ifD2 H
     rcases ifK H with ⟨c18b0, H⟩ | ⟨c18b0, H⟩
     ·obtain rfl := Option.some.inj H
      obtain ⟨ad515, e515, hx515_0, p515, q515⟩ := rIO HB.out HR1.out x20_1
      cases e515
      obtain ⟨ad516, e516, hx516_0, p516, q516⟩ := rIO HB.out HR1.out (ji11)
      obtain rfl : ad515 = ad516 := (by injection e516)
      obtain ⟨ad517, e517, hx517_0, p517, q517⟩ := rIO HB.out HR0.out (rd l1 (ji11))
      cases e517
      obtain ⟨ad518, e518, hx518_0, p518, q518⟩ := rIO HB.out HR0.out (rd l1 x20_1)
      obtain rfl : ad517 = ad518 := (by injection e518)
      go_wp2
      repeat (go_quiet (fail); try go_wp2)
      go_ret
      exact ⟨by first | rfl | (simp [errW_none, errW_some] <;> rfl) | (simp only [← hji11]; first | rfl | (simp [errW_none, errW_some] <;> rfl)) | (simp [*, errW_none, errW_some] <;> rfl), uB⟩
     ·by_cases c19 : (rd l0 (rd l1 (ji11))) = (rd l0 (rd l1 x20_1))
      ·rw [if_pos c19] at H
       have c19b0 : ((rd l0 (rd l1 (ji11))) == (rd l0 (rd l1 x20_1))) = true := beq_iff_eq.mpr c19
       have c19b1 : ((rd l0 (rd l1 (ji11))) != (rd l0 (rd l1 x20_1))) = false := bne_eq_false_iff_eq.mpr c19
       clear c19
       obtain ⟨ji20, hji20⟩ : ∃ j_ : Int, (wrap64 ((rd l1 (ji11)) + 1)) = j_ := ⟨_, rfl⟩
       first | rw [hji20] at H | simp only [hji20] at H
       have hji20w : (IntKind.i64.wrap ((rd l1 (ji11)) + 1)) = ji20 := (i64_w _).trans hji20
       obtain ⟨c21b0, c22b0, H⟩ := ifD2 H
       obtain ⟨ji23, hji23⟩ : ∃ j_ : Int, (wrap64 ((rd l1 x20_1) + 1)) = j_ := ⟨_, rfl⟩
       first | rw [hji23] at H | simp only [hji23] at H
       have hji23w : (IntKind.i64.wrap ((rd l1 x20_1) + 1)) = ji23 := (i64_w _).trans hji23
       obtain ⟨c24b0, c25b0, H⟩ := ifD2 H
       rcases ifK H with ⟨c26b0, H⟩ | ⟨c26b0, H⟩
       ·obtain rfl := Option.some.inj H
        obtain ⟨ad515, e515, hx515_0, p515, q515⟩ := rIO HB.out HR1.out x20_1
        cases e515
        obtain ⟨ad516, e516, hx516_0, p516, q516⟩ := rIO HB.out HR1.out (ji11)
        obtain rfl : ad515 = ad516 := (by injection e516)
        obtain ⟨ad517, e517, hx517_0, p517, q517⟩ := rIO HB.out HR0.out (rd l1 (ji11))
        cases e517
        obtain ⟨ad518, e518, hx518_0, p518, q518⟩ := rIO HB.out HR0.out (rd l1 x20_1)
        obtain rfl : ad517 = ad518 := (by injection e518)
        obtain ⟨ad519, e519, hx519_0, p519, q519⟩ := rIO HB.out HR0.out (rd l1 (ji11))
        obtain rfl : ad517 = ad519 := (by injection e519)
        obtain ⟨ad520, e520, hx520_0, p520, q520⟩ := rIO HB.out HR0.out (rd l1 x20_1)
        obtain rfl : ad517 = ad520 := (by injection e520)
        obtain ⟨Ao27, co27, eo27⟩ := Kd.R_slice HO_5.out
        subst eo27
        obtain ⟨ad521, e521, hx521_0, p521, q521⟩ := rI (Kd.R_reads' HO_5.out).2.2 (ji20)
        cases e521
        obtain ⟨ad522, e522, hx522_0, p522, q522⟩ := rI (Kd.R_reads' HO_5.out).2.2 (ji23)
        obtain rfl : ad521 = ad522 := (by injection e522)
        go_wp2
        repeat (go_quiet (fail); try go_wp2)
        go_ret
        exact ⟨by first | rfl | (simp [errW_none, errW_some] <;> rfl) | (simp only [← hji11, ← hji20, ← hji23]; first | rfl | (simp [errW_none, errW_some] <;> rfl)) | (simp [*, errW_none, errW_some] <;> rfl), uB⟩
       ·have H' := Aside0.mk H
        clear H
        obtain ⟨ad515, e515, hx515_0, p515, q515⟩ := rIO HB.out HR1.out x20_1
        cases e515
        obtain ⟨ad516, e516, hx516_0, p516, q516⟩ := rIO HB.out HR1.out (ji11)
        obtain rfl : ad515 = ad516 := (by injection e516)
        obtain ⟨ad517, e517, hx517_0, p517, q517⟩ := rIO HB.out HR0.out (rd l1 (ji11))
        cases e517
        obtain ⟨ad518, e518, hx518_0, p518, q518⟩ := rIO HB.out HR0.out (rd l1 x20_1)
        obtain rfl : ad517 = ad518 := (by injection e518)
        obtain ⟨ad519, e519, hx519_0, p519, q519⟩ := rIO HB.out HR0.out (rd l1 (ji11))
        obtain rfl : ad517 = ad519 := (by injection e519)
        obtain ⟨ad520, e520, hx520_0, p520, q520⟩ := rIO HB.out HR0.out (rd l1 x20_1)
        obtain rfl : ad517 = ad520 := (by injection e520)
        obtain ⟨Ao28, co28, eo28⟩ := Kd.R_slice HO_5.out
        subst eo28
        obtain ⟨ad521, e521, hx521_0, p521, q521⟩ := rI (Kd.R_reads' HO_5.out).2.2 (ji20)
        cases e521
        obtain ⟨ad522, e522, hx522_0, p522, q522⟩ := rI (Kd.R_reads' HO_5.out).2.2 (ji23)
        obtain rfl : ad521 = ad522 := (by injection e522)
        go_wp2
        repeat (go_quiet (fail); try go_wp2)
        go_roundg k1
        case measure => have := HK1.out; omega
        case rel => exact ⟨(wrap64 (x20_1 + 1)), sD, H', ⟨by have := HK1.out; omega⟩, ⟨uR HO_5.out⟩, ⟨uB⟩⟩
      ·rw [if_neg c19] at H
       have c19b0 : ((rd l0 (rd l1 (ji11))) == (rd l0 (rd l1 x20_1))) = false := beq_eq_false_iff_ne.mpr c19
       have c19b1 : ((rd l0 (rd l1 (ji11))) != (rd l0 (rd l1 x20_1))) = true := bne_iff_ne.mpr c19
       have H' := Aside0.mk H
       clear H
       obtain ⟨ad515, e515, hx515_0, p515, q515⟩ := rIO HB.out HR1.out x20_1
       cases e515
       obtain ⟨ad516, e516, hx516_0, p516, q516⟩ := rIO HB.out HR1.out (ji11)
       obtain rfl : ad515 = ad516 := (by injection e516)
       obtain ⟨ad517, e517, hx517_0, p517, q517⟩ := rIO HB.out HR0.out (rd l1 (ji11))
       cases e517
       obtain ⟨ad518, e518, hx518_0, p518, q518⟩ := rIO HB.out HR0.out (rd l1 x20_1)
       obtain rfl : ad517 = ad518 := (by injection e518)
       obtain ⟨ad519, e519, hx519_0, p519, q519⟩ := rIO HB.out HR0.out (rd l1 (ji11))
       obtain rfl : ad517 = ad519 := (by injection e519)
       obtain ⟨ad520, e520, hx520_0, p520, q520⟩ := rIO HB.out HR0.out (rd l1 x20_1)
       obtain rfl : ad517 = ad520 := (by injection e520)
       go_wp2
       repeat (go_quiet (fail); try go_wp2)
       go_roundg k1
       case measure => have := HK1.out; omega
       case rel => exact ⟨(wrap64 (x20_1 + 1)), sD, H', ⟨by have := HK1.out; omega⟩, ⟨uR HO_5.out⟩, ⟨uB⟩⟩
   ·obtain rfl := Option.some.inj H
    go_wp2
    repeat (go_quiet (fail); try go_wp2)
    go_ret
    exact ⟨eR, uB⟩
mutual
def phi_PLCP.j0 : Nat → List Int → List Int → List Int → Bool → Option (List Int × Bool)
  | 0, _, _, _, _ => none
  | k + 1, x0, x1, x6, x26 => if x26 = true then (some (([] : List Int), false)) else ((phi_falls.f k x0 x1).bind fun t527 => (if 0 ≤ (x1.length : Int) then (if ((x1.length : Int) : Int).toNat ≤ 35184372088832 then (phi_PLCP.l0 k x0 t527 (List.replicate ((x1.length : Int) : Int).toNat 0) 0 x6 (x6.length : Int) 0) else (none)) else (none)))
def phi_PLCP.l0 : Nat → List Int → Bool → List Int → Int → List Int → Int → Int → Option (List Int × Bool)
  | 0, _, _, _, _, _, _, _ => none
  | k + 1, x0, x8, x9, x10, x33, x34, x35 => if x35 < x34 then (if 0 ≤ x35 then (if x35 < (x33.length : Int) then (if (rd x33 x35) = (-1) then (if x35 < (x9.length : Int) then (phi_PLCP.l0 k x0 x8 (x9.set (x35 : Int).toNat 0) 0 x33 x34 (wrap64 (x35 + 1))) else (none)) else (if x8 = true then ((lex_Common.f k x0 (wrap64 (x35 + (mx (wrap64 (x10 - 1)) 0))) (wrap64 ((rd x33 x35) + (mx (wrap64 (x10 - 1)) 0)))).bind fun t533 => (if x35 < (x9.length : Int) then (phi_PLCP.l0 k x0 x8 (x9.set (x35 : Int).toNat (wrap64 ((mx (wrap64 (x10 - 1)) 0) + t533))) (wrap64 ((mx (wrap64 (x10 - 1)) 0) + t533)) x33 x34 (wrap64 (x35 + 1))) else (none))) else ((lex_Common.f k x0 x35 (rd x33 x35)).bind fun t535 => (if x35 < (x9.length : Int) then (phi_PLCP.l0 k x0 x8 (x9.set (x35 : Int).toNat t535) t535 x33 x34 (wrap64 (x35 + 1))) else (none))))) else (none)) else (none)) else (some (x9, true))
end
def phi_PLCP.f (k : Nat) (l0 : List Int) (l1 : List Int) : Option (List Int × Bool) := (phi_Ahead.f k l1).bind fun bt523 => (if bt523.2 = true then (phi_PLCP.j0 k l0 l1 bt523.1 ((l1.length : Int) != (l0.length : Int))) else (phi_PLCP.j0 k l0 l1 bt523.1 true))
theorem phi_PLCP.mono_l : ∀ k, (∀ y0 y1 y2 y3, LeO (phi_PLCP.j0 k y0 y1 y2 y3) (phi_PLCP.j0 (k + 1) y0 y1 y2 y3)) ∧ (∀ y0 y1 y2 y3 y4 y5 y6, LeO (phi_PLCP.l0 k y0 y1 y2 y3 y4 y5 y6) (phi_PLCP.l0 (k + 1) y0 y1 y2 y3 y4 y5 y6))
  | 0 => ⟨fun _ _ _ _ r h => by simp [phi_PLCP.j0] at h, fun _ _ _ _ _ _ _ r h => by simp [phi_PLCP.l0] at h⟩
  | k + 1 => by
    obtain ⟨ih0, ih1⟩ := phi_PLCP.mono_l k
    refine ⟨?_, ?_⟩
    · intro y0 y1 y2 y3
      unfold phi_PLCP.j0
      have m0 := @lex_Common.mono
      have m1 := @phi_Ahead.mono
      have m2 := @phi_falls.mono
      exact mB
    · intro y0 y1 y2 y3 y4 y5 y6
      unfold phi_PLCP.l0
      have m0 := @lex_Common.mono
      have m1 := @phi_Ahead.mono
      have m2 := @phi_falls.mono
      exact mB
theorem phi_PLCP.mono : ∀ a0 a1 k, LeO (phi_PLCP.f k a0 a1) (phi_PLCP.f (k + 1) a0 a1) := by
  intro a0 a1 k
  obtain ⟨ih0, ih1⟩ := phi_PLCP.mono_l k
  unfold phi_PLCP.f
  have m0 := @lex_Common.mono
  have m1 := @phi_Ahead.mono
  have m2 := @phi_falls.mono
  exact mB
theorem phi_PLCP.calls (k : Nat) (A0 : Option Addr) (c0 : Nat) (l0 : List Int) (A1 : Option Addr) (c1 : Nat) (l1 : List Int) (r1 : List Int) (r2 : Bool) (w : World) (hr0 : Kd.C (Kd.int .u8) w A0 l0.length l0) (hc0 : l0.length ≤ c0) (hr1 : Kd.C (Kd.int .i64) w A1 l1.length l1) (hc1 : l1.length ≤ c1) (h : phi_PLCP.f k l0 l1 = some (r1, r2)) :
    Calls Tryz.prog 83 #[.slice A0 l0.length c0, .slice A1 l1.length c1] w fun e w' => ∃ v0_ : Value, e = .returned (.tuple #[v0_, .bool r2]) ∧ Kd.R (Kd.int .i64) 3 w' w.heap.size (fun _ => True) v0_ r1 ∧ Below w.heap.size w w' := by
 have HR0 := Aside0.mk hr0
 have HC0 := Aside0.mk hc0
 clear hr0 hc0
 have HR1 := Aside0.mk hr1
 have HC1 := Aside0.mk hc1
 clear hr1 hc1
 have HB := Aside0.mk (Below.refl w.heap.size w)
 have H := h
 clear h
 unfold phi_PLCP.f at H
 obtain ⟨⟨t523, t524⟩, A3, H⟩ := bdS H
 try dsimp only at H
 have HC4 := Aside0.mk H
 clear H
 go_enter Tryz.func83, Tryz.ntmps83
 go_upto_region 2 with (first | ((with_reducible refine gate_callee (f := 99) rfl ?_); refine goesL_ (some 15) rfl rfl Tryz.func99 (by kernel_rfl) rfl #[.slice A1 l1.length c1] rfl aE ?_; (with_reducible refine (phi_Ahead.calls k _ _ l1 t523 t524 _ ?side1 ?side2 A3.out).mono ?_); (case side1 => exact uC HR1.out); (case side2 => exact HC1.out); rintro e w5 ⟨v525, rfl, ho0, hb⟩; refine ⟨_, rfl, ?_⟩; have n0_ := Aside0.mk (Kd.R_lower ho0 (below_size uB)); have n1_ := Aside0.mk (below_step uB hb); clear HB; have HO526 := n0_; have HB := n1_; clear n0_ n1_))
 (try simp only [Act.put, List.setIfInBounds_toArray, List.set_cons_zero, List.set_cons_succ])
 go_cut [26] (fun v26 wc => ∃ (kq : Nat) (x26_3 : Bool), v26 = .bool x26_3 ∧ Aside0 (phi_PLCP.j0 kq l0 l1 t523 x26_3 = some (r1, r2)) ∧ Aside0 (kq ≤ k) ∧ Aside0 (Kd.R (Kd.int .i64) 3 wc w.heap.size (fun _ => True) v525 t523) ∧ Aside0 (Below w.heap.size w wc))
 case first =>
  have H := HC4.out
  clear HC4
  by_cases c6 : t524 = true
  ·subst c6
   rw [if_pos rfl] at H
   have H' := Aside0.mk H
   clear H
   go_wp2
   go_meet
   case rel => exact ⟨_, (((l1.length : Int) != (l0.length : Int))), sD, H', ⟨by first | omega | exact Nat.le_refl _⟩, ⟨uR HO526.out⟩, ⟨uB⟩⟩
  ·replace c6 := Bool.eq_false_iff.mpr c6
   subst c6
   rw [if_neg (by decide)] at H
   have H' := Aside0.mk H
   clear H
   go_wp2
   go_meet
   case rel => exact ⟨_, (true), sD, H', ⟨by first | omega | exact Nat.le_refl _⟩, ⟨uR HO526.out⟩, ⟨uB⟩⟩
 case rest =>
  clear HC4
  obtain ⟨kq, x26_3, rfl, HA, HJ3, HO_6, HB⟩ := hcut
  cases kq with
  | zero => exact absurd HA.out (by simp [phi_PLCP.j0])
  | succ kj3 =>
   have H := HA.out
   clear HA
   simp only [phi_PLCP.j0] at H
   by_cases c7 : x26_3 = true
   ·subst c7
    rw [if_pos rfl] at H
    simp only [Option.some.injEq, Prod.mk.injEq] at H
    obtain ⟨rfl, rfl⟩ := H
    go_wp2
    go_ret2
    exact ⟨_, eR, nL, uB⟩
   ·replace c7 := Bool.eq_false_iff.mpr c7
    subst c7
    rw [if_neg (by decide)] at H
    obtain ⟨t527, A8, H⟩ := bdS H
    try dsimp only at H
    obtain ⟨c9b0, c9b1, H⟩ := ifE H
    obtain ⟨c10b0, c10b1, H⟩ := ifE H
    generalize hy528 : (List.replicate ((l1.length : Int) : Int).toNat 0 : List Int) = y528 at H
    try simp only [Option.bind_some] at H
    have Ny528 := Aside0.mk hy528.symm
    clear hy528
    have H' := Aside0.mk H
    clear H
    go_wp2_with (first | ((with_reducible refine gate_callee (f := 100) rfl ?_); refine goesL_ (some 29) rfl rfl Tryz.func100 (by kernel_rfl) rfl #[.slice A0 l0.length c0, .slice A1 l1.length c1] rfl aE ?_; (with_reducible refine (phi_falls.calls kj3 _ _ l0 _ _ l1 t527 _ ?side1 ?side2 ?side3 ?side4 A8.out).mono ?_); (case side1 => exact uC (Kd.C_below HR0.out HB.out)); (case side2 => exact HC0.out); (case side3 => exact uC (Kd.C_below HR1.out HB.out)); (case side4 => exact HC1.out); rintro e w11 ⟨rfl, hb⟩; refine ⟨_, rfl, ?_⟩; have n0_ := Aside0.mk (Kd.R_below (uR HO_6.out) hb); have n1_ := Aside0.mk (below_step uB hb); clear HO_6 HB; have HO_6 := n0_; have HB := n1_; clear n0_ n1_) | ((with_reducible refine gate_dst (N := 32) rfl ?_); (try (refine gate_guard (by rfl) ?_; dsimp only)); refine Kd.R_make (Kd.int .i64) _ 3 rfl (N := 32) rfl 29 _ _ rfl (l1.length : Int) rfl rfl Tryz.underlying29 (.int .i64 0) 8 info3 rfl (by decide) (by omega) 0 (ok := fun _ => True) (okp := fun _ => True) rfl (fun _ hk => hk) trivial dT (Nat.le_trans (Nat.mul_le_mul_right _ (dT : (l1.length : Int).toNat ≤ 35184372088832)) (by omega)) (Below.refl _ _) (Nat.le_refl _) ?_; intro v529 w12 ho13 hb hg_ hnew_; clear hg_ hnew_; (first | rw [← Ny528.out] at ho13 | (simp only [Int.reduceToNat] at ho13; rw [← Ny528.out] at ho13)); have n0_ := Aside0.mk (Kd.R_elder' (uR HO_6.out) (Kd.R_base ho13) hb); have n1_ := Aside0.mk (Kd.R_lower (Kd.R_new' ho13 (Kd.R_lt (uR HO_6.out))) (below_size uB)); have n2_ := Aside0.mk (below_step uB hb); clear HO_6 HB; have HO_6 := n0_; have HO530 := n1_; have HB := n2_; clear n0_ n1_ n2_; clear hb ho13; obtain ⟨Ao14, co14, eo14⟩ := Kd.R_slice HO_6.out; subst eo14))
    go_loopg [10, 35] kj3 (fun kq v10 v35 w' => ∃ (x9_2 : List Int) (x10_2 : Int) (x35_2 : Int), v10 = .int .i64 x10_2 ∧ v35 = .int .i64 x35_2 ∧ Aside0 (phi_PLCP.l0 kq l0 t527 x9_2 x10_2 t523 (t523.length : Int) x35_2 = some (r1, r2)) ∧ Aside0 (kq ≤ kj3) ∧ Aside0 (Kd.R (Kd.int .i64) 3 w' w.heap.size (fun k_ => some k_ ≠ ((.slice Ao14 t523.length co14) : Value).ownBlock) v529 x9_2) ∧ Aside0 (Kd.R (Kd.int .i64) 3 w' w.heap.size (fun k_ => some k_ ≠ (v529 : Value).ownBlock) (.slice Ao14 t523.length co14) t523) ∧ Aside0 (Below w.heap.size w w'))
    case atStart => exact ⟨(y528), (0), (0), sD, sD, H', ⟨Nat.le_refl _⟩, ⟨by (with_reducible repeat (first | apply Kd.R_alloc | apply Kd.R_drewN | apply Kd.R_drew)); exact Kd.R_mono HO530.out (fun _ hk => hk.2)⟩, ⟨by (with_reducible repeat (first | apply Kd.R_alloc | apply Kd.R_drewN | apply Kd.R_drew)); exact Kd.R_mono HO_6.out (fun _ hk => hk.2)⟩, ⟨uB⟩⟩
    case round =>
     clear H'
     obtain ⟨x9_2, x10_2, x35_2, rfl, rfl, HA, HK2, HO_9, HO_33, HB⟩ := hrel
     cases gk with
     | zero => exact absurd HA.out (by simp [phi_PLCP.l0])
     | succ k2 =>
      have H := HA.out
      clear HA
      simp only [phi_PLCP.l0] at H
      rcases ifC H with ⟨c15b0, H⟩ | ⟨c15b0, H⟩
      ·obtain ⟨c16b0, c17b0, H⟩ := ifD2 H
       obtain ⟨ji18, hji18⟩ : ∃ j_ : Int, (mx (wrap64 (x10_2 - 1)) 0) = j_ := ⟨_, rfl⟩
       first | rw [hji18] at H | simp only [hji18] at H
       have hji18_ : (if (wrap64 (x10_2 - 1)) < 0 then 0 else (wrap64 (x10_2 - 1))) = ji18 := hji18
       by_cases c19 : (rd t523 x35_2) = (-1)
       ·rw [if_pos c19] at H
        have c19b0 : ((rd t523 x35_2) == (-1)) = true := beq_iff_eq.mpr c19
        have c19b1 : ((rd t523 x35_2) != (-1)) = false := bne_eq_false_iff_eq.mpr c19
        clear c19
        obtain ⟨c20b0, H⟩ := ifD H
        generalize hy532 : (x9_2.set (x35_2 : Int).toNat 0 : List Int) = y532 at H
        try simp only [Option.bind_some] at H
        have Ny532 := Aside0.mk hy532.symm
        clear hy532
        have H' := Aside0.mk H
        clear H
        obtain ⟨ad531, e531, hx531_0, p531, q531⟩ := rI (Kd.R_reads' HO_33.out).2.2 x35_2
        cases e531
        have p21 : 0 ≤ (x35_2 : Int) := dT
        have q21 : (x35_2 : Int) < ((x9_2.length : Int) : Int) := dT
        obtain ⟨go21, co21, eo21, gb21, gl21, cl21, HG21⟩ := Kd.R_form HO_9.out (by omega)
        (first | cases eo21 | (injection eo21 with ea_ en_ ec_; (first | subst ea_ | (injection ea_ with ea_; subst ea_)); subst ec_; clear en_))
        have GB21 := Aside0.mk gb21
        have GG21 := Aside0.mk HG21
        clear gb21 gl21 HG21
        obtain ⟨hx21_0, hf21_0⟩ := Kd.R_celln 0 HO_9.out (x35_2 : Int) p21 q21
        replace p21 := eq_true p21
        replace q21 := eq_true q21
        have HP22 := Kd.R_putg HO_9.out (x35_2 : Int) 0
        go_wp2_with (first | ((with_reducible refine gate_store (t := 3) (p := 65) rfl ?_); refine store_event (t := 3) (p := 65) (v := ?vo_w23) (w1 := (wr.setCell ⟨go21, (x35_2 : Int).toNat, none⟩ (.int .i64 0))) ?hg ?ho ?hn ?hr ?_; (case ho => rfl); (case hg => rfl); (case hn => rfl); (case hr => first | (go_simp; done) | (go_simp; rfl)); intro w23 hw; have hg : wr.grownBy w23 (some go21) := (by rw [hw]; exact HP22.2); have hp_ : Kd.R (Kd.int .i64) 3 w23 w.heap.size (fun k_ => some k_ ≠ (.slice (some ad531) t523.length co14 : Value).ownBlock) (.slice (some ⟨go21, 0, none⟩) x9_2.length co21) y532 := (by rw [hw, Ny532.out]; exact HP22.1); clear HP22; have n0_ := Aside0.mk (hp_); have n1_ := Aside0.mk (Kd.R_after (v := (.slice (some ⟨go21, 0, none⟩) x9_2.length co21)) (v1 := (.slice (some ⟨go21, 0, none⟩) x9_2.length co21)) (ok := (fun _ => True)) (by (with_reducible repeat (first | apply Kd.R_alloc | apply Kd.R_drewN | apply Kd.R_drew)); exact Kd.R_mono HO_33.out (fun _ hk => ⟨trivial, hk⟩)) hg (.inl rfl)); have n2_ := Aside0.mk ((by rw [hw]; exact below_set (HB.out) GB21.out : Below w.heap.size w w23)); clear HO_9 HO_33 HB; have HO_9 := n0_; have HO_33 := n1_; have HB := n2_; clear n0_ n1_ n2_; clear hg hw hp_))
        go_roundg k2
        case measure => have := HJ3.out; have := HK2.out; omega
        case rel => exact ⟨(y532), (0), (wrap64 (x35_2 + 1)), sD, sD, H', ⟨by have := HJ3.out; have := HK2.out; omega⟩, ⟨uR HO_9.out⟩, ⟨by (with_reducible repeat (first | apply Kd.R_alloc | apply Kd.R_drewN | apply Kd.R_drew)); exact Kd.R_mono HO_33.out (fun _ hk => hk.2)⟩, ⟨uB⟩⟩
       ·rw [if_neg c19] at H
        have c19b0 : ((rd t523 x35_2) == (-1)) = false := beq_eq_false_iff_ne.mpr c19
        have c19b1 : ((rd t523 x35_2) != (-1)) = true := bne_iff_ne.mpr c19
        by_cases c24 : t527 = true
        ·subst c24
         rw [if_pos rfl] at H
         obtain ⟨t533, A25, H⟩ := bdS H
         try dsimp only at H
         obtain ⟨c26b0, H⟩ := ifD H
         generalize hy534 : (x9_2.set (x35_2 : Int).toNat (wrap64 ((ji18) + t533)) : List Int) = y534 at H
         try simp only [Option.bind_some] at H
         have Ny534 := Aside0.mk hy534.symm
         clear hy534
         have H' := Aside0.mk H
         clear H
         obtain ⟨ad531, e531, hx531_0, p531, q531⟩ := rI (Kd.R_reads' HO_33.out).2.2 x35_2
         cases e531
         go_wp2_with (first | ((with_reducible refine gate_callee (f := 82) rfl ?_); refine goesL_ (some 60) rfl rfl Tryz.func82 (by kernel_rfl) rfl #[.slice A0 l0.length c0, .int .i64 (wrap64 (x35_2 + (ji18))), .int .i64 (wrap64 ((rd t523 x35_2) + (ji18)))] rfl (by (try simp only [List.map_toArray, List.map_cons, List.map_nil]); first | done | (simp only [hji18]; rfl) | rfl | (simp only [List.length_drop, List.length_take]; rfl)) ?_; (with_reducible refine (lex_Common.calls k2 _ _ l0 (wrap64 (x35_2 + (ji18))) (wrap64 ((rd t523 x35_2) + (ji18))) t533 _ ?side1 ?side2 A25.out).mono ?_); (case side1 => exact uC (Kd.C_below HR0.out HB.out)); (case side2 => exact HC0.out); rintro e w28 ⟨rfl, hb⟩; refine ⟨_, rfl, ?_⟩; have n0_ := Aside0.mk (Kd.R_below (uR HO_9.out) hb); have n1_ := Aside0.mk (Kd.R_below (uR HO_33.out) hb); have n2_ := Aside0.mk (below_step uB hb); clear HO_9 HO_33 HB; have HO_9 := n0_; have HO_33 := n1_; have HB := n2_; clear n0_ n1_ n2_; have p27 : 0 ≤ (x35_2 : Int) := dT; have q27 : (x35_2 : Int) < ((x9_2.length : Int) : Int) := dT; obtain ⟨go27, co27, eo27, gb27, gl27, cl27, HG27⟩ := Kd.R_form HO_9.out (by omega); (first | cases eo27 | (injection eo27 with ea_ en_ ec_; (first | subst ea_ | (injection ea_ with ea_; subst ea_)); subst ec_; clear en_)); have GB27 := Aside0.mk gb27; have GG27 := Aside0.mk HG27; clear gb27 gl27 HG27; obtain ⟨hx27_0, hf27_0⟩ := Kd.R_celln 0 HO_9.out (x35_2 : Int) p27 q27; replace p27 := eq_true p27; replace q27 := eq_true q27; obtain ⟨hy29_, hz29_⟩ := Kd.R_celln 0 HO_9.out (x35_2 : Int) dT dT; have HP29 := Kd.R_putg HO_9.out (x35_2 : Int) (wrap64 ((ji18) + t533))) | ((with_reducible refine gate_store (t := 3) (p := 65) rfl ?_); refine store_event (t := 3) (p := 65) (v := ?vo_w30) (w1 := (w28.setCell ⟨go27, (x35_2 : Int).toNat, none⟩ (.int .i64 (wrap64 ((ji18) + t533))))) ?hg ?ho ?hn ?hr ?_; (case ho => rfl); (case hg => rfl); (case hn => rfl); (case hr => first | (go_simp; done) | (go_simp; rfl)); intro w30 hw; have hg : w28.grownBy w30 (some go27) := (by rw [hw]; exact HP29.2); have hp_ : Kd.R (Kd.int .i64) 3 w30 w.heap.size (fun k_ => some k_ ≠ (.slice (some ad531) t523.length co14 : Value).ownBlock) (.slice (some ⟨go27, 0, none⟩) x9_2.length co27) y534 := (by rw [hw, Ny534.out]; exact HP29.1); clear HP29; have n0_ := Aside0.mk (hp_); have n1_ := Aside0.mk (Kd.R_after (v := (.slice (some ⟨go27, 0, none⟩) x9_2.length co27)) (v1 := (.slice (some ⟨go27, 0, none⟩) x9_2.length co27)) (ok := (fun _ => True)) (by (with_reducible repeat (first | apply Kd.R_alloc | apply Kd.R_drewN | apply Kd.R_drew)); exact Kd.R_mono HO_33.out (fun _ hk => ⟨trivial, hk⟩)) hg (.inl rfl)); have n2_ := Aside0.mk ((by rw [hw]; exact below_set (HB.out) GB27.out : Below w.heap.size w w30)); clear HO_9 HO_33 HB; have HO_9 := n0_; have HO_33 := n1_; have HB := n2_; clear n0_ n1_ n2_; clear hg hw hp_))
         go_roundg k2
         case measure => have := HJ3.out; have := HK2.out; omega
         case rel => exact ⟨(y534), (wrap64 ((ji18) + t533)), (wrap64 (x35_2 + 1)), (by first | rfl | (simp; done) | (simp only [← hji18] <;> (first | rfl | simp)) | (simp [*]; done)), sD, H', ⟨by have := HJ3.out; have := HK2.out; omega⟩, ⟨uR HO_9.out⟩, ⟨by (with_reducible repeat (first | apply Kd.R_alloc | apply Kd.R_drewN | apply Kd.R_drew)); exact Kd.R_mono HO_33.out (fun _ hk => hk.2)⟩, ⟨uB⟩⟩
        ·replace c24 := Bool.eq_false_iff.mpr c24
         subst c24
         rw [if_neg (by decide)] at H
         obtain ⟨t535, A31, H⟩ := bdS H
         try dsimp only at H
         obtain ⟨c32b0, H⟩ := ifD H
         generalize hy536 : (x9_2.set (x35_2 : Int).toNat t535 : List Int) = y536 at H
         try simp only [Option.bind_some] at H
         have Ny536 := Aside0.mk hy536.symm
         clear hy536
         have H' := Aside0.mk H
         clear H
         obtain ⟨ad531, e531, hx531_0, p531, q531⟩ := rI (Kd.R_reads' HO_33.out).2.2 x35_2
         cases e531
         go_wp2_with (first | ((with_reducible refine gate_callee (f := 82) rfl ?_); refine goesL_ (some 46) rfl rfl Tryz.func82 (by kernel_rfl) rfl #[.slice A0 l0.length c0, .int .i64 x35_2, .int .i64 (rd t523 x35_2)] rfl aE ?_; (with_reducible refine (lex_Common.calls k2 _ _ l0 x35_2 (rd t523 x35_2) t535 _ ?side1 ?side2 A31.out).mono ?_); (case side1 => exact uC (Kd.C_below HR0.out HB.out)); (case side2 => exact HC0.out); rintro e w34 ⟨rfl, hb⟩; refine ⟨_, rfl, ?_⟩; have n0_ := Aside0.mk (Kd.R_below (uR HO_9.out) hb); have n1_ := Aside0.mk (Kd.R_below (uR HO_33.out) hb); have n2_ := Aside0.mk (below_step uB hb); clear HO_9 HO_33 HB; have HO_9 := n0_; have HO_33 := n1_; have HB := n2_; clear n0_ n1_ n2_; have p33 : 0 ≤ (x35_2 : Int) := dT; have q33 : (x35_2 : Int) < ((x9_2.length : Int) : Int) := dT; obtain ⟨go33, co33, eo33, gb33, gl33, cl33, HG33⟩ := Kd.R_form HO_9.out (by omega); (first | cases eo33 | (injection eo33 with ea_ en_ ec_; (first | subst ea_ | (injection ea_ with ea_; subst ea_)); subst ec_; clear en_)); have GB33 := Aside0.mk gb33; have GG33 := Aside0.mk HG33; clear gb33 gl33 HG33; obtain ⟨hx33_0, hf33_0⟩ := Kd.R_celln 0 HO_9.out (x35_2 : Int) p33 q33; replace p33 := eq_true p33; replace q33 := eq_true q33; obtain ⟨hy35_, hz35_⟩ := Kd.R_celln 0 HO_9.out (x35_2 : Int) dT dT; have HP35 := Kd.R_putg HO_9.out (x35_2 : Int) t535) | ((with_reducible refine gate_store (t := 3) (p := 65) rfl ?_); refine store_event (t := 3) (p := 65) (v := ?vo_w36) (w1 := (w34.setCell ⟨go33, (x35_2 : Int).toNat, none⟩ (.int .i64 t535))) ?hg ?ho ?hn ?hr ?_; (case ho => rfl); (case hg => rfl); (case hn => rfl); (case hr => first | (go_simp; done) | (go_simp; rfl)); intro w36 hw; have hg : w34.grownBy w36 (some go33) := (by rw [hw]; exact HP35.2); have hp_ : Kd.R (Kd.int .i64) 3 w36 w.heap.size (fun k_ => some k_ ≠ (.slice (some ad531) t523.length co14 : Value).ownBlock) (.slice (some ⟨go33, 0, none⟩) x9_2.length co33) y536 := (by rw [hw, Ny536.out]; exact HP35.1); clear HP35; have n0_ := Aside0.mk (hp_); have n1_ := Aside0.mk (Kd.R_after (v := (.slice (some ⟨go33, 0, none⟩) x9_2.length co33)) (v1 := (.slice (some ⟨go33, 0, none⟩) x9_2.length co33)) (ok := (fun _ => True)) (by (with_reducible repeat (first | apply Kd.R_alloc | apply Kd.R_drewN | apply Kd.R_drew)); exact Kd.R_mono HO_33.out (fun _ hk => ⟨trivial, hk⟩)) hg (.inl rfl)); have n2_ := Aside0.mk ((by rw [hw]; exact below_set (HB.out) GB33.out : Below w.heap.size w w36)); clear HO_9 HO_33 HB; have HO_9 := n0_; have HO_33 := n1_; have HB := n2_; clear n0_ n1_ n2_; clear hg hw hp_))
         go_roundg k2
         case measure => have := HJ3.out; have := HK2.out; omega
         case rel => exact ⟨(y536), (t535), (wrap64 (x35_2 + 1)), sD, sD, H', ⟨by have := HJ3.out; have := HK2.out; omega⟩, ⟨uR HO_9.out⟩, ⟨by (with_reducible repeat (first | apply Kd.R_alloc | apply Kd.R_drewN | apply Kd.R_drew)); exact Kd.R_mono HO_33.out (fun _ hk => hk.2)⟩, ⟨uB⟩⟩
      ·simp only [Option.some.injEq, Prod.mk.injEq] at H
       obtain ⟨rfl, rfl⟩ := H
       go_wp2
       go_ret2
       exact ⟨_, eR, by (with_reducible repeat (first | apply Kd.R_alloc | apply Kd.R_drewN | apply Kd.R_drew)); exact Kd.R_mono HO_9.out (fun _ hk => trivial), uB⟩
def phi_LCP.l0 : Nat → List Int → List Int → List Int → Int → Int → Option (List Int × Bool)
  | 0, _, _, _, _, _ => none
  | k + 1, x6, x8, x22, x23, x24 => if x24 < x23 then (if 0 ≤ x24 then (if x24 < (x22.length : Int) then (if 0 ≤ (rd x22 x24) then (if (rd x22 x24) < (x6.length : Int) then (if x24 < (x8.length : Int) then (phi_LCP.l0 k x6 (x8.set (x24 : Int).toNat (rd x6 (rd x22 x24))) x22 x23 (wrap64 (x24 + 1))) else (none)) else (none)) else (none)) else (none)) else (none)) else (some (x8, true))
def phi_LCP.f (k : Nat) (l0 : List Int) (l1 : List Int) : Option (List Int × Bool) := (phi_PLCP.f k l0 l1).bind fun bt537 => (if bt537.2 = true then (if 0 ≤ (l1.length : Int) then (if ((l1.length : Int) : Int).toNat ≤ 35184372088832 then (phi_LCP.l0 k bt537.1 (List.replicate ((l1.length : Int) : Int).toNat 0) l1 (l1.length : Int) 0) else (none)) else (none)) else (some (([] : List Int), false)))
theorem phi_LCP.mono_l : ∀ k, (∀ y0 y1 y2 y3 y4, LeO (phi_LCP.l0 k y0 y1 y2 y3 y4) (phi_LCP.l0 (k + 1) y0 y1 y2 y3 y4))
  | 0 => fun _ _ _ _ _ r h => by simp [phi_LCP.l0] at h
  | k + 1 => by
    have ih0 := phi_LCP.mono_l k
    · intro y0 y1 y2 y3 y4
      unfold phi_LCP.l0
      have m0 := @phi_PLCP.mono
      exact mB
theorem phi_LCP.mono : ∀ a0 a1 k, LeO (phi_LCP.f k a0 a1) (phi_LCP.f (k + 1) a0 a1) := by
  intro a0 a1 k
  have ih0 := phi_LCP.mono_l k
  unfold phi_LCP.f
  have m0 := @phi_PLCP.mono
  exact mB
theorem phi_LCP.calls (k : Nat) (A0 : Option Addr) (c0 : Nat) (l0 : List Int) (A1 : Option Addr) (c1 : Nat) (l1 : List Int) (r1 : List Int) (r2 : Bool) (w : World) (hr0 : Kd.C (Kd.int .u8) w A0 l0.length l0) (hc0 : l0.length ≤ c0) (hr1 : Kd.C (Kd.int .i64) w A1 l1.length l1) (hc1 : l1.length ≤ c1) (h : phi_LCP.f k l0 l1 = some (r1, r2)) :
    Calls Tryz.prog 62 #[.slice A0 l0.length c0, .slice A1 l1.length c1] w fun e w' => ∃ v0_ : Value, e = .returned (.tuple #[v0_, .bool r2]) ∧ Kd.R (Kd.int .i64) 3 w' w.heap.size (fun _ => True) v0_ r1 ∧ Below w.heap.size w w' := by
 have HR0 := Aside0.mk hr0
 have HC0 := Aside0.mk hc0
 clear hr0 hc0
 have HR1 := Aside0.mk hr1
 have HC1 := Aside0.mk hc1
 clear hr1 hc1
 have HB := Aside0.mk (Below.refl w.heap.size w)
 have H := h
 clear h
 unfold phi_LCP.f at H
 obtain ⟨⟨t537, t538⟩, A3, H⟩ := bdS H
 try dsimp only at H
 by_cases c4 : t538 = true
 ·subst c4
  rw [if_pos rfl] at H
  obtain ⟨c5b0, c5b1, H⟩ := ifE H
  obtain ⟨c6b0, c6b1, H⟩ := ifE H
  generalize hy541 : (List.replicate ((l1.length : Int) : Int).toNat 0 : List Int) = y541 at H
  try simp only [Option.bind_some] at H
  have Ny541 := Aside0.mk hy541.symm
  clear hy541
  have H' := Aside0.mk H
  clear H
  go_enter Tryz.func62, Tryz.ntmps62
  go_wp2_with (first | ((with_reducible refine gate_callee (f := 83) rfl ?_); refine goesL_ (some 14) rfl rfl Tryz.func83 (by kernel_rfl) rfl #[.slice A0 l0.length c0, .slice A1 l1.length c1] rfl aE ?_; (with_reducible refine (phi_PLCP.calls k _ _ l0 _ _ l1 t537 true _ ?side1 ?side2 ?side3 ?side4 A3.out).mono ?_); (case side1 => exact uC HR0.out); (case side2 => exact HC0.out); (case side3 => exact uC HR1.out); (case side4 => exact HC1.out); rintro e w7 ⟨v539, rfl, ho0, hb⟩; refine ⟨_, rfl, ?_⟩; have n0_ := Aside0.mk (Kd.R_lower ho0 (below_size uB)); have n1_ := Aside0.mk (below_step uB hb); clear HB; have HO540 := n0_; have HB := n1_; clear n0_ n1_) | ((with_reducible refine gate_dst (N := 21) rfl ?_); refine Kd.R_make (Kd.int .i64) _ 3 rfl (N := 21) rfl 29 _ _ rfl (l1.length : Int) rfl rfl Tryz.underlying29 (.int .i64 0) 8 info3 rfl (by decide) (by omega) 0 (ok := fun _ => True) (okp := fun _ => True) rfl (fun _ hk => hk) trivial dT (Nat.le_trans (Nat.mul_le_mul_right _ (dT : (l1.length : Int).toNat ≤ 35184372088832)) (by omega)) (Below.refl _ _) (Nat.le_refl _) ?_; intro v542 w8 ho9 hb hg_ hnew_; clear hg_ hnew_; (first | rw [← Ny541.out] at ho9 | (simp only [Int.reduceToNat] at ho9; rw [← Ny541.out] at ho9)); have n0_ := Aside0.mk (Kd.R_elder' (uR HO540.out) (Kd.R_base ho9) hb); have n1_ := Aside0.mk (Kd.R_lower (Kd.R_new' ho9 (Kd.R_lt (uR HO540.out))) (below_size uB)); have n2_ := Aside0.mk (below_step uB hb); clear HO540 HB; have HO540 := n0_; have HO543 := n1_; have HB := n2_; clear n0_ n1_ n2_; clear hb ho9))
  go_loopg [24] k (fun kq v24 w' => ∃ (x8_1 : List Int) (x24_1 : Int), v24 = .int .i64 x24_1 ∧ Aside0 (phi_LCP.l0 kq t537 x8_1 l1 (l1.length : Int) x24_1 = some (r1, r2)) ∧ Aside0 (kq ≤ k) ∧ Aside0 (Kd.R (Kd.int .i64) 3 w' w.heap.size (fun k_ => some k_ ≠ (v542 : Value).ownBlock) v539 t537) ∧ Aside0 (Kd.R (Kd.int .i64) 3 w' w.heap.size (fun k_ => some k_ ≠ (v539 : Value).ownBlock) v542 x8_1) ∧ Aside0 (Below w.heap.size w w'))
  case atStart => exact ⟨(y541), (0), sD, H', ⟨Nat.le_refl _⟩, ⟨by (with_reducible repeat (first | apply Kd.R_alloc | apply Kd.R_drewN | apply Kd.R_drew)); exact Kd.R_mono HO540.out (fun _ hk => hk.2)⟩, ⟨by (with_reducible repeat (first | apply Kd.R_alloc | apply Kd.R_drewN | apply Kd.R_drew)); exact Kd.R_mono HO543.out (fun _ hk => hk.2)⟩, ⟨uB⟩⟩
  case round =>
   clear H'
   obtain ⟨x8_1, x24_1, rfl, HA, HK1, HO_6, HO_8, HB⟩ := hrel
   cases gk with
   | zero => exact absurd HA.out (by simp [phi_LCP.l0])
   | succ k1 =>
    have H := HA.out
    clear HA
    simp only [phi_LCP.l0] at H
    rcases ifC H with ⟨c10b0, H⟩ | ⟨c10b0, H⟩
    ·obtain ⟨c11b0, H⟩ := ifD H
     obtain ⟨c12b0, c13b0, H⟩ := ifD2 H
     obtain ⟨c14b0, c15b0, H⟩ := ifD2 H
     generalize hy546 : (x8_1.set (x24_1 : Int).toNat (rd t537 (rd l1 x24_1)) : List Int) = y546 at H
     try simp only [Option.bind_some] at H
     have Ny546 := Aside0.mk hy546.symm
     clear hy546
     have H' := Aside0.mk H
     clear H
     obtain ⟨ad544, e544, hx544_0, p544, q544⟩ := rIO HB.out HR1.out x24_1
     cases e544
     obtain ⟨Ao17, co17, eo17⟩ := Kd.R_slice HO_6.out
     subst eo17
     obtain ⟨ad545, e545, hx545_0, p545, q545⟩ := rI (Kd.R_reads' HO_6.out).2.2 (rd l1 x24_1)
     cases e545
     have p16 : 0 ≤ (x24_1 : Int) := dT
     have q16 : (x24_1 : Int) < ((x8_1.length : Int) : Int) := dT
     obtain ⟨go16, co16, eo16, gb16, gl16, cl16, HG16⟩ := Kd.R_form HO_8.out (by omega)
     (first | cases eo16 | (injection eo16 with ea_ en_ ec_; (first | subst ea_ | (injection ea_ with ea_; subst ea_)); subst ec_; clear en_))
     have GB16 := Aside0.mk gb16
     have GG16 := Aside0.mk HG16
     clear gb16 gl16 HG16
     obtain ⟨hx16_0, hf16_0⟩ := Kd.R_celln 0 HO_8.out (x24_1 : Int) p16 q16
     replace p16 := eq_true p16
     replace q16 := eq_true q16
     have HP18 := Kd.R_putg HO_8.out (x24_1 : Int) (rd t537 (rd l1 x24_1))
     go_wp2_with (first | ((with_reducible refine gate_store (t := 3) (p := 35) rfl ?_); refine store_event (t := 3) (p := 35) (v := ?vo_w19) (w1 := (wr.setCell ⟨go16, (x24_1 : Int).toNat, none⟩ (.int .i64 (rd t537 (rd l1 x24_1))))) ?hg ?ho ?hn ?hr ?_; (case ho => rfl); (case hg => rfl); (case hn => rfl); (case hr => first | (go_simp; done) | (go_simp; rfl)); intro w19 hw; have hg : wr.grownBy w19 (some go16) := (by rw [hw]; exact HP18.2); have hp_ : Kd.R (Kd.int .i64) 3 w19 w.heap.size (fun k_ => some k_ ≠ (.slice (some ad545) t537.length co17 : Value).ownBlock) (.slice (some ⟨go16, 0, none⟩) x8_1.length co16) y546 := (by rw [hw, Ny546.out]; exact HP18.1); clear HP18; have n0_ := Aside0.mk (Kd.R_after (v := (.slice (some ⟨go16, 0, none⟩) x8_1.length co16)) (v1 := (.slice (some ⟨go16, 0, none⟩) x8_1.length co16)) (ok := (fun _ => True)) (by (with_reducible repeat (first | apply Kd.R_alloc | apply Kd.R_drewN | apply Kd.R_drew)); exact Kd.R_mono HO_6.out (fun _ hk => ⟨trivial, hk⟩)) hg (.inl rfl)); have n1_ := Aside0.mk (hp_); have n2_ := Aside0.mk ((by rw [hw]; exact below_set (HB.out) GB16.out : Below w.heap.size w w19)); clear HO_6 HO_8 HB; have HO_6 := n0_; have HO_8 := n1_; have HB := n2_; clear n0_ n1_ n2_; clear hg hw hp_))
     go_roundg k1
     case measure => have := HK1.out; omega
     case rel => exact ⟨(y546), (wrap64 (x24_1 + 1)), sD, H', ⟨by have := HK1.out; omega⟩, ⟨by (with_reducible repeat (first | apply Kd.R_alloc | apply Kd.R_drewN | apply Kd.R_drew)); exact Kd.R_mono HO_6.out (fun _ hk => hk.2)⟩, ⟨uR HO_8.out⟩, ⟨uB⟩⟩
    ·simp only [Option.some.injEq, Prod.mk.injEq] at H
     obtain ⟨rfl, rfl⟩ := H
     go_wp2
     go_ret2
     exact ⟨_, eR, by (with_reducible repeat (first | apply Kd.R_alloc | apply Kd.R_drewN | apply Kd.R_drew)); exact Kd.R_mono HO_8.out (fun _ hk => trivial), uB⟩
 ·replace c4 := Bool.eq_false_iff.mpr c4
  subst c4
  rw [if_neg (by decide)] at H
  simp only [Option.some.injEq, Prod.mk.injEq] at H
  obtain ⟨rfl, rfl⟩ := H
  go_enter Tryz.func62, Tryz.ntmps62
  go_wp2_with (first | ((with_reducible refine gate_callee (f := 83) rfl ?_); refine goesL_ (some 14) rfl rfl Tryz.func83 (by kernel_rfl) rfl #[.slice A0 l0.length c0, .slice A1 l1.length c1] rfl aE ?_; (with_reducible refine (phi_PLCP.calls k _ _ l0 _ _ l1 t537 false _ ?side1 ?side2 ?side3 ?side4 A3.out).mono ?_); (case side1 => exact uC HR0.out); (case side2 => exact HC0.out); (case side3 => exact uC HR1.out); (case side4 => exact HC1.out); rintro e w20 ⟨v539, rfl, ho0, hb⟩; refine ⟨_, rfl, ?_⟩; have n0_ := Aside0.mk (Kd.R_lower ho0 (below_size uB)); have n1_ := Aside0.mk (below_step uB hb); clear HB; have HO540 := n0_; have HB := n1_; clear n0_ n1_))
  go_ret2
  exact ⟨_, eR, nL, uB⟩
end Go.Proofs.YtbbpplnnegdenaaGreat.PTopBij
end
