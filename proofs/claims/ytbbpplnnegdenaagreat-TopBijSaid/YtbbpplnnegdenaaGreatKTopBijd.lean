/- Words, functions, walks and plain mathematics for TopBij, part 4: laid together by a program of this session (pack.py). -/
import Derived.Test.YtbbpplnnegdenaaGreatKTopBijc
set_option linter.unusedVariables false
set_option linter.unusedSimpArgs false
set_option maxHeartbeats 8000000
set_option maxRecDepth 100000
section
namespace Go.Proofs.YtbbpplnnegdenaaGreat.PTopBij
open Go.RowKit Go.Proofs.YtbbpplnnegdenaaGreatW.PrintWords Go.Proofs.YtbbpplnnegdenaaGreatW.PrintLast Go.Proofs.YtbbpplnnegdenaaGreatW.PrintMore
attribute [local go_sem] max2_int min2_int max_two min_two max_three min_three max_four min_four
mutual
def skew_ranked.l0 (sf : List Int → Int → Option (List Int)) : Nat → List Int → Int → List Int → List Int → Int → Option (List Int × List Int)
  | 0, _, _, _, _, _ => none
  | k + 1, x0, x1, x4, x6, x7 => if x7 ≥ 0 then ((skew_keys.f k x0 x7).bind fun t243 => ((bucket_Pass.f k x4 t243 (wrap64 (x1 + 1))).bind fun bt246 => (skew_ranked.l0 sf k x0 x1 bt246.1 x6 (wrap64 (x7 - 1))))) else (if 0 ≤ (wrap64 ((x0.length : Int) + 3)) then (if (wrap64 ((x0.length : Int) + 3) : Int).toNat ≤ 35184372088832 then (skew_ranked.l1 sf k x0 x4 (List.replicate (wrap64 ((x0.length : Int) + 3) : Int).toNat 0) x6 0 x4 (x4.length : Int) 0) else (none)) else (none))
def skew_ranked.l1 (sf : List Int → Int → Option (List Int)) : Nat → List Int → List Int → List Int → List Int → Int → List Int → Int → Int → Option (List Int × List Int)
  | 0, _, _, _, _, _, _, _, _ => none
  | k + 1, x0, x4, x5, x6, x8, x43, x44, x45 => if x45 < x44 then (if 0 ≤ x45 then (if x45 < (x43.length : Int) then (if x45 = 0 then (if 0 ≤ (rd x43 x45) then (if (rd x43 x45) < (x5.length : Int) then (skew_ranked.l1 sf k x0 x4 (x5.set ((rd x43 x45) : Int).toNat (wrap64 (x8 + 1))) x6 (wrap64 (x8 + 1)) x43 x44 (wrap64 (x45 + 1))) else (none)) else (none)) else (if 0 ≤ (wrap64 (x45 - 1)) then (if (wrap64 (x45 - 1)) < (x4.length : Int) then ((skew_alike.f k x0 (rd x4 (wrap64 (x45 - 1))) (rd x43 x45)).bind fun t256 => (if t256 = true then (if 0 ≤ (rd x43 x45) then (if (rd x43 x45) < (x5.length : Int) then (skew_ranked.l1 sf k x0 x4 (x5.set ((rd x43 x45) : Int).toNat x8) x6 x8 x43 x44 (wrap64 (x45 + 1))) else (none)) else (none)) else (if 0 ≤ (rd x43 x45) then (if (rd x43 x45) < (x5.length : Int) then (skew_ranked.l1 sf k x0 x4 (x5.set ((rd x43 x45) : Int).toNat (wrap64 (x8 + 1))) x6 (wrap64 (x8 + 1)) x43 x44 (wrap64 (x45 + 1))) else (none)) else (none)))) else (none)) else (none))) else (none)) else (none)) else (if x8 = (x6.length : Int) then (some (x4, x5)) else ((skew_places.f k (x0.length : Int) 1).bind fun t259 => (skew_ranked.l2 sf k x0 x5 x6 x8 t259 ([] : List Int) t259 (t259.length : Int) 0)))
def skew_ranked.l2 (sf : List Int → Int → Option (List Int)) : Nat → List Int → List Int → List Int → Int → List Int → List Int → List Int → Int → Int → Option (List Int × List Int)
  | 0, _, _, _, _, _, _, _, _, _ => none
  | k + 1, x0, x5, x6, x8, x11, x12, x79, x80, x81 => if x81 < x80 then (if 0 ≤ x81 then (if x81 < (x79.length : Int) then (if 0 ≤ (rd x79 x81) then (if (rd x79 x81) < (x5.length : Int) then (if x12.length < 17592186044416 then (skew_ranked.l2 sf k x0 x5 x6 x8 x11 (x12 ++ [rd x5 (rd x79 x81)]) x79 x80 (wrap64 (x81 + 1))) else (none)) else (none)) else (none)) else (none)) else (none)) else (if x12.length < 17592186044416 then ((skew_places.f k (x0.length : Int) 2).bind fun t270 => (skew_ranked.l3 sf k x5 x6 x8 x11 (x12 ++ [0]) t270 (t270.length : Int) 0)) else (none))
def skew_ranked.l3 (sf : List Int → Int → Option (List Int)) : Nat → List Int → List Int → Int → List Int → List Int → List Int → Int → Int → Option (List Int × List Int)
  | 0, _, _, _, _, _, _, _, _ => none
  | k + 1, x5, x6, x8, x11, x12, x98, x99, x100 => if x100 < x99 then (if 0 ≤ x100 then (if x100 < (x98.length : Int) then (if 0 ≤ (rd x98 x100) then (if (rd x98 x100) < (x5.length : Int) then (if x12.length < 17592186044416 then (skew_ranked.l3 sf k x5 x6 x8 x11 (x12 ++ [rd x5 (rd x98 x100)]) x98 x99 (wrap64 (x100 + 1))) else (none)) else (none)) else (none)) else (none)) else (none)) else ((sf x12 (wrap64 (x8 + 1))).bind fun t278 => (skew_ranked.l4 sf k ([] : List Int) x5 x6 x11 t278 (t278.length : Int) 0))
def skew_ranked.l4 (sf : List Int → Int → Option (List Int)) : Nat → List Int → List Int → List Int → List Int → List Int → Int → Int → Option (List Int × List Int)
  | 0, _, _, _, _, _, _, _ => none
  | k + 1, x4, x5, x6, x11, x115, x116, x117 => if x117 < x116 then (if 0 ≤ x117 then (if x117 < (x115.length : Int) then (if (rd x115 x117) < (x11.length : Int) then (if 0 ≤ (rd x115 x117) then (if x4.length < 17592186044416 then (skew_ranked.l4 sf k (x4 ++ [rd x11 (rd x115 x117)]) x5 x6 x11 x115 x116 (wrap64 (x117 + 1))) else (none)) else (none)) else (if (rd x115 x117) > (x11.length : Int) then (if 0 ≤ (wrap64 ((rd x115 x117) - 1)) then (if (wrap64 ((rd x115 x117) - 1)) < (x6.length : Int) then (if x4.length < 17592186044416 then (skew_ranked.l4 sf k (x4 ++ [rd x6 (wrap64 ((rd x115 x117) - 1))]) x5 x6 x11 x115 x116 (wrap64 (x117 + 1))) else (none)) else (none)) else (none)) else (skew_ranked.l4 sf k x4 x5 x6 x11 x115 x116 (wrap64 (x117 + 1))))) else (none)) else (none)) else (skew_ranked.l5 sf k x4 x5 x4 (x4.length : Int) 0)
def skew_ranked.l5 (sf : List Int → Int → Option (List Int)) : Nat → List Int → List Int → List Int → Int → Int → Option (List Int × List Int)
  | 0, _, _, _, _, _ => none
  | k + 1, x4, x5, x147, x148, x149 => if x149 < x148 then (if 0 ≤ x149 then (if x149 < (x147.length : Int) then (if 0 ≤ (rd x147 x149) then (if (rd x147 x149) < (x5.length : Int) then (skew_ranked.l5 sf k x4 (x5.set ((rd x147 x149) : Int).toNat (wrap64 (x149 + 1))) x147 x148 (wrap64 (x149 + 1))) else (none)) else (none)) else (none)) else (none)) else (some (x4, x5))
end
def skew_ranked.f (sf : List Int → Int → Option (List Int)) (k : Nat) (l0 : List Int) (a1 : Int) : Option (List Int × List Int) := (skew_Sample.f k (l0.length : Int)).bind fun t240 => (skew_ranked.l0 sf k l0 a1 t240 t240 2)
theorem skew_ranked.mono_l (sf sf' : List Int → Int → Option (List Int)) (hm : ∀ z0 z1, LeO (sf z0 z1) (sf' z0 z1)) : ∀ k, (∀ y0 y1 y2 y3 y4, LeO (skew_ranked.l0 sf k y0 y1 y2 y3 y4) (skew_ranked.l0 sf' (k + 1) y0 y1 y2 y3 y4)) ∧ (∀ y0 y1 y2 y3 y4 y5 y6 y7, LeO (skew_ranked.l1 sf k y0 y1 y2 y3 y4 y5 y6 y7) (skew_ranked.l1 sf' (k + 1) y0 y1 y2 y3 y4 y5 y6 y7)) ∧ (∀ y0 y1 y2 y3 y4 y5 y6 y7 y8, LeO (skew_ranked.l2 sf k y0 y1 y2 y3 y4 y5 y6 y7 y8) (skew_ranked.l2 sf' (k + 1) y0 y1 y2 y3 y4 y5 y6 y7 y8)) ∧ (∀ y0 y1 y2 y3 y4 y5 y6 y7, LeO (skew_ranked.l3 sf k y0 y1 y2 y3 y4 y5 y6 y7) (skew_ranked.l3 sf' (k + 1) y0 y1 y2 y3 y4 y5 y6 y7)) ∧ (∀ y0 y1 y2 y3 y4 y5 y6, LeO (skew_ranked.l4 sf k y0 y1 y2 y3 y4 y5 y6) (skew_ranked.l4 sf' (k + 1) y0 y1 y2 y3 y4 y5 y6)) ∧ (∀ y0 y1 y2 y3 y4, LeO (skew_ranked.l5 sf k y0 y1 y2 y3 y4) (skew_ranked.l5 sf' (k + 1) y0 y1 y2 y3 y4))
  | 0 => ⟨fun _ _ _ _ _ r h => by simp [skew_ranked.l0] at h, fun _ _ _ _ _ _ _ _ r h => by simp [skew_ranked.l1] at h, fun _ _ _ _ _ _ _ _ _ r h => by simp [skew_ranked.l2] at h, fun _ _ _ _ _ _ _ _ r h => by simp [skew_ranked.l3] at h, fun _ _ _ _ _ _ _ r h => by simp [skew_ranked.l4] at h, fun _ _ _ _ _ r h => by simp [skew_ranked.l5] at h⟩
  | k + 1 => by
    obtain ⟨ih0, ih1, ih2, ih3, ih4, ih5⟩ := skew_ranked.mono_l sf sf' hm k
    refine ⟨?_, ?_, ?_, ?_, ?_, ?_⟩
    · intro y0 y1 y2 y3 y4
      unfold skew_ranked.l0
      have m0 := @bucket_Pass.mono
      have m1 := @skew_Sample.mono
      have m2 := @skew_alike.mono
      have m3 := @skew_keys.mono
      have m4 := @skew_places.mono
      have m5 := @hm
      exact mB
    · intro y0 y1 y2 y3 y4 y5 y6 y7
      unfold skew_ranked.l1
      have m0 := @bucket_Pass.mono
      have m1 := @skew_Sample.mono
      have m2 := @skew_alike.mono
      have m3 := @skew_keys.mono
      have m4 := @skew_places.mono
      have m5 := @hm
      exact mB
    · intro y0 y1 y2 y3 y4 y5 y6 y7 y8
      unfold skew_ranked.l2
      have m0 := @bucket_Pass.mono
      have m1 := @skew_Sample.mono
      have m2 := @skew_alike.mono
      have m3 := @skew_keys.mono
      have m4 := @skew_places.mono
      have m5 := @hm
      exact mB
    · intro y0 y1 y2 y3 y4 y5 y6 y7
      unfold skew_ranked.l3
      have m0 := @bucket_Pass.mono
      have m1 := @skew_Sample.mono
      have m2 := @skew_alike.mono
      have m3 := @skew_keys.mono
      have m4 := @skew_places.mono
      have m5 := @hm
      exact mB
    · intro y0 y1 y2 y3 y4 y5 y6
      unfold skew_ranked.l4
      have m0 := @bucket_Pass.mono
      have m1 := @skew_Sample.mono
      have m2 := @skew_alike.mono
      have m3 := @skew_keys.mono
      have m4 := @skew_places.mono
      have m5 := @hm
      exact mB
    · intro y0 y1 y2 y3 y4
      unfold skew_ranked.l5
      have m0 := @bucket_Pass.mono
      have m1 := @skew_Sample.mono
      have m2 := @skew_alike.mono
      have m3 := @skew_keys.mono
      have m4 := @skew_places.mono
      have m5 := @hm
      exact mB
theorem skew_ranked.mono (sf sf' : List Int → Int → Option (List Int)) (hm : ∀ z0 z1, LeO (sf z0 z1) (sf' z0 z1)) : ∀ a0 a1 k, LeO (skew_ranked.f sf k a0 a1) (skew_ranked.f sf' (k + 1) a0 a1) := by
  intro a0 a1 k
  obtain ⟨ih0, ih1, ih2, ih3, ih4, ih5⟩ := skew_ranked.mono_l sf sf' hm k
  unfold skew_ranked.f
  have m0 := @bucket_Pass.mono
  have m1 := @skew_Sample.mono
  have m2 := @skew_alike.mono
  have m3 := @skew_keys.mono
  have m4 := @skew_places.mono
  have m5 := @hm
  exact mB
theorem skew_ranked.calls (sf : List Int → Int → Option (List Int)) (hsf : ∀ (A0 : Option Addr) (c0 : Nat) (l0 : List Int) (a1 : Int) (r : List Int) (w : World) (hr0 : Kd.C (Kd.int .i64) w A0 l0.length l0) (hc0 : l0.length ≤ c0) (h : sf l0 a1 = some r),
    Calls Tryz.prog 107 #[.slice A0 l0.length c0, .int .i64 a1] w fun e w' => ∃ v0_ : Value, e = .returned (v0_) ∧ Kd.R (Kd.int .i64) 3 w' w.heap.size (fun _ => True) v0_ r ∧ Below w.heap.size w w') (k : Nat) (A0 : Option Addr) (c0 : Nat) (l0 : List Int) (a1 : Int) (r1 : List Int) (r2 : List Int) (w : World) (hr0 : Kd.C (Kd.int .i64) w A0 l0.length l0) (hc0 : l0.length ≤ c0) (h : skew_ranked.f sf k l0 a1 = some (r1, r2)) :
    Calls Tryz.prog 130 #[.slice A0 l0.length c0, .int .i64 a1] w fun e w' => ∃ v0_ v1_ : Value, e = .returned (.tuple #[v0_, v1_]) ∧ Kd.R (Kd.int .i64) 3 w' w.heap.size (fun k_ => some k_ ≠ (v1_ : Value).ownBlock) v0_ r1 ∧ Kd.R (Kd.int .i64) 3 w' w.heap.size (fun k_ => some k_ ≠ (v0_ : Value).ownBlock) v1_ r2 ∧ Below w.heap.size w w' := by
 have HR0 := Aside0.mk hr0
 have HC0 := Aside0.mk hc0
 clear hr0 hc0
 have HB := Aside0.mk (Below.refl w.heap.size w)
 have H := h
 clear h
 unfold skew_ranked.f at H
 obtain ⟨t240, A3, H⟩ := bdS H
 try dsimp only at H
 have H' := Aside0.mk H
 clear H
 go_enter Tryz.func130, Tryz.ntmps130
 go_wp2_with (first | ((with_reducible refine gate_callee (f := 145) rfl ?_); refine goesL_ (some 23) rfl rfl Tryz.func145 (by kernel_rfl) rfl #[.int .i64 (l0.length : Int)] rfl aE ?_; (with_reducible refine (skew_Sample.calls k (l0.length : Int) t240 _ A3.out).mono ?_); rintro e w4 ⟨v241, rfl, ho0, hb⟩; refine ⟨_, rfl, ?_⟩; have n0_ := Aside0.mk (Kd.R_lower ho0 (below_size uB)); have n1_ := Aside0.mk (below_step uB hb); clear HB; have HO242 := n0_; have HB := n1_; clear n0_ n1_))
 go_loopg [4, 7] k (fun kq v4 v7 w' => ∃ (x4_1 : List Int) (x7_1 : Int), v7 = .int .i64 x7_1 ∧ Aside0 (skew_ranked.l0 sf kq l0 a1 x4_1 t240 x7_1 = some (r1, r2)) ∧ Aside0 (kq ≤ k) ∧ Aside0 (Kd.R (Kd.int .i64) 3 w' w.heap.size (fun _ => True) v4 x4_1) ∧ Aside0 (Kd.R (Kd.int .i64) 3 w' w.heap.size (fun _ => True) v241 t240) ∧ Aside0 (Below w.heap.size w w'))
 case atStart => exact ⟨(t240), (2), sD, H', ⟨Nat.le_refl _⟩, ⟨uR HO242.out⟩, ⟨uR HO242.out⟩, ⟨uB⟩⟩
 case round =>
  clear H'
  obtain ⟨x4_1, x7_1, rfl, HA, HK1, HO_4, HO_6, HB⟩ := hrel
  cases gk with
  | zero => exact absurd HA.out (by simp [skew_ranked.l0])
  | succ k1 =>
   have H := HA.out
   clear HA
   simp only [skew_ranked.l0] at H
   rcases ifG H with ⟨c5b0, H⟩ | ⟨c5b0, H⟩
   ·obtain ⟨t243, A6, H⟩ := bdS H
    try dsimp only at H
    obtain ⟨⟨t246, t247⟩, A7, H⟩ := bdS H
    try dsimp only at H
    have H' := Aside0.mk H
    clear H
    go_wp2_with (first | ((with_reducible refine gate_callee (f := 131) rfl ?_); refine goesL_ (some 33) rfl rfl Tryz.func131 (by kernel_rfl) rfl #[.slice A0 l0.length c0, .int .i64 x7_1] rfl aE ?_; (with_reducible refine (skew_keys.calls k1 _ _ l0 x7_1 t243 _ ?side1 ?side2 A6.out).mono ?_); (case side1 => exact uC (Kd.C_below HR0.out HB.out)); (case side2 => exact HC0.out); rintro e w8 ⟨v244, rfl, ho0, hb⟩; refine ⟨_, rfl, ?_⟩; have n0_ := Aside0.mk (Kd.R_elder' (uR HO_4.out) (Kd.R_base ho0) hb); have n1_ := Aside0.mk (Kd.R_elder' (uR HO_6.out) (Kd.R_base ho0) hb); have n2_ := Aside0.mk (Kd.R_lower (Kd.R_new' (Kd.R_new' ho0 (Kd.R_lt (uR HO_4.out))) (Kd.R_lt (uR HO_6.out))) (below_size uB)); have n3_ := Aside0.mk (below_step uB hb); clear HO_4 HO_6 HB; have HO_4 := n0_; have HO_6 := n1_; have HO245 := n2_; have HB := n3_; clear n0_ n1_ n2_ n3_; obtain ⟨Ao9, co9, eo9⟩ := Kd.R_slice HO_4.out; subst eo9; obtain ⟨Ao10, co10, eo10⟩ := Kd.R_slice HO245.out; subst eo10) | ((with_reducible refine gate_callee (f := 71) rfl ?_); refine goesL_ (some 36) rfl rfl Tryz.func71 (by kernel_rfl) rfl #[.slice Ao9 x4_1.length co9, .slice Ao10 t243.length co10, .int .i64 (wrap64 (a1 + 1))] rfl aE ?_; (with_reducible refine (bucket_Pass.calls k1 _ _ x4_1 _ _ t243 (wrap64 (a1 + 1)) t246 t247 _ ?side1 ?side2 ?side3 ?side4 A7.out).mono ?_); (case side1 => exact uC (Kd.R_reads' HO_4.out).2.2); (case side2 => exact (Kd.R_reads' HO_4.out).2.1); (case side3 => exact uC (Kd.R_reads' HO245.out).2.2); (case side4 => exact (Kd.R_reads' HO245.out).2.1); rintro e w11 ⟨v248, rfl, ho0, hb⟩; refine ⟨_, rfl, ?_⟩; have n0_ := Aside0.mk (Kd.R_elder' (uR HO_4.out) (Kd.R_base ho0) hb); have n1_ := Aside0.mk (Kd.R_elder' (uR HO_6.out) (Kd.R_base ho0) hb); have n2_ := Aside0.mk (Kd.R_elder' (uR HO245.out) (Kd.R_base ho0) hb); have n3_ := Aside0.mk (Kd.R_lower (Kd.R_new' (Kd.R_new' (Kd.R_new' ho0 (Kd.R_lt (uR HO_4.out))) (Kd.R_lt (uR HO_6.out))) (Kd.R_lt (uR HO245.out))) (below_size uB)); have n4_ := Aside0.mk (below_step uB hb); clear HO_4 HO_6 HO245 HB; have HO_4 := n0_; have HO_6 := n1_; have HO245 := n2_; have HO249 := n3_; have HB := n4_; clear n0_ n1_ n2_ n3_ n4_))
    go_roundg k1
    case measure => have := HK1.out; omega
    case rel => exact ⟨(t246), (wrap64 (x7_1 - 1)), sD, H', ⟨by have := HK1.out; omega⟩, ⟨by (with_reducible repeat (first | apply Kd.R_alloc | apply Kd.R_drewN | apply Kd.R_drew)); exact Kd.R_mono HO249.out (fun _ hk => trivial)⟩, ⟨by (with_reducible repeat (first | apply Kd.R_alloc | apply Kd.R_drewN | apply Kd.R_drew)); exact Kd.R_mono HO_6.out (fun _ hk => trivial)⟩, ⟨uB⟩⟩
   ·obtain ⟨ji12, hji12⟩ : ∃ j_ : Int, (wrap64 ((l0.length : Int) + 3)) = j_ := ⟨_, rfl⟩
    first | rw [hji12] at H | simp only [hji12] at H
    have hji12w : (IntKind.i64.wrap ((l0.length : Int) + 3)) = ji12 := (i64_w _).trans hji12
    obtain ⟨c13b0, c13b1, H⟩ := ifE H
    obtain ⟨c14b0, c14b1, H⟩ := ifE H
    generalize hy250 : (List.replicate (ji12 : Int).toNat 0 : List Int) = y250 at H
    try simp only [Option.bind_some] at H
    have Ny250 := Aside0.mk hy250.symm
    clear hy250
    have H' := Aside0.mk H
    clear H
    go_wp2_with (first | ((with_reducible refine gate_dst (N := 42) rfl ?_); refine Kd.R_make (Kd.int .i64) _ 3 rfl (N := 42) rfl 29 _ _ rfl ji12 rfl rfl Tryz.underlying29 (.int .i64 0) 8 info3 rfl (by decide) (by omega) 0 (ok := fun _ => True) (okp := fun _ => True) rfl (fun _ hk => hk) trivial dT (Nat.le_trans (Nat.mul_le_mul_right _ (dT : ji12.toNat ≤ 35184372088832)) (by omega)) (Below.refl _ _) (Nat.le_refl _) ?_; intro v251 w15 ho16 hb hg_ hnew_; clear hg_ hnew_; (first | rw [← Ny250.out] at ho16 | (simp only [Int.reduceToNat] at ho16; rw [← Ny250.out] at ho16)); have n0_ := Aside0.mk (Kd.R_elder' (uR HO_4.out) (Kd.R_base ho16) hb); have n1_ := Aside0.mk (Kd.R_elder' (uR HO_6.out) (Kd.R_base ho16) hb); have n2_ := Aside0.mk (Kd.R_lower (Kd.R_new' (Kd.R_new' ho16 (Kd.R_lt (uR HO_4.out))) (Kd.R_lt (uR HO_6.out))) (below_size uB)); have n3_ := Aside0.mk (below_step uB hb); clear HO_4 HO_6 HB; have HO_4 := n0_; have HO_6 := n1_; have HO252 := n2_; have HB := n3_; clear n0_ n1_ n2_ n3_; clear hb ho16; obtain ⟨Ao17, co17, eo17⟩ := Kd.R_slice HO_4.out; subst eo17))
    go_loopg [8, 45] k1 (fun kq v8 v45 w' => ∃ (x5_2 : List Int) (x8_2 : Int) (x45_2 : Int), v8 = .int .i64 x8_2 ∧ v45 = .int .i64 x45_2 ∧ Aside0 (skew_ranked.l1 sf kq l0 x4_1 x5_2 t240 x8_2 x4_1 (x4_1.length : Int) x45_2 = some (r1, r2)) ∧ Aside0 (kq ≤ k1) ∧ Aside0 (Kd.R (Kd.int .i64) 3 w' w.heap.size (fun k_ => some k_ ≠ (v251 : Value).ownBlock) (.slice Ao17 x4_1.length co17) x4_1) ∧ Aside0 (Kd.R (Kd.int .i64) 3 w' w.heap.size (fun k_ => some k_ ≠ ((.slice Ao17 x4_1.length co17) : Value).ownBlock ∧ some k_ ≠ (v241 : Value).ownBlock ∧ some k_ ≠ ((.slice Ao17 x4_1.length co17) : Value).ownBlock) v251 x5_2) ∧ Aside0 (Kd.R (Kd.int .i64) 3 w' w.heap.size (fun k_ => some k_ ≠ (v251 : Value).ownBlock) v241 t240) ∧ Aside0 (Kd.R (Kd.int .i64) 3 w' w.heap.size (fun k_ => some k_ ≠ (v251 : Value).ownBlock) (.slice Ao17 x4_1.length co17) x4_1) ∧ Aside0 (Below w.heap.size w w'))
    case atStart => exact ⟨(y250), (0), (0), sD, sD, H', ⟨Nat.le_refl _⟩, ⟨by (with_reducible repeat (first | apply Kd.R_alloc | apply Kd.R_drewN | apply Kd.R_drew)); exact Kd.R_mono HO_4.out (fun _ hk => hk.2)⟩, ⟨by (with_reducible repeat (first | apply Kd.R_alloc | apply Kd.R_drewN | apply Kd.R_drew)); exact Kd.R_mono HO252.out (fun _ hk => ⟨hk.1.2, ⟨hk.2, hk.1.2⟩⟩)⟩, ⟨by (with_reducible repeat (first | apply Kd.R_alloc | apply Kd.R_drewN | apply Kd.R_drew)); exact Kd.R_mono HO_6.out (fun _ hk => hk.2)⟩, ⟨by (with_reducible repeat (first | apply Kd.R_alloc | apply Kd.R_drewN | apply Kd.R_drew)); exact Kd.R_mono HO_4.out (fun _ hk => hk.2)⟩, ⟨uB⟩⟩
    case round =>
     clear H'
     obtain ⟨x5_2, x8_2, x45_2, rfl, rfl, HA, HK2, HO_4, HO_5, HO_6, HO_43, HB⟩ := hrel
     cases gk with
     | zero => exact absurd HA.out (by simp [skew_ranked.l1])
     | succ k2 =>
      have H := HA.out
      clear HA
      simp only [skew_ranked.l1] at H
      rcases ifC H with ⟨c18b0, H⟩ | ⟨c18b0, H⟩
      ·obtain ⟨c19b0, c20b0, H⟩ := ifD2 H
       by_cases c21 : x45_2 = 0
       ·rw [if_pos c21] at H
        have c21b0 : (x45_2 == 0) = true := beq_iff_eq.mpr c21
        have c21b1 : (x45_2 != 0) = false := bne_eq_false_iff_eq.mpr c21
        clear c21
        obtain ⟨c22b0, c23b0, H⟩ := ifD2 H
        generalize hy254 : (x5_2.set ((rd x4_1 x45_2) : Int).toNat (wrap64 (x8_2 + 1)) : List Int) = y254 at H
        try simp only [Option.bind_some] at H
        have Ny254 := Aside0.mk hy254.symm
        clear hy254
        have H' := Aside0.mk H
        clear H
        obtain ⟨ad253, e253, hx253_0, p253, q253⟩ := rI (Kd.R_reads' HO_43.out).2.2 x45_2
        cases e253
        have p24 : 0 ≤ ((rd x4_1 x45_2) : Int) := dT
        have q24 : ((rd x4_1 x45_2) : Int) < ((x5_2.length : Int) : Int) := dT
        obtain ⟨go24, co24, eo24, gb24, gl24, cl24, HG24⟩ := Kd.R_form HO_5.out (by omega)
        (first | cases eo24 | (injection eo24 with ea_ en_ ec_; (first | subst ea_ | (injection ea_ with ea_; subst ea_)); subst ec_; clear en_))
        have GB24 := Aside0.mk gb24
        have GG24 := Aside0.mk HG24
        clear gb24 gl24 HG24
        obtain ⟨hx24_0, hf24_0⟩ := Kd.R_celln 0 HO_5.out ((rd x4_1 x45_2) : Int) p24 q24
        replace p24 := eq_true p24
        replace q24 := eq_true q24
        have HP25 := Kd.R_putg HO_5.out ((rd x4_1 x45_2) : Int) (wrap64 (x8_2 + 1))
        go_wp2_with (first | ((with_reducible refine gate_store (t := 3) (p := 68) rfl ?_); refine store_event (t := 3) (p := 68) (v := ?vo_w26) (w1 := (wr.setCell ⟨go24, ((rd x4_1 x45_2) : Int).toNat, none⟩ (.int .i64 (wrap64 (x8_2 + 1))))) ?hg ?ho ?hn ?hr ?_; (case ho => rfl); (case hg => rfl); (case hn => rfl); (case hr => first | (go_simp; done) | (go_simp; rfl)); intro w26 hw; have hg : wr.grownBy w26 (some go24) := (by rw [hw]; exact HP25.2); have hp_ : Kd.R (Kd.int .i64) 3 w26 w.heap.size (fun k_ => some k_ ≠ (.slice (some ad253) x4_1.length co17 : Value).ownBlock ∧ some k_ ≠ (v241 : Value).ownBlock ∧ some k_ ≠ (.slice (some ad253) x4_1.length co17 : Value).ownBlock) (.slice (some ⟨go24, 0, none⟩) x5_2.length co24) y254 := (by rw [hw, Ny254.out]; first | exact HP25.1 | exact Kd.R_mono (d := Kd.int .i64) HP25.1 (fun _ hk => ⟨hk.1, ⟨hk.2.2, hk.2.1⟩⟩)); clear HP25; have n0_ := Aside0.mk (Kd.R_after (v := (.slice (some ⟨go24, 0, none⟩) x5_2.length co24)) (v1 := (.slice (some ⟨go24, 0, none⟩) x5_2.length co24)) (ok := (fun _ => True)) (by (with_reducible repeat (first | apply Kd.R_alloc | apply Kd.R_drewN | apply Kd.R_drew)); exact Kd.R_mono HO_4.out (fun _ hk => ⟨trivial, hk⟩)) hg (.inl rfl)); have n1_ := Aside0.mk (hp_); have n2_ := Aside0.mk (Kd.R_after (v := (.slice (some ⟨go24, 0, none⟩) x5_2.length co24)) (v1 := (.slice (some ⟨go24, 0, none⟩) x5_2.length co24)) (ok := (fun _ => True)) (by (with_reducible repeat (first | apply Kd.R_alloc | apply Kd.R_drewN | apply Kd.R_drew)); exact Kd.R_mono HO_6.out (fun _ hk => ⟨trivial, hk⟩)) hg (.inl rfl)); have n3_ := Aside0.mk (Kd.R_after (v := (.slice (some ⟨go24, 0, none⟩) x5_2.length co24)) (v1 := (.slice (some ⟨go24, 0, none⟩) x5_2.length co24)) (ok := (fun _ => True)) (by (with_reducible repeat (first | apply Kd.R_alloc | apply Kd.R_drewN | apply Kd.R_drew)); exact Kd.R_mono HO_43.out (fun _ hk => ⟨trivial, hk⟩)) hg (.inl rfl)); have n4_ := Aside0.mk ((by rw [hw]; exact below_set (HB.out) GB24.out : Below w.heap.size w w26)); clear HO_4 HO_5 HO_6 HO_43 HB; have HO_4 := n0_; have HO_5 := n1_; have HO_6 := n2_; have HO_43 := n3_; have HB := n4_; clear n0_ n1_ n2_ n3_ n4_; clear hg hw hp_))
        go_roundg k2
        case measure => have := HK1.out; have := HK2.out; omega
        case rel => exact ⟨(y254), (wrap64 (x8_2 + 1)), (wrap64 (x45_2 + 1)), sD, sD, H', ⟨by have := HK1.out; have := HK2.out; omega⟩, ⟨by (with_reducible repeat (first | apply Kd.R_alloc | apply Kd.R_drewN | apply Kd.R_drew)); exact Kd.R_mono HO_4.out (fun _ hk => hk.2)⟩, ⟨uR HO_5.out⟩, ⟨by (with_reducible repeat (first | apply Kd.R_alloc | apply Kd.R_drewN | apply Kd.R_drew)); exact Kd.R_mono HO_6.out (fun _ hk => hk.2)⟩, ⟨by (with_reducible repeat (first | apply Kd.R_alloc | apply Kd.R_drewN | apply Kd.R_drew)); exact Kd.R_mono HO_43.out (fun _ hk => hk.2)⟩, ⟨uB⟩⟩
       ·rw [if_neg c21] at H
        have c21b0 : (x45_2 == 0) = false := beq_eq_false_iff_ne.mpr c21
        have c21b1 : (x45_2 != 0) = true := bne_iff_ne.mpr c21
        obtain ⟨ji27, hji27⟩ : ∃ j_ : Int, (wrap64 (x45_2 - 1)) = j_ := ⟨_, rfl⟩
        first | rw [hji27] at H | simp only [hji27] at H
        have hji27w : (IntKind.i64.wrap (x45_2 - 1)) = ji27 := (i64_w _).trans hji27
        obtain ⟨c28b0, c29b0, H⟩ := ifD2 H
        obtain ⟨t256, A30, H⟩ := bdS H
        try dsimp only at H
        by_cases c31 : t256 = true
        ·subst c31
         rw [if_pos rfl] at H
         obtain ⟨c32b0, c33b0, H⟩ := ifD2 H
         generalize hy257 : (x5_2.set ((rd x4_1 x45_2) : Int).toNat x8_2 : List Int) = y257 at H
         try simp only [Option.bind_some] at H
         have Ny257 := Aside0.mk hy257.symm
         clear hy257
         have H' := Aside0.mk H
         clear H
         obtain ⟨ad253, e253, hx253_0, p253, q253⟩ := rI (Kd.R_reads' HO_43.out).2.2 x45_2
         cases e253
         obtain ⟨ad255, e255, hx255_0, p255, q255⟩ := rI (Kd.R_reads' HO_4.out).2.2 (ji27)
         obtain rfl : ad253 = ad255 := (by injection e255)
         go_wp2_with (first | (go_at_call 146; (with_reducible refine (skew_alike.calls k2 _ _ l0 (rd x4_1 (ji27)) (rd x4_1 x45_2) true _ ?side1 ?side2 A30.out).mono ?_); (case side1 => exact uC (Kd.C_below HR0.out HB.out)); (case side2 => exact HC0.out); rintro e w' ⟨rfl, ⟨nd, rfl⟩⟩; (try (rw [drewN_self wr]; generalize hq_ : World.drewN wr _ = wr; have n0_ : Aside0 (Kd.R (Kd.int .i64) 3 wr w.heap.size (fun k_ => some k_ ≠ (v251 : Value).ownBlock) (.slice (some ad253) x4_1.length co17) x4_1) := ⟨by rw [← hq_]; exact (uR HO_4.out)⟩; have n1_ : Aside0 (Kd.R (Kd.int .i64) 3 wr w.heap.size (fun k_ => some k_ ≠ (v251 : Value).ownBlock) (.slice (some ad253) x4_1.length co17) x4_1) := ⟨by rw [← hq_]; exact (uR HO_43.out)⟩; have n2_ : Aside0 (Kd.R (Kd.int .i64) 3 wr w.heap.size (fun k_ => some k_ ≠ (.slice (some ad253) x4_1.length co17 : Value).ownBlock ∧ some k_ ≠ (.slice (some ad253) x4_1.length co17 : Value).ownBlock ∧ some k_ ≠ (v241 : Value).ownBlock) v251 x5_2) := ⟨by rw [← hq_]; exact (by (with_reducible repeat (first | apply Kd.R_alloc | apply Kd.R_drewN | apply Kd.R_drew)); exact Kd.R_mono HO_5.out (fun _ hk => ⟨hk.1, ⟨hk.2.2, hk.2.1⟩⟩))⟩; have n3_ : Aside0 (Kd.R (Kd.int .i64) 3 wr w.heap.size (fun k_ => some k_ ≠ (v251 : Value).ownBlock) v241 t240) := ⟨by rw [← hq_]; exact (uR HO_6.out)⟩; have n4_ : Aside0 (Below w.heap.size w wr) := ⟨by rw [← hq_]; exact uB⟩; clear HO_4 HO_43 HO_5 HO_6 HB hq_; have HO_4 := n0_; have HO_43 := n1_; have HO_5 := n2_; have HO_6 := n3_; have HB := n4_; clear n0_ n1_ n2_ n3_ n4_)); have p34 : 0 ≤ ((rd x4_1 x45_2) : Int) := dT; have q34 : ((rd x4_1 x45_2) : Int) < ((x5_2.length : Int) : Int) := dT; obtain ⟨go34, co34, eo34, gb34, gl34, cl34, HG34⟩ := Kd.R_form HO_5.out (by omega); (first | cases eo34 | (injection eo34 with ea_ en_ ec_; (first | subst ea_ | (injection ea_ with ea_; subst ea_)); subst ec_; clear en_)); have GB34 := Aside0.mk gb34; have GG34 := Aside0.mk HG34; clear gb34 gl34 HG34; obtain ⟨hx34_0, hf34_0⟩ := Kd.R_celln 0 HO_5.out ((rd x4_1 x45_2) : Int) p34 q34; replace p34 := eq_true p34; replace q34 := eq_true q34; obtain ⟨hy35_, hz35_⟩ := Kd.R_celln 0 HO_5.out ((rd x4_1 x45_2) : Int) dT dT; have HP35 := Kd.R_putg HO_5.out ((rd x4_1 x45_2) : Int) x8_2) | ((with_reducible refine gate_store (t := 3) (p := 68) rfl ?_); refine store_event (t := 3) (p := 68) (v := ?vo_w36) (w1 := (wr.setCell ⟨go34, ((rd x4_1 x45_2) : Int).toNat, none⟩ (.int .i64 x8_2))) ?hg ?ho ?hn ?hr ?_; (case ho => rfl); (case hg => rfl); (case hn => rfl); (case hr => first | (go_simp; done) | (go_simp; rfl)); intro w36 hw; have hg : wr.grownBy w36 (some go34) := (by rw [hw]; exact HP35.2); have hp_ : Kd.R (Kd.int .i64) 3 w36 w.heap.size (fun k_ => some k_ ≠ (.slice (some ad253) x4_1.length co17 : Value).ownBlock ∧ some k_ ≠ (v241 : Value).ownBlock ∧ some k_ ≠ (.slice (some ad253) x4_1.length co17 : Value).ownBlock) (.slice (some ⟨go34, 0, none⟩) x5_2.length co34) y257 := (by rw [hw, Ny257.out]; first | exact HP35.1 | exact Kd.R_mono (d := Kd.int .i64) HP35.1 (fun _ hk => ⟨hk.1, ⟨hk.2.2, hk.2.1⟩⟩)); clear HP35; have n0_ := Aside0.mk (Kd.R_after (v := (.slice (some ⟨go34, 0, none⟩) x5_2.length co34)) (v1 := (.slice (some ⟨go34, 0, none⟩) x5_2.length co34)) (ok := (fun _ => True)) (by (with_reducible repeat (first | apply Kd.R_alloc | apply Kd.R_drewN | apply Kd.R_drew)); exact Kd.R_mono HO_4.out (fun _ hk => ⟨trivial, hk⟩)) hg (.inl rfl)); have n1_ := Aside0.mk (hp_); have n2_ := Aside0.mk (Kd.R_after (v := (.slice (some ⟨go34, 0, none⟩) x5_2.length co34)) (v1 := (.slice (some ⟨go34, 0, none⟩) x5_2.length co34)) (ok := (fun _ => True)) (by (with_reducible repeat (first | apply Kd.R_alloc | apply Kd.R_drewN | apply Kd.R_drew)); exact Kd.R_mono HO_6.out (fun _ hk => ⟨trivial, hk⟩)) hg (.inl rfl)); have n3_ := Aside0.mk (Kd.R_after (v := (.slice (some ⟨go34, 0, none⟩) x5_2.length co34)) (v1 := (.slice (some ⟨go34, 0, none⟩) x5_2.length co34)) (ok := (fun _ => True)) (by (with_reducible repeat (first | apply Kd.R_alloc | apply Kd.R_drewN | apply Kd.R_drew)); exact Kd.R_mono HO_43.out (fun _ hk => ⟨trivial, hk⟩)) hg (.inl rfl)); have n4_ := Aside0.mk ((by rw [hw]; exact below_set (HB.out) GB34.out : Below w.heap.size w w36)); clear HO_4 HO_5 HO_6 HO_43 HB; have HO_4 := n0_; have HO_5 := n1_; have HO_6 := n2_; have HO_43 := n3_; have HB := n4_; clear n0_ n1_ n2_ n3_ n4_; clear hg hw hp_))
         go_roundg k2
         case measure => have := HK1.out; have := HK2.out; omega
         case rel => exact ⟨(y257), (x8_2), (wrap64 (x45_2 + 1)), sD, sD, H', ⟨by have := HK1.out; have := HK2.out; omega⟩, ⟨by (with_reducible repeat (first | apply Kd.R_alloc | apply Kd.R_drewN | apply Kd.R_drew)); exact Kd.R_mono HO_4.out (fun _ hk => hk.2)⟩, ⟨uR HO_5.out⟩, ⟨by (with_reducible repeat (first | apply Kd.R_alloc | apply Kd.R_drewN | apply Kd.R_drew)); exact Kd.R_mono HO_6.out (fun _ hk => hk.2)⟩, ⟨by (with_reducible repeat (first | apply Kd.R_alloc | apply Kd.R_drewN | apply Kd.R_drew)); exact Kd.R_mono HO_43.out (fun _ hk => hk.2)⟩, ⟨uB⟩⟩
        ·replace c31 := Bool.eq_false_iff.mpr c31
         subst c31
         rw [if_neg (by decide)] at H
         obtain ⟨c37b0, c38b0, H⟩ := ifD2 H
         generalize hy258 : (x5_2.set ((rd x4_1 x45_2) : Int).toNat (wrap64 (x8_2 + 1)) : List Int) = y258 at H
         try simp only [Option.bind_some] at H
         have Ny258 := Aside0.mk hy258.symm
         clear hy258
         have H' := Aside0.mk H
         clear H
         obtain ⟨ad253, e253, hx253_0, p253, q253⟩ := rI (Kd.R_reads' HO_43.out).2.2 x45_2
         cases e253
         obtain ⟨ad255, e255, hx255_0, p255, q255⟩ := rI (Kd.R_reads' HO_4.out).2.2 (ji27)
         obtain rfl : ad253 = ad255 := (by injection e255)
         go_wp2_with (first | (go_at_call 146; (with_reducible refine (skew_alike.calls k2 _ _ l0 (rd x4_1 (ji27)) (rd x4_1 x45_2) false _ ?side1 ?side2 A30.out).mono ?_); (case side1 => exact uC (Kd.C_below HR0.out HB.out)); (case side2 => exact HC0.out); rintro e w' ⟨rfl, ⟨nd, rfl⟩⟩; (try (rw [drewN_self wr]; generalize hq_ : World.drewN wr _ = wr; have n0_ : Aside0 (Kd.R (Kd.int .i64) 3 wr w.heap.size (fun k_ => some k_ ≠ (v251 : Value).ownBlock) (.slice (some ad253) x4_1.length co17) x4_1) := ⟨by rw [← hq_]; exact (uR HO_4.out)⟩; have n1_ : Aside0 (Kd.R (Kd.int .i64) 3 wr w.heap.size (fun k_ => some k_ ≠ (v251 : Value).ownBlock) (.slice (some ad253) x4_1.length co17) x4_1) := ⟨by rw [← hq_]; exact (uR HO_43.out)⟩; have n2_ : Aside0 (Kd.R (Kd.int .i64) 3 wr w.heap.size (fun k_ => some k_ ≠ (.slice (some ad253) x4_1.length co17 : Value).ownBlock ∧ some k_ ≠ (.slice (some ad253) x4_1.length co17 : Value).ownBlock ∧ some k_ ≠ (v241 : Value).ownBlock) v251 x5_2) := ⟨by rw [← hq_]; exact (by (with_reducible repeat (first | apply Kd.R_alloc | apply Kd.R_drewN | apply Kd.R_drew)); exact Kd.R_mono HO_5.out (fun _ hk => ⟨hk.1, ⟨hk.2.2, hk.2.1⟩⟩))⟩; have n3_ : Aside0 (Kd.R (Kd.int .i64) 3 wr w.heap.size (fun k_ => some k_ ≠ (v251 : Value).ownBlock) v241 t240) := ⟨by rw [← hq_]; exact (uR HO_6.out)⟩; have n4_ : Aside0 (Below w.heap.size w wr) := ⟨by rw [← hq_]; exact uB⟩; clear HO_4 HO_43 HO_5 HO_6 HB hq_; have HO_4 := n0_; have HO_43 := n1_; have HO_5 := n2_; have HO_6 := n3_; have HB := n4_; clear n0_ n1_ n2_ n3_ n4_)); have p39 : 0 ≤ ((rd x4_1 x45_2) : Int) := dT; have q39 : ((rd x4_1 x45_2) : Int) < ((x5_2.length : Int) : Int) := dT; obtain ⟨go39, co39, eo39, gb39, gl39, cl39, HG39⟩ := Kd.R_form HO_5.out (by omega); (first | cases eo39 | (injection eo39 with ea_ en_ ec_; (first | subst ea_ | (injection ea_ with ea_; subst ea_)); subst ec_; clear en_)); have GB39 := Aside0.mk gb39; have GG39 := Aside0.mk HG39; clear gb39 gl39 HG39; obtain ⟨hx39_0, hf39_0⟩ := Kd.R_celln 0 HO_5.out ((rd x4_1 x45_2) : Int) p39 q39; replace p39 := eq_true p39; replace q39 := eq_true q39; obtain ⟨hy40_, hz40_⟩ := Kd.R_celln 0 HO_5.out ((rd x4_1 x45_2) : Int) dT dT; have HP40 := Kd.R_putg HO_5.out ((rd x4_1 x45_2) : Int) (wrap64 (x8_2 + 1))) | ((with_reducible refine gate_store (t := 3) (p := 68) rfl ?_); refine store_event (t := 3) (p := 68) (v := ?vo_w41) (w1 := (wr.setCell ⟨go39, ((rd x4_1 x45_2) : Int).toNat, none⟩ (.int .i64 (wrap64 (x8_2 + 1))))) ?hg ?ho ?hn ?hr ?_; (case ho => rfl); (case hg => rfl); (case hn => rfl); (case hr => first | (go_simp; done) | (go_simp; rfl)); intro w41 hw; have hg : wr.grownBy w41 (some go39) := (by rw [hw]; exact HP40.2); have hp_ : Kd.R (Kd.int .i64) 3 w41 w.heap.size (fun k_ => some k_ ≠ (.slice (some ad253) x4_1.length co17 : Value).ownBlock ∧ some k_ ≠ (v241 : Value).ownBlock ∧ some k_ ≠ (.slice (some ad253) x4_1.length co17 : Value).ownBlock) (.slice (some ⟨go39, 0, none⟩) x5_2.length co39) y258 := (by rw [hw, Ny258.out]; first | exact HP40.1 | exact Kd.R_mono (d := Kd.int .i64) HP40.1 (fun _ hk => ⟨hk.1, ⟨hk.2.2, hk.2.1⟩⟩)); clear HP40; have n0_ := Aside0.mk (Kd.R_after (v := (.slice (some ⟨go39, 0, none⟩) x5_2.length co39)) (v1 := (.slice (some ⟨go39, 0, none⟩) x5_2.length co39)) (ok := (fun _ => True)) (by (with_reducible repeat (first | apply Kd.R_alloc | apply Kd.R_drewN | apply Kd.R_drew)); exact Kd.R_mono HO_4.out (fun _ hk => ⟨trivial, hk⟩)) hg (.inl rfl)); have n1_ := Aside0.mk (hp_); have n2_ := Aside0.mk (Kd.R_after (v := (.slice (some ⟨go39, 0, none⟩) x5_2.length co39)) (v1 := (.slice (some ⟨go39, 0, none⟩) x5_2.length co39)) (ok := (fun _ => True)) (by (with_reducible repeat (first | apply Kd.R_alloc | apply Kd.R_drewN | apply Kd.R_drew)); exact Kd.R_mono HO_6.out (fun _ hk => ⟨trivial, hk⟩)) hg (.inl rfl)); have n3_ := Aside0.mk (Kd.R_after (v := (.slice (some ⟨go39, 0, none⟩) x5_2.length co39)) (v1 := (.slice (some ⟨go39, 0, none⟩) x5_2.length co39)) (ok := (fun _ => True)) (by (with_reducible repeat (first | apply Kd.R_alloc | apply Kd.R_drewN | apply Kd.R_drew)); exact Kd.R_mono HO_43.out (fun _ hk => ⟨trivial, hk⟩)) hg (.inl rfl)); have n4_ := Aside0.mk ((by rw [hw]; exact below_set (HB.out) GB39.out : Below w.heap.size w w41)); clear HO_4 HO_5 HO_6 HO_43 HB; have HO_4 := n0_; have HO_5 := n1_; have HO_6 := n2_; have HO_43 := n3_; have HB := n4_; clear n0_ n1_ n2_ n3_ n4_; clear hg hw hp_))
         go_roundg k2
         case measure => have := HK1.out; have := HK2.out; omega
         case rel => exact ⟨(y258), (wrap64 (x8_2 + 1)), (wrap64 (x45_2 + 1)), sD, sD, H', ⟨by have := HK1.out; have := HK2.out; omega⟩, ⟨by (with_reducible repeat (first | apply Kd.R_alloc | apply Kd.R_drewN | apply Kd.R_drew)); exact Kd.R_mono HO_4.out (fun _ hk => hk.2)⟩, ⟨uR HO_5.out⟩, ⟨by (with_reducible repeat (first | apply Kd.R_alloc | apply Kd.R_drewN | apply Kd.R_drew)); exact Kd.R_mono HO_6.out (fun _ hk => hk.2)⟩, ⟨by (with_reducible repeat (first | apply Kd.R_alloc | apply Kd.R_drewN | apply Kd.R_drew)); exact Kd.R_mono HO_43.out (fun _ hk => hk.2)⟩, ⟨uB⟩⟩
      ·by_cases c42 : x8_2 = (t240.length : Int)
       ·rw [if_pos c42] at H
        have c42b0 : (x8_2 == (t240.length : Int)) = true := beq_iff_eq.mpr c42
        have c42b1 : (x8_2 != (t240.length : Int)) = false := bne_eq_false_iff_eq.mpr c42
        clear c42
        simp only [Option.some.injEq, Prod.mk.injEq] at H
        obtain ⟨rfl, rfl⟩ := H
        obtain ⟨Ao43, co43, eo43⟩ := Kd.R_slice HO_6.out
        subst eo43
        go_wp2
        go_ret2
        exact ⟨_, _, by first | rfl | (simp [errW_none, errW_some] <;> rfl) | (simp only [← hji12]; first | rfl | (simp [errW_none, errW_some] <;> rfl)) | (simp [*, errW_none, errW_some] <;> rfl), uR HO_4.out, by (with_reducible repeat (first | apply Kd.R_alloc | apply Kd.R_drewN | apply Kd.R_drew)); exact Kd.R_mono HO_5.out (fun _ hk => hk.1), uB⟩
       ·rw [if_neg c42] at H
        have c42b0 : (x8_2 == (t240.length : Int)) = false := beq_eq_false_iff_ne.mpr c42
        have c42b1 : (x8_2 != (t240.length : Int)) = true := bne_iff_ne.mpr c42
        obtain ⟨t259, A44, H⟩ := bdS H
        try dsimp only at H
        have H' := Aside0.mk H
        clear H
        obtain ⟨Ao45, co45, eo45⟩ := Kd.R_slice HO_6.out
        subst eo45
        go_wp2_with (first | ((with_reducible refine gate_callee (f := 129) rfl ?_); refine goesL_ (some 78) rfl rfl Tryz.func129 (by kernel_rfl) rfl #[.int .i64 (l0.length : Int), .int .i64 1] rfl aE ?_; (with_reducible refine (skew_places.calls k2 (l0.length : Int) 1 t259 _ A44.out).mono ?_); rintro e w46 ⟨v260, rfl, ho0, hb⟩; refine ⟨_, rfl, ?_⟩; have n0_ := Aside0.mk (Kd.R_elder' (uR HO_4.out) (Kd.R_base ho0) hb); have n1_ := Aside0.mk (Kd.R_elder' (uR HO_5.out) (Kd.R_base ho0) hb); have n2_ := Aside0.mk (Kd.R_elder' (uR HO_6.out) (Kd.R_base ho0) hb); have n3_ := Aside0.mk (Kd.R_elder' (uR HO_43.out) (Kd.R_base ho0) hb); have n4_ := Aside0.mk (Kd.R_lower (Kd.R_new' (Kd.R_new' (Kd.R_new' (Kd.R_new' ho0 (Kd.R_lt (uR HO_4.out))) (Kd.R_lt (uR HO_5.out))) (Kd.R_lt (uR HO_6.out))) (Kd.R_lt (uR HO_43.out))) (below_size uB)); have n5_ := Aside0.mk (below_step uB hb); clear HO_4 HO_5 HO_6 HO_43 HB; have HO_4 := n0_; have HO_5 := n1_; have HO_6 := n2_; have HO_43 := n3_; have HO261 := n4_; have HB := n5_; clear n0_ n1_ n2_ n3_ n4_ n5_; obtain ⟨Ao47, co47, eo47⟩ := Kd.R_slice HO261.out; subst eo47))
        go_loopg [12, 81] k2 (fun kq v12 v81 w' => ∃ (x12_3 : List Int) (x81_3 : Int), v81 = .int .i64 x81_3 ∧ Aside0 (skew_ranked.l2 sf kq l0 x5_2 t240 x8_2 t259 x12_3 t259 (t259.length : Int) x81_3 = some (r1, r2)) ∧ Aside0 (kq ≤ k2) ∧ Aside0 (Kd.R (Kd.int .i64) 3 w' w.heap.size (fun k_ => some k_ ≠ ((.slice Ao45 t240.length co45) : Value).ownBlock ∧ some k_ ≠ ((.slice Ao47 t259.length co47) : Value).ownBlock ∧ some k_ ≠ (v12 : Value).ownBlock ∧ some k_ ≠ ((.slice Ao47 t259.length co47) : Value).ownBlock) v251 x5_2) ∧ Aside0 (Kd.R (Kd.int .i64) 3 w' w.heap.size (fun k_ => some k_ ≠ (v251 : Value).ownBlock ∧ some k_ ≠ ((.slice Ao47 t259.length co47) : Value).ownBlock ∧ some k_ ≠ (v12 : Value).ownBlock ∧ some k_ ≠ ((.slice Ao47 t259.length co47) : Value).ownBlock) (.slice Ao45 t240.length co45) t240) ∧ Aside0 (Kd.R (Kd.int .i64) 3 w' w.heap.size (fun k_ => some k_ ≠ (v251 : Value).ownBlock ∧ some k_ ≠ ((.slice Ao45 t240.length co45) : Value).ownBlock ∧ some k_ ≠ (v12 : Value).ownBlock) (.slice Ao47 t259.length co47) t259) ∧ Aside0 (Kd.R (Kd.int .i64) 3 w' w.heap.size (fun k_ => some k_ ≠ (v251 : Value).ownBlock ∧ some k_ ≠ ((.slice Ao45 t240.length co45) : Value).ownBlock ∧ some k_ ≠ ((.slice Ao47 t259.length co47) : Value).ownBlock ∧ some k_ ≠ ((.slice Ao47 t259.length co47) : Value).ownBlock) v12 x12_3) ∧ Aside0 (Kd.R (Kd.int .i64) 3 w' w.heap.size (fun k_ => some k_ ≠ (v251 : Value).ownBlock ∧ some k_ ≠ ((.slice Ao45 t240.length co45) : Value).ownBlock ∧ some k_ ≠ (v12 : Value).ownBlock) (.slice Ao47 t259.length co47) t259) ∧ Aside0 (Below w.heap.size w w'))
        case atStart => exact ⟨(([] : List Int)), (0), sD, H', ⟨Nat.le_refl _⟩, ⟨by (with_reducible repeat (first | apply Kd.R_alloc | apply Kd.R_drewN | apply Kd.R_drew)); exact Kd.R_mono HO_5.out (fun _ hk => ⟨hk.1.2.1, ⟨hk.2, ⟨(by simp [Value.ownBlock]), hk.2⟩⟩⟩)⟩, ⟨by (with_reducible repeat (first | apply Kd.R_alloc | apply Kd.R_drewN | apply Kd.R_drew)); exact Kd.R_mono HO_6.out (fun _ hk => ⟨hk.1, ⟨hk.2, ⟨(by simp [Value.ownBlock]), hk.2⟩⟩⟩)⟩, ⟨by (with_reducible repeat (first | apply Kd.R_alloc | apply Kd.R_drewN | apply Kd.R_drew)); exact Kd.R_mono HO261.out (fun _ hk => ⟨hk.1.1.2, ⟨hk.1.2, (by simp [Value.ownBlock])⟩⟩)⟩, ⟨nL⟩, ⟨by (with_reducible repeat (first | apply Kd.R_alloc | apply Kd.R_drewN | apply Kd.R_drew)); exact Kd.R_mono HO261.out (fun _ hk => ⟨hk.1.1.2, ⟨hk.1.2, (by simp [Value.ownBlock])⟩⟩)⟩, ⟨uB⟩⟩
        case round =>
         clear H'
         obtain ⟨x12_3, x81_3, rfl, HA, HK3, HO_5, HO_6, HO_11, HO_12, HO_79, HB⟩ := hrel
         cases gk with
         | zero => exact absurd HA.out (by simp [skew_ranked.l2])
         | succ k3 =>
          have H := HA.out
          clear HA
          simp only [skew_ranked.l2] at H
          rcases ifC H with ⟨c48b0, H⟩ | ⟨c48b0, H⟩
          ·obtain ⟨c49b0, c50b0, H⟩ := ifD2 H
           obtain ⟨c51b0, c52b0, H⟩ := ifD2 H
           obtain ⟨c53, H⟩ := ifP H
           have LMc53 := Aside0.mk c53
           clear c53
           generalize hy264 : (x12_3 ++ [rd x5_2 (rd t259 x81_3)] : List Int) = y264 at H
           try simp only [Option.bind_some] at H
           have Ny264 := Aside0.mk hy264.symm
           clear hy264
           have H' := Aside0.mk H
           clear H
           obtain ⟨ad262, e262, hx262_0, p262, q262⟩ := rI (Kd.R_reads' HO_79.out).2.2 x81_3
           cases e262
           obtain ⟨Ao54, co54, eo54⟩ := Kd.R_slice HO_5.out
           subst eo54
           obtain ⟨ad263, e263, hx263_0, p263, q263⟩ := rI (Kd.R_reads' HO_5.out).2.2 (rd t259 x81_3)
           cases e263
           go_wp2_with (first | ((with_reducible refine gate_builtin (b := .append) (xs := #[.tmp 85, .tmp 90]) rfl ?_); at_builtin; refine Kd.R_append (Kd.int .i64) (w0 := w) w.heap.size rfl (.tmp 85) (.tmp 90) 29 3 (.int .i64 0) 8 rfl Tryz.underlying29 info3 rfl (by decide) (by omega) u12 x12_3 (rd x5_2 (rd t259 x81_3)) [.int .i64 (rd x5_2 (rd t259 x81_3))] (fun k_ => some k_ ≠ (.slice (some ad263) x5_2.length co54 : Value).ownBlock ∧ some k_ ≠ (.slice Ao45 t240.length co45 : Value).ownBlock ∧ some k_ ≠ (.slice (some ad262) t259.length co47 : Value).ownBlock ∧ some k_ ≠ (.slice (some ad262) t259.length co47 : Value).ownBlock) (fun _ => False) rfl rfl ?aP (fun _ hk => hk.elim) ?aF ?aO ?aB ?aS ?aL ?_; (case aP => exact rfl); (case aB => exact uB); (case aF => exact (fun k_ hk => ⟨Kd.fresh' (Kd.R_lt (uR HO_5.out)) k_ hk, Kd.fresh' (Kd.R_lt (uR HO_6.out)) k_ hk, Kd.fresh' (Kd.R_lt (uR HO_11.out)) k_ hk, Kd.fresh' (Kd.R_lt (uR HO_79.out)) k_ hk⟩)); (case aO => exact (uR HO_12.out)); (case aS => exact (below_size uB)); (case aL => have := LMc53.out; omega); intro v265 w55 ho hb hg hat; rw [← Ny264.out] at ho; have n0_ := Aside0.mk (Kd.R_after (ok := (fun k_ => some k_ ≠ (.slice Ao45 t240.length co45 : Value).ownBlock ∧ some k_ ≠ (.slice (some ad262) t259.length co47 : Value).ownBlock ∧ some k_ ≠ (.slice (some ad262) t259.length co47 : Value).ownBlock)) (by (with_reducible repeat (first | apply Kd.R_alloc | apply Kd.R_drewN | apply Kd.R_drew)); exact Kd.R_mono HO_5.out (fun _ hk => ⟨⟨hk.1, ⟨hk.2.1, hk.2.2.2⟩⟩, hk.2.2.1⟩)) hg hat); have n1_ := Aside0.mk (Kd.R_after (ok := (fun k_ => some k_ ≠ (.slice (some ad263) x5_2.length co54 : Value).ownBlock ∧ some k_ ≠ (.slice (some ad262) t259.length co47 : Value).ownBlock ∧ some k_ ≠ (.slice (some ad262) t259.length co47 : Value).ownBlock)) (by (with_reducible repeat (first | apply Kd.R_alloc | apply Kd.R_drewN | apply Kd.R_drew)); exact Kd.R_mono HO_6.out (fun _ hk => ⟨⟨hk.1, ⟨hk.2.1, hk.2.2.2⟩⟩, hk.2.2.1⟩)) hg hat); have n2_ := Aside0.mk (Kd.R_after (ok := (fun k_ => some k_ ≠ (.slice (some ad263) x5_2.length co54 : Value).ownBlock ∧ some k_ ≠ (.slice Ao45 t240.length co45 : Value).ownBlock)) (by (with_reducible repeat (first | apply Kd.R_alloc | apply Kd.R_drewN | apply Kd.R_drew)); exact Kd.R_mono HO_11.out (fun _ hk => ⟨⟨hk.1, hk.2.1⟩, hk.2.2⟩)) hg hat); have n3_ := Aside0.mk (Kd.R_after (ok := (fun k_ => some k_ ≠ (.slice (some ad263) x5_2.length co54 : Value).ownBlock ∧ some k_ ≠ (.slice Ao45 t240.length co45 : Value).ownBlock)) (by (with_reducible repeat (first | apply Kd.R_alloc | apply Kd.R_drewN | apply Kd.R_drew)); exact Kd.R_mono HO_79.out (fun _ hk => ⟨⟨hk.1, hk.2.1⟩, hk.2.2⟩)) hg hat); have n4_ := Aside0.mk (hb); have n5_ := Aside0.mk (ho); clear HO_5 HO_6 HO_11 HO_79 HB HO_12; have HO_5 := n0_; have HO_6 := n1_; have HO_11 := n2_; have HO_79 := n3_; have HB := n4_; have HO266 := n5_; clear n0_ n1_ n2_ n3_ n4_ n5_; clear ho hb hg hat))
           go_roundg k3
           case measure => have := HK1.out; have := HK2.out; have := HK3.out; omega
           case rel => exact ⟨(y264), (wrap64 (x81_3 + 1)), sD, H', ⟨by have := HK1.out; have := HK2.out; have := HK3.out; omega⟩, ⟨by (with_reducible repeat (first | apply Kd.R_alloc | apply Kd.R_drewN | apply Kd.R_drew)); exact Kd.R_mono HO_5.out (fun _ hk => ⟨hk.1.1, ⟨hk.1.2.1, ⟨hk.2, hk.1.2.2⟩⟩⟩)⟩, ⟨by (with_reducible repeat (first | apply Kd.R_alloc | apply Kd.R_drewN | apply Kd.R_drew)); exact Kd.R_mono HO_6.out (fun _ hk => ⟨hk.1.1, ⟨hk.1.2.1, ⟨hk.2, hk.1.2.2⟩⟩⟩)⟩, ⟨by (with_reducible repeat (first | apply Kd.R_alloc | apply Kd.R_drewN | apply Kd.R_drew)); exact Kd.R_mono HO_11.out (fun _ hk => ⟨hk.1.1, ⟨hk.1.2, hk.2⟩⟩)⟩, ⟨uR HO266.out⟩, ⟨by (with_reducible repeat (first | apply Kd.R_alloc | apply Kd.R_drewN | apply Kd.R_drew)); exact Kd.R_mono HO_79.out (fun _ hk => ⟨hk.1.1, ⟨hk.1.2, hk.2⟩⟩)⟩, ⟨uB⟩⟩
          ·obtain ⟨c56, H⟩ := ifP H
           have LMc56 := Aside0.mk c56
           clear c56
           generalize hy267 : (x12_3 ++ [0] : List Int) = y267 at H
           try simp only [Option.bind_some] at H
           have Ny267 := Aside0.mk hy267.symm
           clear hy267
           obtain ⟨t270, A57, H⟩ := bdS H
           try dsimp only at H
           have H' := Aside0.mk H
           clear H
           go_wp2_with (first | ((with_reducible refine gate_builtin (b := .append) (xs := #[.tmp 93, .tmp 94]) rfl ?_); at_builtin; refine Kd.R_append (Kd.int .i64) (w0 := w) w.heap.size rfl (.tmp 93) (.tmp 94) 29 3 (.int .i64 0) 8 rfl Tryz.underlying29 info3 rfl (by decide) (by omega) u12 x12_3 0 [.int .i64 0] (fun k_ => some k_ ≠ (v251 : Value).ownBlock ∧ some k_ ≠ (.slice Ao45 t240.length co45 : Value).ownBlock ∧ some k_ ≠ (.slice Ao47 t259.length co47 : Value).ownBlock ∧ some k_ ≠ (.slice Ao47 t259.length co47 : Value).ownBlock) (fun _ => False) rfl rfl ?aP (fun _ hk => hk.elim) ?aF ?aO ?aB ?aS ?aL ?_; (case aP => exact rfl); (case aB => exact uB); (case aF => exact (fun k_ hk => ⟨Kd.fresh' (Kd.R_lt (uR HO_5.out)) k_ hk, Kd.fresh' (Kd.R_lt (uR HO_6.out)) k_ hk, Kd.fresh' (Kd.R_lt (uR HO_11.out)) k_ hk, Kd.fresh' (Kd.R_lt (uR HO_79.out)) k_ hk⟩)); (case aO => exact (uR HO_12.out)); (case aS => exact (below_size uB)); (case aL => have := LMc56.out; omega); intro v268 w58 ho hb hg hat; rw [← Ny267.out] at ho; have n0_ := Aside0.mk (Kd.R_after (ok := (fun k_ => some k_ ≠ (.slice Ao45 t240.length co45 : Value).ownBlock ∧ some k_ ≠ (.slice Ao47 t259.length co47 : Value).ownBlock ∧ some k_ ≠ (.slice Ao47 t259.length co47 : Value).ownBlock)) (by (with_reducible repeat (first | apply Kd.R_alloc | apply Kd.R_drewN | apply Kd.R_drew)); exact Kd.R_mono HO_5.out (fun _ hk => ⟨⟨hk.1, ⟨hk.2.1, hk.2.2.2⟩⟩, hk.2.2.1⟩)) hg hat); have n1_ := Aside0.mk (Kd.R_after (ok := (fun k_ => some k_ ≠ (v251 : Value).ownBlock ∧ some k_ ≠ (.slice Ao47 t259.length co47 : Value).ownBlock ∧ some k_ ≠ (.slice Ao47 t259.length co47 : Value).ownBlock)) (by (with_reducible repeat (first | apply Kd.R_alloc | apply Kd.R_drewN | apply Kd.R_drew)); exact Kd.R_mono HO_6.out (fun _ hk => ⟨⟨hk.1, ⟨hk.2.1, hk.2.2.2⟩⟩, hk.2.2.1⟩)) hg hat); have n2_ := Aside0.mk (Kd.R_after (ok := (fun k_ => some k_ ≠ (v251 : Value).ownBlock ∧ some k_ ≠ (.slice Ao45 t240.length co45 : Value).ownBlock)) (by (with_reducible repeat (first | apply Kd.R_alloc | apply Kd.R_drewN | apply Kd.R_drew)); exact Kd.R_mono HO_11.out (fun _ hk => ⟨⟨hk.1, hk.2.1⟩, hk.2.2⟩)) hg hat); have n3_ := Aside0.mk (Kd.R_after (ok := (fun k_ => some k_ ≠ (v251 : Value).ownBlock ∧ some k_ ≠ (.slice Ao45 t240.length co45 : Value).ownBlock)) (by (with_reducible repeat (first | apply Kd.R_alloc | apply Kd.R_drewN | apply Kd.R_drew)); exact Kd.R_mono HO_79.out (fun _ hk => ⟨⟨hk.1, hk.2.1⟩, hk.2.2⟩)) hg hat); have n4_ := Aside0.mk (hb); have n5_ := Aside0.mk (ho); clear HO_5 HO_6 HO_11 HO_79 HB HO_12; have HO_5 := n0_; have HO_6 := n1_; have HO_11 := n2_; have HO_79 := n3_; have HB := n4_; have HO269 := n5_; clear n0_ n1_ n2_ n3_ n4_ n5_; clear ho hb hg hat) | ((with_reducible refine gate_callee (f := 129) rfl ?_); refine goesL_ (some 98) rfl rfl Tryz.func129 (by kernel_rfl) rfl #[.int .i64 (l0.length : Int), .int .i64 2] rfl aE ?_; (with_reducible refine (skew_places.calls k3 (l0.length : Int) 2 t270 _ A57.out).mono ?_); rintro e w59 ⟨v271, rfl, ho0, hb⟩; refine ⟨_, rfl, ?_⟩; have n0_ := Aside0.mk (Kd.R_elder' (uR HO_5.out) (Kd.R_base ho0) hb); have n1_ := Aside0.mk (Kd.R_elder' (uR HO_6.out) (Kd.R_base ho0) hb); have n2_ := Aside0.mk (Kd.R_elder' (uR HO_11.out) (Kd.R_base ho0) hb); have n3_ := Aside0.mk (Kd.R_elder' (uR HO_79.out) (Kd.R_base ho0) hb); have n4_ := Aside0.mk (Kd.R_elder' (uR HO269.out) (Kd.R_base ho0) hb); have n5_ := Aside0.mk (Kd.R_lower (Kd.R_new' (Kd.R_new' (Kd.R_new' (Kd.R_new' (Kd.R_new' ho0 (Kd.R_lt (uR HO_5.out))) (Kd.R_lt (uR HO_6.out))) (Kd.R_lt (uR HO_11.out))) (Kd.R_lt (uR HO_79.out))) (Kd.R_lt (uR HO269.out))) (below_size uB)); have n6_ := Aside0.mk (below_step uB hb); clear HO_5 HO_6 HO_11 HO_79 HO269 HB; have HO_5 := n0_; have HO_6 := n1_; have HO_11 := n2_; have HO_79 := n3_; have HO269 := n4_; have HO272 := n5_; have HB := n6_; clear n0_ n1_ n2_ n3_ n4_ n5_ n6_; obtain ⟨Ao60, co60, eo60⟩ := Kd.R_slice HO272.out; subst eo60))
           go_loopg [12, 100] k3 (fun kq v12 v100 w' => ∃ (x12_4 : List Int) (x100_4 : Int), v100 = .int .i64 x100_4 ∧ Aside0 (skew_ranked.l3 sf kq x5_2 t240 x8_2 t259 x12_4 t270 (t270.length : Int) x100_4 = some (r1, r2)) ∧ Aside0 (kq ≤ k3) ∧ Aside0 (Kd.R (Kd.int .i64) 3 w' w.heap.size (fun k_ => some k_ ≠ ((.slice Ao45 t240.length co45) : Value).ownBlock ∧ some k_ ≠ ((.slice Ao47 t259.length co47) : Value).ownBlock ∧ some k_ ≠ (v12 : Value).ownBlock ∧ some k_ ≠ ((.slice Ao60 t270.length co60) : Value).ownBlock) v251 x5_2) ∧ Aside0 (Kd.R (Kd.int .i64) 3 w' w.heap.size (fun k_ => some k_ ≠ (v251 : Value).ownBlock ∧ some k_ ≠ ((.slice Ao47 t259.length co47) : Value).ownBlock ∧ some k_ ≠ (v12 : Value).ownBlock ∧ some k_ ≠ ((.slice Ao60 t270.length co60) : Value).ownBlock) (.slice Ao45 t240.length co45) t240) ∧ Aside0 (Kd.R (Kd.int .i64) 3 w' w.heap.size (fun k_ => some k_ ≠ (v251 : Value).ownBlock ∧ some k_ ≠ ((.slice Ao45 t240.length co45) : Value).ownBlock ∧ some k_ ≠ (v12 : Value).ownBlock ∧ some k_ ≠ ((.slice Ao60 t270.length co60) : Value).ownBlock) (.slice Ao47 t259.length co47) t259) ∧ Aside0 (Kd.R (Kd.int .i64) 3 w' w.heap.size (fun k_ => some k_ ≠ (v251 : Value).ownBlock ∧ some k_ ≠ ((.slice Ao45 t240.length co45) : Value).ownBlock ∧ some k_ ≠ ((.slice Ao47 t259.length co47) : Value).ownBlock ∧ some k_ ≠ ((.slice Ao60 t270.length co60) : Value).ownBlock) v12 x12_4) ∧ Aside0 (Kd.R (Kd.int .i64) 3 w' w.heap.size (fun k_ => some k_ ≠ (v251 : Value).ownBlock ∧ some k_ ≠ ((.slice Ao45 t240.length co45) : Value).ownBlock ∧ some k_ ≠ ((.slice Ao47 t259.length co47) : Value).ownBlock ∧ some k_ ≠ (v12 : Value).ownBlock) (.slice Ao60 t270.length co60) t270) ∧ Aside0 (Below w.heap.size w w'))
           case atStart => exact ⟨(y267), (0), sD, H', ⟨Nat.le_refl _⟩, ⟨by (with_reducible repeat (first | apply Kd.R_alloc | apply Kd.R_drewN | apply Kd.R_drew)); exact Kd.R_mono HO_5.out (fun _ hk => ⟨hk.1.1.1, ⟨hk.1.1.2.1, ⟨hk.1.2, hk.2⟩⟩⟩)⟩, ⟨by (with_reducible repeat (first | apply Kd.R_alloc | apply Kd.R_drewN | apply Kd.R_drew)); exact Kd.R_mono HO_6.out (fun _ hk => ⟨hk.1.1.1, ⟨hk.1.1.2.1, ⟨hk.1.2, hk.2⟩⟩⟩)⟩, ⟨by (with_reducible repeat (first | apply Kd.R_alloc | apply Kd.R_drewN | apply Kd.R_drew)); exact Kd.R_mono HO_11.out (fun _ hk => ⟨hk.1.1.1, ⟨hk.1.1.2, ⟨hk.1.2, hk.2⟩⟩⟩)⟩, ⟨by (with_reducible repeat (first | apply Kd.R_alloc | apply Kd.R_drewN | apply Kd.R_drew)); exact Kd.R_mono HO269.out (fun _ hk => ⟨hk.1.1, ⟨hk.1.2.1, ⟨hk.1.2.2.1, hk.2⟩⟩⟩)⟩, ⟨by (with_reducible repeat (first | apply Kd.R_alloc | apply Kd.R_drewN | apply Kd.R_drew)); exact Kd.R_mono HO272.out (fun _ hk => ⟨hk.1.1.1.1.2, ⟨hk.1.1.1.2, ⟨hk.1.1.2, hk.2⟩⟩⟩)⟩, ⟨uB⟩⟩
           case round =>
            clear H'
            obtain ⟨x12_4, x100_4, rfl, HA, HK4, HO_5, HO_6, HO_11, HO_12, HO_98, HB⟩ := hrel
            cases gk with
            | zero => exact absurd HA.out (by simp [skew_ranked.l3])
            | succ k4 =>
             have H := HA.out
             clear HA
             simp only [skew_ranked.l3] at H
             rcases ifC H with ⟨c61b0, H⟩ | ⟨c61b0, H⟩
             ·obtain ⟨c62b0, c63b0, H⟩ := ifD2 H
              obtain ⟨c64b0, c65b0, H⟩ := ifD2 H
              obtain ⟨c66, H⟩ := ifP H
              have LMc66 := Aside0.mk c66
              clear c66
              generalize hy275 : (x12_4 ++ [rd x5_2 (rd t270 x100_4)] : List Int) = y275 at H
              try simp only [Option.bind_some] at H
              have Ny275 := Aside0.mk hy275.symm
              clear hy275
              have H' := Aside0.mk H
              clear H
              obtain ⟨ad273, e273, hx273_0, p273, q273⟩ := rI (Kd.R_reads' HO_98.out).2.2 x100_4
              cases e273
              obtain ⟨Ao67, co67, eo67⟩ := Kd.R_slice HO_5.out
              subst eo67
              obtain ⟨ad274, e274, hx274_0, p274, q274⟩ := rI (Kd.R_reads' HO_5.out).2.2 (rd t270 x100_4)
              cases e274
              go_wp2_with (first | ((with_reducible refine gate_builtin (b := .append) (xs := #[.tmp 104, .tmp 109]) rfl ?_); at_builtin; refine Kd.R_append (Kd.int .i64) (w0 := w) w.heap.size rfl (.tmp 104) (.tmp 109) 29 3 (.int .i64 0) 8 rfl Tryz.underlying29 info3 rfl (by decide) (by omega) u12 x12_4 (rd x5_2 (rd t270 x100_4)) [.int .i64 (rd x5_2 (rd t270 x100_4))] (fun k_ => some k_ ≠ (.slice (some ad274) x5_2.length co67 : Value).ownBlock ∧ some k_ ≠ (.slice Ao45 t240.length co45 : Value).ownBlock ∧ some k_ ≠ (.slice Ao47 t259.length co47 : Value).ownBlock ∧ some k_ ≠ (.slice (some ad273) t270.length co60 : Value).ownBlock) (fun _ => False) rfl rfl ?aP (fun _ hk => hk.elim) ?aF ?aO ?aB ?aS ?aL ?_; (case aP => exact rfl); (case aB => exact uB); (case aF => exact (fun k_ hk => ⟨Kd.fresh' (Kd.R_lt (uR HO_5.out)) k_ hk, Kd.fresh' (Kd.R_lt (uR HO_6.out)) k_ hk, Kd.fresh' (Kd.R_lt (uR HO_11.out)) k_ hk, Kd.fresh' (Kd.R_lt (uR HO_98.out)) k_ hk⟩)); (case aO => exact (uR HO_12.out)); (case aS => exact (below_size uB)); (case aL => have := LMc66.out; omega); intro v276 w68 ho hb hg hat; rw [← Ny275.out] at ho; have n0_ := Aside0.mk (Kd.R_after (ok := (fun k_ => some k_ ≠ (.slice Ao45 t240.length co45 : Value).ownBlock ∧ some k_ ≠ (.slice Ao47 t259.length co47 : Value).ownBlock ∧ some k_ ≠ (.slice (some ad273) t270.length co60 : Value).ownBlock)) (by (with_reducible repeat (first | apply Kd.R_alloc | apply Kd.R_drewN | apply Kd.R_drew)); exact Kd.R_mono HO_5.out (fun _ hk => ⟨⟨hk.1, ⟨hk.2.1, hk.2.2.2⟩⟩, hk.2.2.1⟩)) hg hat); have n1_ := Aside0.mk (Kd.R_after (ok := (fun k_ => some k_ ≠ (.slice (some ad274) x5_2.length co67 : Value).ownBlock ∧ some k_ ≠ (.slice Ao47 t259.length co47 : Value).ownBlock ∧ some k_ ≠ (.slice (some ad273) t270.length co60 : Value).ownBlock)) (by (with_reducible repeat (first | apply Kd.R_alloc | apply Kd.R_drewN | apply Kd.R_drew)); exact Kd.R_mono HO_6.out (fun _ hk => ⟨⟨hk.1, ⟨hk.2.1, hk.2.2.2⟩⟩, hk.2.2.1⟩)) hg hat); have n2_ := Aside0.mk (Kd.R_after (ok := (fun k_ => some k_ ≠ (.slice (some ad274) x5_2.length co67 : Value).ownBlock ∧ some k_ ≠ (.slice Ao45 t240.length co45 : Value).ownBlock ∧ some k_ ≠ (.slice (some ad273) t270.length co60 : Value).ownBlock)) (by (with_reducible repeat (first | apply Kd.R_alloc | apply Kd.R_drewN | apply Kd.R_drew)); exact Kd.R_mono HO_11.out (fun _ hk => ⟨⟨hk.1, ⟨hk.2.1, hk.2.2.2⟩⟩, hk.2.2.1⟩)) hg hat); have n3_ := Aside0.mk (Kd.R_after (ok := (fun k_ => some k_ ≠ (.slice (some ad274) x5_2.length co67 : Value).ownBlock ∧ some k_ ≠ (.slice Ao45 t240.length co45 : Value).ownBlock ∧ some k_ ≠ (.slice Ao47 t259.length co47 : Value).ownBlock)) (by (with_reducible repeat (first | apply Kd.R_alloc | apply Kd.R_drewN | apply Kd.R_drew)); exact Kd.R_mono HO_98.out (fun _ hk => ⟨⟨hk.1, ⟨hk.2.1, hk.2.2.1⟩⟩, hk.2.2.2⟩)) hg hat); have n4_ := Aside0.mk (hb); have n5_ := Aside0.mk (ho); clear HO_5 HO_6 HO_11 HO_98 HB HO_12; have HO_5 := n0_; have HO_6 := n1_; have HO_11 := n2_; have HO_98 := n3_; have HB := n4_; have HO277 := n5_; clear n0_ n1_ n2_ n3_ n4_ n5_; clear ho hb hg hat))
              go_roundg k4
              case measure => have := HK1.out; have := HK2.out; have := HK3.out; have := HK4.out; omega
              case rel => exact ⟨(y275), (wrap64 (x100_4 + 1)), sD, H', ⟨by have := HK1.out; have := HK2.out; have := HK3.out; have := HK4.out; omega⟩, ⟨by (with_reducible repeat (first | apply Kd.R_alloc | apply Kd.R_drewN | apply Kd.R_drew)); exact Kd.R_mono HO_5.out (fun _ hk => ⟨hk.1.1, ⟨hk.1.2.1, ⟨hk.2, hk.1.2.2⟩⟩⟩)⟩, ⟨by (with_reducible repeat (first | apply Kd.R_alloc | apply Kd.R_drewN | apply Kd.R_drew)); exact Kd.R_mono HO_6.out (fun _ hk => ⟨hk.1.1, ⟨hk.1.2.1, ⟨hk.2, hk.1.2.2⟩⟩⟩)⟩, ⟨by (with_reducible repeat (first | apply Kd.R_alloc | apply Kd.R_drewN | apply Kd.R_drew)); exact Kd.R_mono HO_11.out (fun _ hk => ⟨hk.1.1, ⟨hk.1.2.1, ⟨hk.2, hk.1.2.2⟩⟩⟩)⟩, ⟨uR HO277.out⟩, ⟨by (with_reducible repeat (first | apply Kd.R_alloc | apply Kd.R_drewN | apply Kd.R_drew)); exact Kd.R_mono HO_98.out (fun _ hk => ⟨hk.1.1, ⟨hk.1.2.1, ⟨hk.1.2.2, hk.2⟩⟩⟩)⟩, ⟨uB⟩⟩
             ·obtain ⟨t278, A69, H⟩ := bdS H
              try dsimp only at H
              have H' := Aside0.mk H
              clear H
              obtain ⟨Ao70, co70, eo70⟩ := Kd.R_slice HO_12.out
              subst eo70
              go_wp2_with (first | ((with_reducible refine gate_callee (f := 107) rfl ?_); refine goesL_ (some 115) rfl rfl Tryz.func107 (by kernel_rfl) rfl #[.slice Ao70 x12_4.length co70, .int .i64 (wrap64 (x8_2 + 1))] rfl aE ?_; (with_reducible refine (hsf _ _ x12_4 (wrap64 (x8_2 + 1)) t278 _ ?side1 ?side2 A69.out).mono ?_); (case side1 => exact uC (Kd.R_reads' HO_12.out).2.2); (case side2 => exact (Kd.R_reads' HO_12.out).2.1); rintro e w71 ⟨v279, rfl, ho0, hb⟩; refine ⟨_, rfl, ?_⟩; have n0_ := Aside0.mk (Kd.R_elder' (uR HO_5.out) (Kd.R_base ho0) hb); have n1_ := Aside0.mk (Kd.R_elder' (uR HO_6.out) (Kd.R_base ho0) hb); have n2_ := Aside0.mk (Kd.R_elder' (uR HO_11.out) (Kd.R_base ho0) hb); have n3_ := Aside0.mk (Kd.R_elder' (uR HO_12.out) (Kd.R_base ho0) hb); have n4_ := Aside0.mk (Kd.R_elder' (uR HO_98.out) (Kd.R_base ho0) hb); have n5_ := Aside0.mk (Kd.R_lower (Kd.R_new' (Kd.R_new' (Kd.R_new' (Kd.R_new' (Kd.R_new' ho0 (Kd.R_lt (uR HO_5.out))) (Kd.R_lt (uR HO_6.out))) (Kd.R_lt (uR HO_11.out))) (Kd.R_lt (uR HO_12.out))) (Kd.R_lt (uR HO_98.out))) (below_size uB)); have n6_ := Aside0.mk (below_step uB hb); clear HO_5 HO_6 HO_11 HO_12 HO_98 HB; have HO_5 := n0_; have HO_6 := n1_; have HO_11 := n2_; have HO_12 := n3_; have HO_98 := n4_; have HO280 := n5_; have HB := n6_; clear n0_ n1_ n2_ n3_ n4_ n5_ n6_; obtain ⟨Ao72, co72, eo72⟩ := Kd.R_slice HO280.out; subst eo72))
              go_loopg [4, 117] k4 (fun kq v4 v117 w' => ∃ (x4_5 : List Int) (x117_5 : Int), v117 = .int .i64 x117_5 ∧ Aside0 (skew_ranked.l4 sf kq x4_5 x5_2 t240 t259 t278 (t278.length : Int) x117_5 = some (r1, r2)) ∧ Aside0 (kq ≤ k4) ∧ Aside0 (Kd.R (Kd.int .i64) 3 w' w.heap.size (fun k_ => some k_ ≠ (v251 : Value).ownBlock ∧ some k_ ≠ ((.slice Ao45 t240.length co45) : Value).ownBlock ∧ some k_ ≠ ((.slice Ao47 t259.length co47) : Value).ownBlock ∧ some k_ ≠ ((.slice Ao72 t278.length co72) : Value).ownBlock) v4 x4_5) ∧ Aside0 (Kd.R (Kd.int .i64) 3 w' w.heap.size (fun k_ => some k_ ≠ (v4 : Value).ownBlock ∧ some k_ ≠ ((.slice Ao45 t240.length co45) : Value).ownBlock ∧ some k_ ≠ ((.slice Ao47 t259.length co47) : Value).ownBlock ∧ some k_ ≠ ((.slice Ao72 t278.length co72) : Value).ownBlock) v251 x5_2) ∧ Aside0 (Kd.R (Kd.int .i64) 3 w' w.heap.size (fun k_ => some k_ ≠ (v4 : Value).ownBlock ∧ some k_ ≠ (v251 : Value).ownBlock ∧ some k_ ≠ ((.slice Ao47 t259.length co47) : Value).ownBlock ∧ some k_ ≠ ((.slice Ao72 t278.length co72) : Value).ownBlock) (.slice Ao45 t240.length co45) t240) ∧ Aside0 (Kd.R (Kd.int .i64) 3 w' w.heap.size (fun k_ => some k_ ≠ (v4 : Value).ownBlock ∧ some k_ ≠ (v251 : Value).ownBlock ∧ some k_ ≠ ((.slice Ao45 t240.length co45) : Value).ownBlock ∧ some k_ ≠ ((.slice Ao72 t278.length co72) : Value).ownBlock) (.slice Ao47 t259.length co47) t259) ∧ Aside0 (Kd.R (Kd.int .i64) 3 w' w.heap.size (fun k_ => some k_ ≠ (v4 : Value).ownBlock ∧ some k_ ≠ (v251 : Value).ownBlock ∧ some k_ ≠ ((.slice Ao45 t240.length co45) : Value).ownBlock ∧ some k_ ≠ ((.slice Ao47 t259.length co47) : Value).ownBlock) (.slice Ao72 t278.length co72) t278) ∧ Aside0 (Below w.heap.size w w'))
              case atStart => exact ⟨(([] : List Int)), (0), sD, H', ⟨Nat.le_refl _⟩, ⟨nL⟩, ⟨by (with_reducible repeat (first | apply Kd.R_alloc | apply Kd.R_drewN | apply Kd.R_drew)); exact Kd.R_mono HO_5.out (fun _ hk => ⟨(by simp [Value.ownBlock]), ⟨hk.1.1, ⟨hk.1.2.1, hk.2⟩⟩⟩)⟩, ⟨by (with_reducible repeat (first | apply Kd.R_alloc | apply Kd.R_drewN | apply Kd.R_drew)); exact Kd.R_mono HO_6.out (fun _ hk => ⟨(by simp [Value.ownBlock]), ⟨hk.1.1, ⟨hk.1.2.1, hk.2⟩⟩⟩)⟩, ⟨by (with_reducible repeat (first | apply Kd.R_alloc | apply Kd.R_drewN | apply Kd.R_drew)); exact Kd.R_mono HO_11.out (fun _ hk => ⟨(by simp [Value.ownBlock]), ⟨hk.1.1, ⟨hk.1.2.1, hk.2⟩⟩⟩)⟩, ⟨by (with_reducible repeat (first | apply Kd.R_alloc | apply Kd.R_drewN | apply Kd.R_drew)); exact Kd.R_mono HO280.out (fun _ hk => ⟨(by simp [Value.ownBlock]), ⟨hk.1.1.1.1.2, ⟨hk.1.1.1.2, hk.1.1.2⟩⟩⟩)⟩, ⟨uB⟩⟩
              case round =>
               clear H'
               obtain ⟨x4_5, x117_5, rfl, HA, HK5, HO_4, HO_5, HO_6, HO_11, HO_115, HB⟩ := hrel
               cases gk with
               | zero => exact absurd HA.out (by simp [skew_ranked.l4])
               | succ k5 =>
                have H := HA.out
                clear HA
                simp only [skew_ranked.l4] at H
                rcases ifC H with ⟨c73b0, H⟩ | ⟨c73b0, H⟩
                ·obtain ⟨c74b0, c75b0, H⟩ := ifD2 H
                 rcases ifC H with ⟨c76b0, H⟩ | ⟨c76b0, H⟩
                 ·obtain ⟨c77b0, H⟩ := ifD H
                  obtain ⟨c78, H⟩ := ifP H
                  have LMc78 := Aside0.mk c78
                  clear c78
                  generalize hy283 : (x4_5 ++ [rd t259 (rd t278 x117_5)] : List Int) = y283 at H
                  try simp only [Option.bind_some] at H
                  have Ny283 := Aside0.mk hy283.symm
                  clear hy283
                  have H' := Aside0.mk H
                  clear H
                  obtain ⟨ad281, e281, hx281_0, p281, q281⟩ := rI (Kd.R_reads' HO_115.out).2.2 x117_5
                  cases e281
                  obtain ⟨ad282, e282, hx282_0, p282, q282⟩ := rI (Kd.R_reads' HO_11.out).2.2 (rd t278 x117_5)
                  cases e282
                  go_wp2_with (first | ((with_reducible refine gate_builtin (b := .append) (xs := #[.tmp 126, .tmp 131]) rfl ?_); at_builtin; refine Kd.R_append (Kd.int .i64) (w0 := w) w.heap.size rfl (.tmp 126) (.tmp 131) 29 3 (.int .i64 0) 8 rfl Tryz.underlying29 info3 rfl (by decide) (by omega) u4 x4_5 (rd t259 (rd t278 x117_5)) [.int .i64 (rd t259 (rd t278 x117_5))] (fun k_ => some k_ ≠ (v251 : Value).ownBlock ∧ some k_ ≠ (.slice Ao45 t240.length co45 : Value).ownBlock ∧ some k_ ≠ (.slice (some ad282) t259.length co47 : Value).ownBlock ∧ some k_ ≠ (.slice (some ad281) t278.length co72 : Value).ownBlock) (fun _ => False) rfl rfl ?aP (fun _ hk => hk.elim) ?aF ?aO ?aB ?aS ?aL ?_; (case aP => exact rfl); (case aB => exact uB); (case aF => exact (fun k_ hk => ⟨Kd.fresh' (Kd.R_lt (uR HO_5.out)) k_ hk, Kd.fresh' (Kd.R_lt (uR HO_6.out)) k_ hk, Kd.fresh' (Kd.R_lt (uR HO_11.out)) k_ hk, Kd.fresh' (Kd.R_lt (uR HO_115.out)) k_ hk⟩)); (case aO => exact (uR HO_4.out)); (case aS => exact (below_size uB)); (case aL => have := LMc78.out; omega); intro v284 w79 ho hb hg hat; rw [← Ny283.out] at ho; have n0_ := Aside0.mk (Kd.R_after (ok := (fun k_ => some k_ ≠ (.slice Ao45 t240.length co45 : Value).ownBlock ∧ some k_ ≠ (.slice (some ad282) t259.length co47 : Value).ownBlock ∧ some k_ ≠ (.slice (some ad281) t278.length co72 : Value).ownBlock)) (by (with_reducible repeat (first | apply Kd.R_alloc | apply Kd.R_drewN | apply Kd.R_drew)); exact Kd.R_mono HO_5.out (fun _ hk => ⟨⟨hk.2.1, ⟨hk.2.2.1, hk.2.2.2⟩⟩, hk.1⟩)) hg hat); have n1_ := Aside0.mk (Kd.R_after (ok := (fun k_ => some k_ ≠ (v251 : Value).ownBlock ∧ some k_ ≠ (.slice (some ad282) t259.length co47 : Value).ownBlock ∧ some k_ ≠ (.slice (some ad281) t278.length co72 : Value).ownBlock)) (by (with_reducible repeat (first | apply Kd.R_alloc | apply Kd.R_drewN | apply Kd.R_drew)); exact Kd.R_mono HO_6.out (fun _ hk => ⟨⟨hk.2.1, ⟨hk.2.2.1, hk.2.2.2⟩⟩, hk.1⟩)) hg hat); have n2_ := Aside0.mk (Kd.R_after (ok := (fun k_ => some k_ ≠ (v251 : Value).ownBlock ∧ some k_ ≠ (.slice Ao45 t240.length co45 : Value).ownBlock ∧ some k_ ≠ (.slice (some ad281) t278.length co72 : Value).ownBlock)) (by (with_reducible repeat (first | apply Kd.R_alloc | apply Kd.R_drewN | apply Kd.R_drew)); exact Kd.R_mono HO_11.out (fun _ hk => ⟨⟨hk.2.1, ⟨hk.2.2.1, hk.2.2.2⟩⟩, hk.1⟩)) hg hat); have n3_ := Aside0.mk (Kd.R_after (ok := (fun k_ => some k_ ≠ (v251 : Value).ownBlock ∧ some k_ ≠ (.slice Ao45 t240.length co45 : Value).ownBlock ∧ some k_ ≠ (.slice (some ad282) t259.length co47 : Value).ownBlock)) (by (with_reducible repeat (first | apply Kd.R_alloc | apply Kd.R_drewN | apply Kd.R_drew)); exact Kd.R_mono HO_115.out (fun _ hk => ⟨⟨hk.2.1, ⟨hk.2.2.1, hk.2.2.2⟩⟩, hk.1⟩)) hg hat); have n4_ := Aside0.mk (hb); have n5_ := Aside0.mk (ho); clear HO_5 HO_6 HO_11 HO_115 HB HO_4; have HO_5 := n0_; have HO_6 := n1_; have HO_11 := n2_; have HO_115 := n3_; have HB := n4_; have HO285 := n5_; clear n0_ n1_ n2_ n3_ n4_ n5_; clear ho hb hg hat))
                  go_roundg k5
                  case measure => have := HK1.out; have := HK2.out; have := HK3.out; have := HK4.out; have := HK5.out; omega
                  case rel => exact ⟨(y283), (wrap64 (x117_5 + 1)), sD, H', ⟨by have := HK1.out; have := HK2.out; have := HK3.out; have := HK4.out; have := HK5.out; omega⟩, ⟨uR HO285.out⟩, ⟨by (with_reducible repeat (first | apply Kd.R_alloc | apply Kd.R_drewN | apply Kd.R_drew)); exact Kd.R_mono HO_5.out (fun _ hk => ⟨hk.2, ⟨hk.1.1, ⟨hk.1.2.1, hk.1.2.2⟩⟩⟩)⟩, ⟨by (with_reducible repeat (first | apply Kd.R_alloc | apply Kd.R_drewN | apply Kd.R_drew)); exact Kd.R_mono HO_6.out (fun _ hk => ⟨hk.2, ⟨hk.1.1, ⟨hk.1.2.1, hk.1.2.2⟩⟩⟩)⟩, ⟨by (with_reducible repeat (first | apply Kd.R_alloc | apply Kd.R_drewN | apply Kd.R_drew)); exact Kd.R_mono HO_11.out (fun _ hk => ⟨hk.2, ⟨hk.1.1, ⟨hk.1.2.1, hk.1.2.2⟩⟩⟩)⟩, ⟨by (with_reducible repeat (first | apply Kd.R_alloc | apply Kd.R_drewN | apply Kd.R_drew)); exact Kd.R_mono HO_115.out (fun _ hk => ⟨hk.2, ⟨hk.1.1, ⟨hk.1.2.1, hk.1.2.2⟩⟩⟩)⟩, ⟨uB⟩⟩
                 ·rcases ifK H with ⟨c80b0, H⟩ | ⟨c80b0, H⟩
                  ·obtain ⟨ji81, hji81⟩ : ∃ j_ : Int, (wrap64 ((rd t278 x117_5) - 1)) = j_ := ⟨_, rfl⟩
                   first | rw [hji81] at H | simp only [hji81] at H
                   have hji81w : (IntKind.i64.wrap ((rd t278 x117_5) - 1)) = ji81 := (i64_w _).trans hji81
                   obtain ⟨c82b0, c83b0, H⟩ := ifD2 H
                   obtain ⟨c84, H⟩ := ifP H
                   have LMc84 := Aside0.mk c84
                   clear c84
                   generalize hy287 : (x4_5 ++ [rd t240 (ji81)] : List Int) = y287 at H
                   try simp only [Option.bind_some] at H
                   have Ny287 := Aside0.mk hy287.symm
                   clear hy287
                   have H' := Aside0.mk H
                   clear H
                   obtain ⟨ad281, e281, hx281_0, p281, q281⟩ := rI (Kd.R_reads' HO_115.out).2.2 x117_5
                   cases e281
                   obtain ⟨ad286, e286, hx286_0, p286, q286⟩ := rI (Kd.R_reads' HO_6.out).2.2 (ji81)
                   cases e286
                   go_wp2_with (first | ((with_reducible refine gate_builtin (b := .append) (xs := #[.tmp 138, .tmp 144]) rfl ?_); at_builtin; refine Kd.R_append (Kd.int .i64) (w0 := w) w.heap.size rfl (.tmp 138) (.tmp 144) 29 3 (.int .i64 0) 8 rfl Tryz.underlying29 info3 rfl (by decide) (by omega) u4 x4_5 (rd t240 (ji81)) [.int .i64 (rd t240 (ji81))] (fun k_ => some k_ ≠ (v251 : Value).ownBlock ∧ some k_ ≠ (.slice (some ad286) t240.length co45 : Value).ownBlock ∧ some k_ ≠ (.slice Ao47 t259.length co47 : Value).ownBlock ∧ some k_ ≠ (.slice (some ad281) t278.length co72 : Value).ownBlock) (fun _ => False) rfl rfl ?aP (fun _ hk => hk.elim) ?aF ?aO ?aB ?aS ?aL ?_; (case aP => exact rfl); (case aB => exact uB); (case aF => exact (fun k_ hk => ⟨Kd.fresh' (Kd.R_lt (uR HO_5.out)) k_ hk, Kd.fresh' (Kd.R_lt (uR HO_6.out)) k_ hk, Kd.fresh' (Kd.R_lt (uR HO_11.out)) k_ hk, Kd.fresh' (Kd.R_lt (uR HO_115.out)) k_ hk⟩)); (case aO => exact (uR HO_4.out)); (case aS => exact (below_size uB)); (case aL => have := LMc84.out; omega); intro v288 w85 ho hb hg hat; rw [← Ny287.out] at ho; have n0_ := Aside0.mk (Kd.R_after (ok := (fun k_ => some k_ ≠ (.slice (some ad286) t240.length co45 : Value).ownBlock ∧ some k_ ≠ (.slice Ao47 t259.length co47 : Value).ownBlock ∧ some k_ ≠ (.slice (some ad281) t278.length co72 : Value).ownBlock)) (by (with_reducible repeat (first | apply Kd.R_alloc | apply Kd.R_drewN | apply Kd.R_drew)); exact Kd.R_mono HO_5.out (fun _ hk => ⟨⟨hk.2.1, ⟨hk.2.2.1, hk.2.2.2⟩⟩, hk.1⟩)) hg hat); have n1_ := Aside0.mk (Kd.R_after (ok := (fun k_ => some k_ ≠ (v251 : Value).ownBlock ∧ some k_ ≠ (.slice Ao47 t259.length co47 : Value).ownBlock ∧ some k_ ≠ (.slice (some ad281) t278.length co72 : Value).ownBlock)) (by (with_reducible repeat (first | apply Kd.R_alloc | apply Kd.R_drewN | apply Kd.R_drew)); exact Kd.R_mono HO_6.out (fun _ hk => ⟨⟨hk.2.1, ⟨hk.2.2.1, hk.2.2.2⟩⟩, hk.1⟩)) hg hat); have n2_ := Aside0.mk (Kd.R_after (ok := (fun k_ => some k_ ≠ (v251 : Value).ownBlock ∧ some k_ ≠ (.slice (some ad286) t240.length co45 : Value).ownBlock ∧ some k_ ≠ (.slice (some ad281) t278.length co72 : Value).ownBlock)) (by (with_reducible repeat (first | apply Kd.R_alloc | apply Kd.R_drewN | apply Kd.R_drew)); exact Kd.R_mono HO_11.out (fun _ hk => ⟨⟨hk.2.1, ⟨hk.2.2.1, hk.2.2.2⟩⟩, hk.1⟩)) hg hat); have n3_ := Aside0.mk (Kd.R_after (ok := (fun k_ => some k_ ≠ (v251 : Value).ownBlock ∧ some k_ ≠ (.slice (some ad286) t240.length co45 : Value).ownBlock ∧ some k_ ≠ (.slice Ao47 t259.length co47 : Value).ownBlock)) (by (with_reducible repeat (first | apply Kd.R_alloc | apply Kd.R_drewN | apply Kd.R_drew)); exact Kd.R_mono HO_115.out (fun _ hk => ⟨⟨hk.2.1, ⟨hk.2.2.1, hk.2.2.2⟩⟩, hk.1⟩)) hg hat); have n4_ := Aside0.mk (hb); have n5_ := Aside0.mk (ho); clear HO_5 HO_6 HO_11 HO_115 HB HO_4; have HO_5 := n0_; have HO_6 := n1_; have HO_11 := n2_; have HO_115 := n3_; have HB := n4_; have HO289 := n5_; clear n0_ n1_ n2_ n3_ n4_ n5_; clear ho hb hg hat))
                   go_roundg k5
                   case measure => have := HK1.out; have := HK2.out; have := HK3.out; have := HK4.out; have := HK5.out; omega
                   case rel => exact ⟨(y287), (wrap64 (x117_5 + 1)), sD, H', ⟨by have := HK1.out; have := HK2.out; have := HK3.out; have := HK4.out; have := HK5.out; omega⟩, ⟨uR HO289.out⟩, ⟨by (with_reducible repeat (first | apply Kd.R_alloc | apply Kd.R_drewN | apply Kd.R_drew)); exact Kd.R_mono HO_5.out (fun _ hk => ⟨hk.2, ⟨hk.1.1, ⟨hk.1.2.1, hk.1.2.2⟩⟩⟩)⟩, ⟨by (with_reducible repeat (first | apply Kd.R_alloc | apply Kd.R_drewN | apply Kd.R_drew)); exact Kd.R_mono HO_6.out (fun _ hk => ⟨hk.2, ⟨hk.1.1, ⟨hk.1.2.1, hk.1.2.2⟩⟩⟩)⟩, ⟨by (with_reducible repeat (first | apply Kd.R_alloc | apply Kd.R_drewN | apply Kd.R_drew)); exact Kd.R_mono HO_11.out (fun _ hk => ⟨hk.2, ⟨hk.1.1, ⟨hk.1.2.1, hk.1.2.2⟩⟩⟩)⟩, ⟨by (with_reducible repeat (first | apply Kd.R_alloc | apply Kd.R_drewN | apply Kd.R_drew)); exact Kd.R_mono HO_115.out (fun _ hk => ⟨hk.2, ⟨hk.1.1, ⟨hk.1.2.1, hk.1.2.2⟩⟩⟩)⟩, ⟨uB⟩⟩
                  ·have H' := Aside0.mk H
                   clear H
                   obtain ⟨ad281, e281, hx281_0, p281, q281⟩ := rI (Kd.R_reads' HO_115.out).2.2 x117_5
                   cases e281
                   go_wp2
                   go_roundg k5
                   case measure => have := HK1.out; have := HK2.out; have := HK3.out; have := HK4.out; have := HK5.out; omega
                   case rel => exact ⟨(x4_5), (wrap64 (x117_5 + 1)), sD, H', ⟨by have := HK1.out; have := HK2.out; have := HK3.out; have := HK4.out; have := HK5.out; omega⟩, ⟨uR HO_4.out⟩, ⟨uR HO_5.out⟩, ⟨uR HO_6.out⟩, ⟨uR HO_11.out⟩, ⟨uR HO_115.out⟩, ⟨uB⟩⟩
                ·have H' := Aside0.mk H
                 clear H
                 obtain ⟨Ao86, co86, eo86⟩ := Kd.R_slice HO_4.out
                 subst eo86
                 go_wp2
                 go_loopg [149] k5 (fun kq v149 w' => ∃ (x5_6 : List Int) (x149_6 : Int), v149 = .int .i64 x149_6 ∧ Aside0 (skew_ranked.l5 sf kq x4_5 x5_6 x4_5 (x4_5.length : Int) x149_6 = some (r1, r2)) ∧ Aside0 (kq ≤ k5) ∧ Aside0 (Kd.R (Kd.int .i64) 3 w' w.heap.size (fun k_ => some k_ ≠ (v251 : Value).ownBlock) (.slice Ao86 x4_5.length co86) x4_5) ∧ Aside0 (Kd.R (Kd.int .i64) 3 w' w.heap.size (fun k_ => some k_ ≠ ((.slice Ao86 x4_5.length co86) : Value).ownBlock ∧ some k_ ≠ ((.slice Ao86 x4_5.length co86) : Value).ownBlock) v251 x5_6) ∧ Aside0 (Kd.R (Kd.int .i64) 3 w' w.heap.size (fun k_ => some k_ ≠ (v251 : Value).ownBlock) (.slice Ao86 x4_5.length co86) x4_5) ∧ Aside0 (Below w.heap.size w w'))
                 case atStart => exact ⟨(x5_2), (0), sD, H', ⟨Nat.le_refl _⟩, ⟨by (with_reducible repeat (first | apply Kd.R_alloc | apply Kd.R_drewN | apply Kd.R_drew)); exact Kd.R_mono HO_4.out (fun _ hk => hk.1)⟩, ⟨by (with_reducible repeat (first | apply Kd.R_alloc | apply Kd.R_drewN | apply Kd.R_drew)); exact Kd.R_mono HO_5.out (fun _ hk => ⟨hk.1, hk.1⟩)⟩, ⟨by (with_reducible repeat (first | apply Kd.R_alloc | apply Kd.R_drewN | apply Kd.R_drew)); exact Kd.R_mono HO_4.out (fun _ hk => hk.1)⟩, ⟨uB⟩⟩
                 case round =>
                  clear H'
                  obtain ⟨x5_6, x149_6, rfl, HA, HK6, HO_4, HO_5, HO_147, HB⟩ := hrel
                  cases gk with
                  | zero => exact absurd HA.out (by simp [skew_ranked.l5])
                  | succ k6 =>
                   have H := HA.out
                   clear HA
                   simp only [skew_ranked.l5] at H
                   rcases ifC H with ⟨c87b0, H⟩ | ⟨c87b0, H⟩
                   ·obtain ⟨c88b0, c89b0, H⟩ := ifD2 H
                    obtain ⟨c90b0, c91b0, H⟩ := ifD2 H
                    generalize hy291 : (x5_6.set ((rd x4_5 x149_6) : Int).toNat (wrap64 (x149_6 + 1)) : List Int) = y291 at H
                    try simp only [Option.bind_some] at H
                    have Ny291 := Aside0.mk hy291.symm
                    clear hy291
                    have H' := Aside0.mk H
                    clear H
                    obtain ⟨ad290, e290, hx290_0, p290, q290⟩ := rI (Kd.R_reads' HO_147.out).2.2 x149_6
                    cases e290
                    have p92 : 0 ≤ ((rd x4_5 x149_6) : Int) := dT
                    have q92 : ((rd x4_5 x149_6) : Int) < ((x5_6.length : Int) : Int) := dT
                    obtain ⟨go92, co92, eo92, gb92, gl92, cl92, HG92⟩ := Kd.R_form HO_5.out (by omega)
                    (first | cases eo92 | (injection eo92 with ea_ en_ ec_; (first | subst ea_ | (injection ea_ with ea_; subst ea_)); subst ec_; clear en_))
                    have GB92 := Aside0.mk gb92
                    have GG92 := Aside0.mk HG92
                    clear gb92 gl92 HG92
                    obtain ⟨hx92_0, hf92_0⟩ := Kd.R_celln 0 HO_5.out ((rd x4_5 x149_6) : Int) p92 q92
                    replace p92 := eq_true p92
                    replace q92 := eq_true q92
                    have HP93 := Kd.R_putg HO_5.out ((rd x4_5 x149_6) : Int) (wrap64 (x149_6 + 1))
                    go_wp2_with (first | ((with_reducible refine gate_store (t := 3) (p := 158) rfl ?_); refine store_event (t := 3) (p := 158) (v := ?vo_w94) (w1 := (wr.setCell ⟨go92, ((rd x4_5 x149_6) : Int).toNat, none⟩ (.int .i64 (wrap64 (x149_6 + 1))))) ?hg ?ho ?hn ?hr ?_; (case ho => rfl); (case hg => rfl); (case hn => rfl); (case hr => first | (go_simp; done) | (go_simp; rfl)); intro w94 hw; have hg : wr.grownBy w94 (some go92) := (by rw [hw]; exact HP93.2); have hp_ : Kd.R (Kd.int .i64) 3 w94 w.heap.size (fun k_ => some k_ ≠ (.slice (some ad290) x4_5.length co86 : Value).ownBlock ∧ some k_ ≠ (.slice (some ad290) x4_5.length co86 : Value).ownBlock) (.slice (some ⟨go92, 0, none⟩) x5_6.length co92) y291 := (by rw [hw, Ny291.out]; first | exact HP93.1 | exact Kd.R_mono (d := Kd.int .i64) HP93.1 (fun _ hk => ⟨hk.1, ⟨hk.2.2, hk.2.1⟩⟩)); clear HP93; have n0_ := Aside0.mk (Kd.R_after (v := (.slice (some ⟨go92, 0, none⟩) x5_6.length co92)) (v1 := (.slice (some ⟨go92, 0, none⟩) x5_6.length co92)) (ok := (fun _ => True)) (by (with_reducible repeat (first | apply Kd.R_alloc | apply Kd.R_drewN | apply Kd.R_drew)); exact Kd.R_mono HO_4.out (fun _ hk => ⟨trivial, hk⟩)) hg (.inl rfl)); have n1_ := Aside0.mk (hp_); have n2_ := Aside0.mk (Kd.R_after (v := (.slice (some ⟨go92, 0, none⟩) x5_6.length co92)) (v1 := (.slice (some ⟨go92, 0, none⟩) x5_6.length co92)) (ok := (fun _ => True)) (by (with_reducible repeat (first | apply Kd.R_alloc | apply Kd.R_drewN | apply Kd.R_drew)); exact Kd.R_mono HO_147.out (fun _ hk => ⟨trivial, hk⟩)) hg (.inl rfl)); have n3_ := Aside0.mk ((by rw [hw]; exact below_set (HB.out) GB92.out : Below w.heap.size w w94)); clear HO_4 HO_5 HO_147 HB; have HO_4 := n0_; have HO_5 := n1_; have HO_147 := n2_; have HB := n3_; clear n0_ n1_ n2_ n3_; clear hg hw hp_))
                    go_roundg k6
                    case measure => have := HK1.out; have := HK2.out; have := HK3.out; have := HK4.out; have := HK5.out; have := HK6.out; omega
                    case rel => exact ⟨(y291), (wrap64 (x149_6 + 1)), sD, H', ⟨by have := HK1.out; have := HK2.out; have := HK3.out; have := HK4.out; have := HK5.out; have := HK6.out; omega⟩, ⟨by (with_reducible repeat (first | apply Kd.R_alloc | apply Kd.R_drewN | apply Kd.R_drew)); exact Kd.R_mono HO_4.out (fun _ hk => hk.2)⟩, ⟨uR HO_5.out⟩, ⟨by (with_reducible repeat (first | apply Kd.R_alloc | apply Kd.R_drewN | apply Kd.R_drew)); exact Kd.R_mono HO_147.out (fun _ hk => hk.2)⟩, ⟨uB⟩⟩
                   ·simp only [Option.some.injEq, Prod.mk.injEq] at H
                    obtain ⟨rfl, rfl⟩ := H
                    go_wp2
                    go_ret2
                    exact ⟨_, _, by first | rfl | (simp [errW_none, errW_some] <;> rfl) | (simp only [← hji12]; first | rfl | (simp [errW_none, errW_some] <;> rfl)) | (simp [*, errW_none, errW_some] <;> rfl), uR HO_4.out, by (with_reducible repeat (first | apply Kd.R_alloc | apply Kd.R_drewN | apply Kd.R_drew)); exact Kd.R_mono HO_5.out (fun _ hk => hk.1), uB⟩
def skew_less.l0 : Nat → List Int → List Int → Int → Int → Option (Bool)
  | 0, _, _, _, _ => none
  | k + 1, x0, x1, x2, x3 => (skew_key.f x0 x2).bind fun t292 => ((skew_key.f x0 x3).bind fun t293 => (if t292 = t293 then (if (Int.tmod (wrap64 (x2 + 1)) 3) = 0 then (skew_less.l0 k x0 x1 (wrap64 (x2 + 1)) (wrap64 (x3 + 1))) else (if (Int.tmod (wrap64 (x3 + 1)) 3) = 0 then (skew_less.l0 k x0 x1 (wrap64 (x2 + 1)) (wrap64 (x3 + 1))) else (if 0 ≤ (mn (wrap64 (x2 + 1)) (x0.length : Int)) then (if (mn (wrap64 (x2 + 1)) (x0.length : Int)) < (x1.length : Int) then (if 0 ≤ (mn (wrap64 (x3 + 1)) (x0.length : Int)) then (if (mn (wrap64 (x3 + 1)) (x0.length : Int)) < (x1.length : Int) then (some (decide ((rd x1 (mn (wrap64 (x2 + 1)) (x0.length : Int))) < (rd x1 (mn (wrap64 (x3 + 1)) (x0.length : Int)))))) else (none)) else (none)) else (none)) else (none)))) else (some (decide (t292 < t293)))))
def skew_less.f (k : Nat) (l0 : List Int) (l1 : List Int) (a2 : Int) (a3 : Int) : Option (Bool) := skew_less.l0 k l0 l1 a2 a3
theorem skew_less.mono_l : ∀ k, (∀ y0 y1 y2 y3, LeO (skew_less.l0 k y0 y1 y2 y3) (skew_less.l0 (k + 1) y0 y1 y2 y3))
  | 0 => fun _ _ _ _ r h => by simp [skew_less.l0] at h
  | k + 1 => by
    have ih0 := skew_less.mono_l k
    · intro y0 y1 y2 y3
      unfold skew_less.l0
      exact mB
theorem skew_less.mono : ∀ a0 a1 a2 a3 k, LeO (skew_less.f k a0 a1 a2 a3) (skew_less.f (k + 1) a0 a1 a2 a3) := by
  intro a0 a1 a2 a3 k
  have ih0 := skew_less.mono_l k
  unfold skew_less.f
  exact mB
theorem skew_less.calls (k : Nat) (A0 : Option Addr) (c0 : Nat) (l0 : List Int) (A1 : Option Addr) (c1 : Nat) (l1 : List Int) (a2 : Int) (a3 : Int) (r : Bool) (w : World) (hr0 : Kd.C (Kd.int .i64) w A0 l0.length l0) (hc0 : l0.length ≤ c0) (hr1 : Kd.C (Kd.int .i64) w A1 l1.length l1) (hc1 : l1.length ≤ c1) (h : skew_less.f k l0 l1 a2 a3 = some r) :
    Calls Tryz.prog 132 #[.slice A0 l0.length c0, .slice A1 l1.length c1, .int .i64 a2, .int .i64 a3] w fun e w' => e = .returned (.bool r) ∧ Below w.heap.size w w' := by
 have HR0 := Aside0.mk hr0
 have HC0 := Aside0.mk hc0
 clear hr0 hc0
 have HR1 := Aside0.mk hr1
 have HC1 := Aside0.mk hc1
 clear hr1 hc1
 have HB := Aside0.mk (Below.refl w.heap.size w)
 have H := h
 clear h
 unfold skew_less.f at H
 have H' := Aside0.mk H
 clear H
 go_enter Tryz.func132, Tryz.ntmps132
 go_wp2
 repeat (go_quiet (fail); try go_wp2)
 go_loopg [2, 3] k (fun kq v2 v3 w' => ∃ (x2_1 : Int) (x3_1 : Int), v2 = .int .i64 x2_1 ∧ v3 = .int .i64 x3_1 ∧ Aside0 (skew_less.l0 kq l0 l1 x2_1 x3_1 = some r) ∧ Aside0 (kq ≤ k) ∧ Aside0 (Below w.heap.size w w'))
 case atStart => exact ⟨(a2), (a3), sD, sD, H', ⟨Nat.le_refl _⟩, ⟨uB⟩⟩
 case round =>
  clear H'
  obtain ⟨x2_1, x3_1, rfl, rfl, HA, HK1, HB⟩ := hrel
  cases gk with
  | zero => exact absurd HA.out (by simp [skew_less.l0])
  | succ k1 =>
   have H := HA.out
   clear HA
   simp only [skew_less.l0] at H
   obtain ⟨t292, A5, H⟩ := bdS H
   try dsimp only at H
   obtain ⟨t293, A6, H⟩ := bdS H
   try dsimp only at H
   by_cases c7 : t292 = t293
   ·rw [if_pos c7] at H
    have c7b0 : (t292 == t293) = true := beq_iff_eq.mpr c7
    have c7b1 : (t292 != t293) = false := bne_eq_false_iff_eq.mpr c7
    clear c7
    by_cases c8 : (Int.tmod (wrap64 (x2_1 + 1)) 3) = 0
    ·rw [if_pos c8] at H
     have c8b0 : ((Int.tmod (wrap64 (x2_1 + 1)) 3) == 0) = true := beq_iff_eq.mpr c8
     have c8b1 : ((Int.tmod (wrap64 (x2_1 + 1)) 3) != 0) = false := bne_eq_false_iff_eq.mpr c8
     clear c8
     have H' := Aside0.mk H
     clear H
     go_wp2_with (first | (go_at_call 147; (with_reducible refine (skew_key.calls _ _ l0 x2_1 t292 _ ?side1 ?side2 A5.out).mono ?_); (case side1 => exact uC (Kd.C_below HR0.out HB.out)); (case side2 => exact HC0.out); rintro e w' ⟨rfl, ⟨nd, rfl⟩⟩; (try first | exact ⟨rfl, _, World.drewN_drewN _ _ _⟩ | exact ⟨rfl, _, Eq.trans (World.drewN_drewN _ _ _) (congrArg (World.drewN _) (Nat.add_assoc _ _ _))⟩)) | (go_at_call 147; (with_reducible refine (skew_key.calls _ _ l0 x3_1 t293 _ ?side1 ?side2 A6.out).mono ?_); (case side1 => repeat (first | exact (Kd.C_below HR0.out uB) | (with_reducible refine Kd.C_alloc ?_ _) | (with_reducible refine Kd.C_drewN ?_ _) | (with_reducible refine Kd.C_drew ?_))); (case side2 => exact HC0.out); rintro e w' ⟨rfl, ⟨nd, rfl⟩⟩; (try first | exact ⟨rfl, _, World.drewN_drewN _ _ _⟩ | exact ⟨rfl, _, Eq.trans (World.drewN_drewN _ _ _) (congrArg (World.drewN _) (Nat.add_assoc _ _ _))⟩)))
     repeat (go_quiet (first | (go_at_call 147; (with_reducible refine (skew_key.calls _ _ l0 x2_1 t292 _ ?side1 ?side2 A5.out).mono ?_); (case side1 => exact uC (Kd.C_below HR0.out HB.out)); (case side2 => exact HC0.out); rintro e w' ⟨rfl, ⟨nd, rfl⟩⟩; (try first | exact ⟨rfl, _, World.drewN_drewN _ _ _⟩ | exact ⟨rfl, _, Eq.trans (World.drewN_drewN _ _ _) (congrArg (World.drewN _) (Nat.add_assoc _ _ _))⟩)) | (go_at_call 147; (with_reducible refine (skew_key.calls _ _ l0 x3_1 t293 _ ?side1 ?side2 A6.out).mono ?_); (case side1 => repeat (first | exact (Kd.C_below HR0.out uB) | (with_reducible refine Kd.C_alloc ?_ _) | (with_reducible refine Kd.C_drewN ?_ _) | (with_reducible refine Kd.C_drew ?_))); (case side2 => exact HC0.out); rintro e w' ⟨rfl, ⟨nd, rfl⟩⟩; (try first | exact ⟨rfl, _, World.drewN_drewN _ _ _⟩ | exact ⟨rfl, _, Eq.trans (World.drewN_drewN _ _ _) (congrArg (World.drewN _) (Nat.add_assoc _ _ _))⟩))); try go_wp2_with (first | (go_at_call 147; (with_reducible refine (skew_key.calls _ _ l0 x2_1 t292 _ ?side1 ?side2 A5.out).mono ?_); (case side1 => exact uC (Kd.C_below HR0.out HB.out)); (case side2 => exact HC0.out); rintro e w' ⟨rfl, ⟨nd, rfl⟩⟩; (try first | exact ⟨rfl, _, World.drewN_drewN _ _ _⟩ | exact ⟨rfl, _, Eq.trans (World.drewN_drewN _ _ _) (congrArg (World.drewN _) (Nat.add_assoc _ _ _))⟩)) | (go_at_call 147; (with_reducible refine (skew_key.calls _ _ l0 x3_1 t293 _ ?side1 ?side2 A6.out).mono ?_); (case side1 => repeat (first | exact (Kd.C_below HR0.out uB) | (with_reducible refine Kd.C_alloc ?_ _) | (with_reducible refine Kd.C_drewN ?_ _) | (with_reducible refine Kd.C_drew ?_))); (case side2 => exact HC0.out); rintro e w' ⟨rfl, ⟨nd, rfl⟩⟩; (try first | exact ⟨rfl, _, World.drewN_drewN _ _ _⟩ | exact ⟨rfl, _, Eq.trans (World.drewN_drewN _ _ _) (congrArg (World.drewN _) (Nat.add_assoc _ _ _))⟩))))
     go_roundg k1
     case measure => have := HK1.out; omega
     case rel => exact ⟨(wrap64 (x2_1 + 1)), (wrap64 (x3_1 + 1)), sD, sD, H', ⟨by have := HK1.out; omega⟩, ⟨uB⟩⟩
    ·rw [if_neg c8] at H
     have c8b0 : ((Int.tmod (wrap64 (x2_1 + 1)) 3) == 0) = false := beq_eq_false_iff_ne.mpr c8
     have c8b1 : ((Int.tmod (wrap64 (x2_1 + 1)) 3) != 0) = true := bne_iff_ne.mpr c8
     by_cases c9 : (Int.tmod (wrap64 (x3_1 + 1)) 3) = 0
     ·rw [if_pos c9] at H
      have c9b0 : ((Int.tmod (wrap64 (x3_1 + 1)) 3) == 0) = true := beq_iff_eq.mpr c9
      have c9b1 : ((Int.tmod (wrap64 (x3_1 + 1)) 3) != 0) = false := bne_eq_false_iff_eq.mpr c9
      clear c9
      have H' := Aside0.mk H
      clear H
      go_wp2_with (first | (go_at_call 147; (with_reducible refine (skew_key.calls _ _ l0 x2_1 t292 _ ?side1 ?side2 A5.out).mono ?_); (case side1 => exact uC (Kd.C_below HR0.out HB.out)); (case side2 => exact HC0.out); rintro e w' ⟨rfl, ⟨nd, rfl⟩⟩; (try first | exact ⟨rfl, _, World.drewN_drewN _ _ _⟩ | exact ⟨rfl, _, Eq.trans (World.drewN_drewN _ _ _) (congrArg (World.drewN _) (Nat.add_assoc _ _ _))⟩)) | (go_at_call 147; (with_reducible refine (skew_key.calls _ _ l0 x3_1 t293 _ ?side1 ?side2 A6.out).mono ?_); (case side1 => repeat (first | exact (Kd.C_below HR0.out uB) | (with_reducible refine Kd.C_alloc ?_ _) | (with_reducible refine Kd.C_drewN ?_ _) | (with_reducible refine Kd.C_drew ?_))); (case side2 => exact HC0.out); rintro e w' ⟨rfl, ⟨nd, rfl⟩⟩; (try first | exact ⟨rfl, _, World.drewN_drewN _ _ _⟩ | exact ⟨rfl, _, Eq.trans (World.drewN_drewN _ _ _) (congrArg (World.drewN _) (Nat.add_assoc _ _ _))⟩)))
      repeat (go_quiet (first | (go_at_call 147; (with_reducible refine (skew_key.calls _ _ l0 x2_1 t292 _ ?side1 ?side2 A5.out).mono ?_); (case side1 => exact uC (Kd.C_below HR0.out HB.out)); (case side2 => exact HC0.out); rintro e w' ⟨rfl, ⟨nd, rfl⟩⟩; (try first | exact ⟨rfl, _, World.drewN_drewN _ _ _⟩ | exact ⟨rfl, _, Eq.trans (World.drewN_drewN _ _ _) (congrArg (World.drewN _) (Nat.add_assoc _ _ _))⟩)) | (go_at_call 147; (with_reducible refine (skew_key.calls _ _ l0 x3_1 t293 _ ?side1 ?side2 A6.out).mono ?_); (case side1 => repeat (first | exact (Kd.C_below HR0.out uB) | (with_reducible refine Kd.C_alloc ?_ _) | (with_reducible refine Kd.C_drewN ?_ _) | (with_reducible refine Kd.C_drew ?_))); (case side2 => exact HC0.out); rintro e w' ⟨rfl, ⟨nd, rfl⟩⟩; (try first | exact ⟨rfl, _, World.drewN_drewN _ _ _⟩ | exact ⟨rfl, _, Eq.trans (World.drewN_drewN _ _ _) (congrArg (World.drewN _) (Nat.add_assoc _ _ _))⟩))); try go_wp2_with (first | (go_at_call 147; (with_reducible refine (skew_key.calls _ _ l0 x2_1 t292 _ ?side1 ?side2 A5.out).mono ?_); (case side1 => exact uC (Kd.C_below HR0.out HB.out)); (case side2 => exact HC0.out); rintro e w' ⟨rfl, ⟨nd, rfl⟩⟩; (try first | exact ⟨rfl, _, World.drewN_drewN _ _ _⟩ | exact ⟨rfl, _, Eq.trans (World.drewN_drewN _ _ _) (congrArg (World.drewN _) (Nat.add_assoc _ _ _))⟩)) | (go_at_call 147; (with_reducible refine (skew_key.calls _ _ l0 x3_1 t293 _ ?side1 ?side2 A6.out).mono ?_); (case side1 => repeat (first | exact (Kd.C_below HR0.out uB) | (with_reducible refine Kd.C_alloc ?_ _) | (with_reducible refine Kd.C_drewN ?_ _) | (with_reducible refine Kd.C_drew ?_))); (case side2 => exact HC0.out); rintro e w' ⟨rfl, ⟨nd, rfl⟩⟩; (try first | exact ⟨rfl, _, World.drewN_drewN _ _ _⟩ | exact ⟨rfl, _, Eq.trans (World.drewN_drewN _ _ _) (congrArg (World.drewN _) (Nat.add_assoc _ _ _))⟩))))
      go_roundg k1
      case measure => have := HK1.out; omega
      case rel => exact ⟨(wrap64 (x2_1 + 1)), (wrap64 (x3_1 + 1)), sD, sD, H', ⟨by have := HK1.out; omega⟩, ⟨uB⟩⟩
     ·rw [if_neg c9] at H
      have c9b0 : ((Int.tmod (wrap64 (x3_1 + 1)) 3) == 0) = false := beq_eq_false_iff_ne.mpr c9
      have c9b1 : ((Int.tmod (wrap64 (x3_1 + 1)) 3) != 0) = true := bne_iff_ne.mpr c9
      obtain ⟨ji10, hji10⟩ : ∃ j_ : Int, (mn (wrap64 (x2_1 + 1)) (l0.length : Int)) = j_ := ⟨_, rfl⟩
      first | rw [hji10] at H | simp only [hji10] at H
      (try rw [hji10] at A5)
      (try rw [hji10] at A6)
      have hji10_ : (if (l0.length : Int) < (wrap64 (x2_1 + 1)) then (l0.length : Int) else (wrap64 (x2_1 + 1))) = ji10 := hji10
      obtain ⟨c11b0, c12b0, H⟩ := ifD2 H
      obtain ⟨ji13, hji13⟩ : ∃ j_ : Int, (mn (wrap64 (x3_1 + 1)) (l0.length : Int)) = j_ := ⟨_, rfl⟩
      first | rw [hji13] at H | simp only [hji13] at H
      (try rw [hji13] at A5)
      (try rw [hji13] at A6)
      have hji13_ : (if (l0.length : Int) < (wrap64 (x3_1 + 1)) then (l0.length : Int) else (wrap64 (x3_1 + 1))) = ji13 := hji13
      obtain ⟨c14b0, c15b0, H⟩ := ifD2 H
      obtain rfl := Option.some.inj H
      go_wp2_with (first | (go_at_call 147; (with_reducible refine (skew_key.calls _ _ l0 x2_1 t292 _ ?side1 ?side2 A5.out).mono ?_); (case side1 => exact uC (Kd.C_below HR0.out HB.out)); (case side2 => exact HC0.out); rintro e w' ⟨rfl, ⟨nd, rfl⟩⟩; (try first | exact ⟨rfl, _, World.drewN_drewN _ _ _⟩ | exact ⟨rfl, _, Eq.trans (World.drewN_drewN _ _ _) (congrArg (World.drewN _) (Nat.add_assoc _ _ _))⟩)) | (go_at_call 147; (with_reducible refine (skew_key.calls _ _ l0 x3_1 t293 _ ?side1 ?side2 A6.out).mono ?_); (case side1 => repeat (first | exact (Kd.C_below HR0.out uB) | (with_reducible refine Kd.C_alloc ?_ _) | (with_reducible refine Kd.C_drewN ?_ _) | (with_reducible refine Kd.C_drew ?_))); (case side2 => exact HC0.out); rintro e w' ⟨rfl, ⟨nd, rfl⟩⟩; (try first | exact ⟨rfl, _, World.drewN_drewN _ _ _⟩ | exact ⟨rfl, _, Eq.trans (World.drewN_drewN _ _ _) (congrArg (World.drewN _) (Nat.add_assoc _ _ _))⟩); have p294 : 0 ≤ ((ji10) : Int) := dT; have q294 : (ji10) < (l1.length : Int) := dT; obtain ⟨ad294, e294, hx294_0⟩ := Kd.at_int HR1.out (ji10) p294 q294; cases e294; replace hx294_0 := (HB.out.cell (World.block_lt_of_cell? w _ hx294_0)).trans hx294_0; replace p294 := eq_true p294; replace q294 := eq_true q294; have p295 : 0 ≤ ((ji13) : Int) := dT; have q295 : (ji13) < (l1.length : Int) := dT; obtain ⟨ad295, e295, hx295_0⟩ := Kd.at_int HR1.out (ji13) p295 q295; obtain rfl : ad294 = ad295 := (by injection e295); replace hx295_0 := (HB.out.cell (World.block_lt_of_cell? w _ hx295_0)).trans hx295_0; replace p295 := eq_true p295; replace q295 := eq_true q295))
      repeat (go_quiet (first | (go_at_call 147; (with_reducible refine (skew_key.calls _ _ l0 x2_1 t292 _ ?side1 ?side2 A5.out).mono ?_); (case side1 => exact uC (Kd.C_below HR0.out HB.out)); (case side2 => exact HC0.out); rintro e w' ⟨rfl, ⟨nd, rfl⟩⟩; (try first | exact ⟨rfl, _, World.drewN_drewN _ _ _⟩ | exact ⟨rfl, _, Eq.trans (World.drewN_drewN _ _ _) (congrArg (World.drewN _) (Nat.add_assoc _ _ _))⟩)) | (go_at_call 147; (with_reducible refine (skew_key.calls _ _ l0 x3_1 t293 _ ?side1 ?side2 A6.out).mono ?_); (case side1 => repeat (first | exact (Kd.C_below HR0.out uB) | (with_reducible refine Kd.C_alloc ?_ _) | (with_reducible refine Kd.C_drewN ?_ _) | (with_reducible refine Kd.C_drew ?_))); (case side2 => exact HC0.out); rintro e w' ⟨rfl, ⟨nd, rfl⟩⟩; (try first | exact ⟨rfl, _, World.drewN_drewN _ _ _⟩ | exact ⟨rfl, _, Eq.trans (World.drewN_drewN _ _ _) (congrArg (World.drewN _) (Nat.add_assoc _ _ _))⟩); have p294 : 0 ≤ ((ji10) : Int) := dT; have q294 : (ji10) < (l1.length : Int) := dT; obtain ⟨ad294, e294, hx294_0⟩ := Kd.at_int HR1.out (ji10) p294 q294; cases e294; replace hx294_0 := (HB.out.cell (World.block_lt_of_cell? w _ hx294_0)).trans hx294_0; replace p294 := eq_true p294; replace q294 := eq_true q294; have p295 : 0 ≤ ((ji13) : Int) := dT; have q295 : (ji13) < (l1.length : Int) := dT; obtain ⟨ad295, e295, hx295_0⟩ := Kd.at_int HR1.out (ji13) p295 q295; obtain rfl : ad294 = ad295 := (by injection e295); replace hx295_0 := (HB.out.cell (World.block_lt_of_cell? w _ hx295_0)).trans hx295_0; replace p295 := eq_true p295; replace q295 := eq_true q295)); try go_wp2_with (first | (go_at_call 147; (with_reducible refine (skew_key.calls _ _ l0 x2_1 t292 _ ?side1 ?side2 A5.out).mono ?_); (case side1 => exact uC (Kd.C_below HR0.out HB.out)); (case side2 => exact HC0.out); rintro e w' ⟨rfl, ⟨nd, rfl⟩⟩; (try first | exact ⟨rfl, _, World.drewN_drewN _ _ _⟩ | exact ⟨rfl, _, Eq.trans (World.drewN_drewN _ _ _) (congrArg (World.drewN _) (Nat.add_assoc _ _ _))⟩)) | (go_at_call 147; (with_reducible refine (skew_key.calls _ _ l0 x3_1 t293 _ ?side1 ?side2 A6.out).mono ?_); (case side1 => repeat (first | exact (Kd.C_below HR0.out uB) | (with_reducible refine Kd.C_alloc ?_ _) | (with_reducible refine Kd.C_drewN ?_ _) | (with_reducible refine Kd.C_drew ?_))); (case side2 => exact HC0.out); rintro e w' ⟨rfl, ⟨nd, rfl⟩⟩; (try first | exact ⟨rfl, _, World.drewN_drewN _ _ _⟩ | exact ⟨rfl, _, Eq.trans (World.drewN_drewN _ _ _) (congrArg (World.drewN _) (Nat.add_assoc _ _ _))⟩); have p294 : 0 ≤ ((ji10) : Int) := dT; have q294 : (ji10) < (l1.length : Int) := dT; obtain ⟨ad294, e294, hx294_0⟩ := Kd.at_int HR1.out (ji10) p294 q294; cases e294; replace hx294_0 := (HB.out.cell (World.block_lt_of_cell? w _ hx294_0)).trans hx294_0; replace p294 := eq_true p294; replace q294 := eq_true q294; have p295 : 0 ≤ ((ji13) : Int) := dT; have q295 : (ji13) < (l1.length : Int) := dT; obtain ⟨ad295, e295, hx295_0⟩ := Kd.at_int HR1.out (ji13) p295 q295; obtain rfl : ad294 = ad295 := (by injection e295); replace hx295_0 := (HB.out.cell (World.block_lt_of_cell? w _ hx295_0)).trans hx295_0; replace p295 := eq_true p295; replace q295 := eq_true q295)))
      go_ret
      exact ⟨by first | rfl | (simp [errW_none, errW_some] <;> rfl) | (simp only [← hji10, ← hji13]; first | rfl | (simp [errW_none, errW_some] <;> rfl)) | (simp [*, errW_none, errW_some] <;> rfl), uB⟩
   ·rw [if_neg c7] at H
    have c7b0 : (t292 == t293) = false := beq_eq_false_iff_ne.mpr c7
    have c7b1 : (t292 != t293) = true := bne_iff_ne.mpr c7
    obtain rfl := Option.some.inj H
    go_wp2_with (first | (go_at_call 147; (with_reducible refine (skew_key.calls _ _ l0 x2_1 t292 _ ?side1 ?side2 A5.out).mono ?_); (case side1 => exact uC (Kd.C_below HR0.out HB.out)); (case side2 => exact HC0.out); rintro e w' ⟨rfl, ⟨nd, rfl⟩⟩; (try first | exact ⟨rfl, _, World.drewN_drewN _ _ _⟩ | exact ⟨rfl, _, Eq.trans (World.drewN_drewN _ _ _) (congrArg (World.drewN _) (Nat.add_assoc _ _ _))⟩)) | (go_at_call 147; (with_reducible refine (skew_key.calls _ _ l0 x3_1 t293 _ ?side1 ?side2 A6.out).mono ?_); (case side1 => repeat (first | exact (Kd.C_below HR0.out uB) | (with_reducible refine Kd.C_alloc ?_ _) | (with_reducible refine Kd.C_drewN ?_ _) | (with_reducible refine Kd.C_drew ?_))); (case side2 => exact HC0.out); rintro e w' ⟨rfl, ⟨nd, rfl⟩⟩; (try first | exact ⟨rfl, _, World.drewN_drewN _ _ _⟩ | exact ⟨rfl, _, Eq.trans (World.drewN_drewN _ _ _) (congrArg (World.drewN _) (Nat.add_assoc _ _ _))⟩)))
    repeat (go_quiet (first | (go_at_call 147; (with_reducible refine (skew_key.calls _ _ l0 x2_1 t292 _ ?side1 ?side2 A5.out).mono ?_); (case side1 => exact uC (Kd.C_below HR0.out HB.out)); (case side2 => exact HC0.out); rintro e w' ⟨rfl, ⟨nd, rfl⟩⟩; (try first | exact ⟨rfl, _, World.drewN_drewN _ _ _⟩ | exact ⟨rfl, _, Eq.trans (World.drewN_drewN _ _ _) (congrArg (World.drewN _) (Nat.add_assoc _ _ _))⟩)) | (go_at_call 147; (with_reducible refine (skew_key.calls _ _ l0 x3_1 t293 _ ?side1 ?side2 A6.out).mono ?_); (case side1 => repeat (first | exact (Kd.C_below HR0.out uB) | (with_reducible refine Kd.C_alloc ?_ _) | (with_reducible refine Kd.C_drewN ?_ _) | (with_reducible refine Kd.C_drew ?_))); (case side2 => exact HC0.out); rintro e w' ⟨rfl, ⟨nd, rfl⟩⟩; (try first | exact ⟨rfl, _, World.drewN_drewN _ _ _⟩ | exact ⟨rfl, _, Eq.trans (World.drewN_drewN _ _ _) (congrArg (World.drewN _) (Nat.add_assoc _ _ _))⟩))); try go_wp2_with (first | (go_at_call 147; (with_reducible refine (skew_key.calls _ _ l0 x2_1 t292 _ ?side1 ?side2 A5.out).mono ?_); (case side1 => exact uC (Kd.C_below HR0.out HB.out)); (case side2 => exact HC0.out); rintro e w' ⟨rfl, ⟨nd, rfl⟩⟩; (try first | exact ⟨rfl, _, World.drewN_drewN _ _ _⟩ | exact ⟨rfl, _, Eq.trans (World.drewN_drewN _ _ _) (congrArg (World.drewN _) (Nat.add_assoc _ _ _))⟩)) | (go_at_call 147; (with_reducible refine (skew_key.calls _ _ l0 x3_1 t293 _ ?side1 ?side2 A6.out).mono ?_); (case side1 => repeat (first | exact (Kd.C_below HR0.out uB) | (with_reducible refine Kd.C_alloc ?_ _) | (with_reducible refine Kd.C_drewN ?_ _) | (with_reducible refine Kd.C_drew ?_))); (case side2 => exact HC0.out); rintro e w' ⟨rfl, ⟨nd, rfl⟩⟩; (try first | exact ⟨rfl, _, World.drewN_drewN _ _ _⟩ | exact ⟨rfl, _, Eq.trans (World.drewN_drewN _ _ _) (congrArg (World.drewN _) (Nat.add_assoc _ _ _))⟩))))
    go_ret
    exact ⟨eR, uB⟩
mutual
def skew_sorted.l0 : Nat → List Int → Int → List Int → List Int → List Int → List Int → Int → Int → Option (List Int)
  | 0, _, _, _, _, _, _, _, _ => none
  | k + 1, x0, x1, x5, x6, x7, x8, x35, x36 => if x36 < x35 then (if 0 ≤ (wrap64 (x36 + 1)) then (if (wrap64 (x36 + 1)) < (x6.length : Int) then (if 0 ≤ x36 then (if x36 < (x8.length : Int) then (skew_sorted.l0 k x0 x1 x5 x6 x7 (x8.set (x36 : Int).toNat (rd x6 (wrap64 (x36 + 1)))) x35 (wrap64 (x36 + 1))) else (none)) else (none)) else (none)) else (none)) else ((bucket_Pass.f k x7 x8 (wrap64 ((x0.length : Int) + 1))).bind fun bt316 => ((skew_keys.f k x0 0).bind fun t320 => ((bucket_Pass.f k bt316.1 t320 (wrap64 (x1 + 1))).bind fun bt323 => (skew_sorted.l1 k x0 x5 x6 ([] : List Int) bt323.1 (bt323.1.length : Int) 0))))
def skew_sorted.l1 : Nat → List Int → List Int → List Int → List Int → List Int → Int → Int → Option (List Int)
  | 0, _, _, _, _, _, _, _ => none
  | k + 1, x0, x5, x6, x10, x66, x67, x68 => if x68 < x67 then (if 0 ≤ x68 then (if x68 < (x66.length : Int) then (skew_sorted.l2 k x0 x5 x6 x10 (rd x66 x68) x66 x67 x68) else (none)) else (none)) else (if x10.length + x5.length < 17592186044416 then (some (x10 ++ x5)) else (none))
def skew_sorted.l2 : Nat → List Int → List Int → List Int → List Int → Int → List Int → Int → Int → Option (List Int)
  | 0, _, _, _, _, _, _, _, _ => none
  | k + 1, x0, x5, x6, x10, x12, x66, x67, x68 => if (x5.length : Int) > 0 then (if 0 < (x5.length : Int) then ((skew_less.f k x0 x6 (rd x5 0) x12).bind fun t332 => (if t332 = true then (if x10.length < 17592186044416 then (if 1 ≤ (x5.length : Int) then (skew_sorted.l2 k x0 (x5.drop (1 : Int).toNat) x6 (x10 ++ [rd x5 0]) x12 x66 x67 x68) else (none)) else (none)) else (if x10.length < 17592186044416 then (skew_sorted.l1 k x0 x5 x6 (x10 ++ [x12]) x66 x67 (wrap64 (x68 + 1))) else (none)))) else (none)) else (if x10.length < 17592186044416 then (skew_sorted.l1 k x0 x5 x6 (x10 ++ [x12]) x66 x67 (wrap64 (x68 + 1))) else (none))
def skew_sorted.f : Nat → List Int → Int → Option (List Int)
  | 0, _, _ => none
  | k + 1, l0, a1 => if (l0.length : Int) < 2 then ((skew_places.f k (l0.length : Int) 0).bind fun t296 => (if 0 ≤ (l0.length : Int) then (if (l0.length : Int) ≤ (t296.length : Int) then (some (t296.take ((l0.length : Int) : Int).toNat)) else (none)) else (none))) else ((skew_ranked.f (skew_sorted.f k) k l0 a1).bind fun bt302 => ((skew_places.f k (l0.length : Int) 0).bind fun t308 => (if 0 ≤ (l0.length : Int) then (if ((l0.length : Int) : Int).toNat ≤ 35184372088832 then ((some (List.replicate ((l0.length : Int) : Int).toNat 0 : List Int)).bind fun y311 => (skew_sorted.l0 k l0 a1 bt302.1 bt302.2 t308 y311 (y311.length : Int) 0)) else (none)) else (none))))
end
theorem skew_sorted.mono_l : ∀ k, (∀ y0 y1, LeO (skew_sorted.f k y0 y1) (skew_sorted.f (k + 1) y0 y1)) ∧ (∀ y0 y1 y2 y3 y4 y5 y6 y7, LeO (skew_sorted.l0 k y0 y1 y2 y3 y4 y5 y6 y7) (skew_sorted.l0 (k + 1) y0 y1 y2 y3 y4 y5 y6 y7)) ∧ (∀ y0 y1 y2 y3 y4 y5 y6, LeO (skew_sorted.l1 k y0 y1 y2 y3 y4 y5 y6) (skew_sorted.l1 (k + 1) y0 y1 y2 y3 y4 y5 y6)) ∧ (∀ y0 y1 y2 y3 y4 y5 y6 y7, LeO (skew_sorted.l2 k y0 y1 y2 y3 y4 y5 y6 y7) (skew_sorted.l2 (k + 1) y0 y1 y2 y3 y4 y5 y6 y7))
  | 0 => ⟨fun _ _ r h => by simp [skew_sorted.f] at h, fun _ _ _ _ _ _ _ _ r h => by simp [skew_sorted.l0] at h, fun _ _ _ _ _ _ _ r h => by simp [skew_sorted.l1] at h, fun _ _ _ _ _ _ _ _ r h => by simp [skew_sorted.l2] at h⟩
  | k + 1 => by
    obtain ⟨ih0, ih1, ih2, ih3⟩ := skew_sorted.mono_l k
    refine ⟨?_, ?_, ?_, ?_⟩
    · intro y0 y1
      unfold skew_sorted.f
      have m0 := @bucket_Pass.mono
      have m1 := @skew_keys.mono
      have m2 := @skew_less.mono
      have m3 := @skew_places.mono
      have m4 := @skew_ranked.mono
      exact mB
    · intro y0 y1 y2 y3 y4 y5 y6 y7
      unfold skew_sorted.l0
      have m0 := @bucket_Pass.mono
      have m1 := @skew_keys.mono
      have m2 := @skew_less.mono
      have m3 := @skew_places.mono
      have m4 := @skew_ranked.mono
      exact mB
    · intro y0 y1 y2 y3 y4 y5 y6
      unfold skew_sorted.l1
      have m0 := @bucket_Pass.mono
      have m1 := @skew_keys.mono
      have m2 := @skew_less.mono
      have m3 := @skew_places.mono
      have m4 := @skew_ranked.mono
      exact mB
    · intro y0 y1 y2 y3 y4 y5 y6 y7
      unfold skew_sorted.l2
      have m0 := @bucket_Pass.mono
      have m1 := @skew_keys.mono
      have m2 := @skew_less.mono
      have m3 := @skew_places.mono
      have m4 := @skew_ranked.mono
      exact mB
theorem skew_sorted.mono : ∀ a0 a1 k, LeO (skew_sorted.f k a0 a1) (skew_sorted.f (k + 1) a0 a1) := by
  intro a0 a1 k
  obtain ⟨ih0, ih1, ih2, ih3⟩ := skew_sorted.mono_l k
  exact ih0 a0 a1
def skew_sorted.T18 : Bool × List (List Nat × List Nat) := (true, [([], []), ([], []), ([1], [1]), ([2], [2]), ([3], [3]), ([0, 4], [0, 4]), ([], []), ([6], [6]), ([5, 5, 0, 1, 2, 3, 4, 5], [0, 5]), ([7, 8, 0, 1, 2, 3, 4, 5, 6, 7, 8], [1, 6, 7])])
def skew_sorted.B18 : List Nat := [0, 0, 2, 6, 14, 31, 0, 64, 63, 511]
theorem skew_sorted.tab18 : rtab .any (opsOf Tryz.f107 18) = skew_sorted.T18 := by kernel_rfl
theorem skew_sorted.bits18 : waitsOk skew_sorted.T18.2 skew_sorted.B18 = true := by kernel_rfl
theorem skew_sorted.calls (k : Nat) : ∀ (A0 : Option Addr) (c0 : Nat) (l0 : List Int) (a1 : Int) (r : List Int) (w : World) (hr0 : Kd.C (Kd.int .i64) w A0 l0.length l0) (hc0 : l0.length ≤ c0) (h : skew_sorted.f k l0 a1 = some r),
    Calls Tryz.prog 107 #[.slice A0 l0.length c0, .int .i64 a1] w fun e w' => ∃ v0_ : Value, e = .returned (v0_) ∧ Kd.R (Kd.int .i64) 3 w' w.heap.size (fun _ => True) v0_ r ∧ Below w.heap.size w w' := by
 induction k using Nat.strongRecOn with
 | _ k ih =>
 intro A0 c0 l0 a1 r w hr0 hc0 h
 cases k with
 | zero => exact absurd h (by simp [skew_sorted.f])
 | succ k =>
 simp only [skew_sorted.f] at h
 have HR0 := Aside0.mk hr0
 have HC0 := Aside0.mk hc0
 clear hr0 hc0
 have HB := Aside0.mk (Below.refl w.heap.size w)
 have H := h
 clear h
 unfold skew_sorted.f at H
 by_cases c3 : (l0.length : Int) < 2
 ·rw [if_pos c3] at H
  have c3b0 : decide ((l0.length : Int) < 2) = true := decide_eq_true c3
  have c3b1 : decide (l0.length < 2) = true := decide_eq_true (by omega)
  clear c3
  obtain ⟨t296, A4, H⟩ := bdS H
  try dsimp only at H
  obtain ⟨c5b0, c5b1, H⟩ := ifE H
  obtain ⟨c6b0, c6b1, H⟩ := ifE H
  generalize hy299 : (t296.take ((l0.length : Int) : Int).toNat : List Int) = y299 at H
  try simp only [Option.bind_some] at H
  have Ny299 := Aside0.mk hy299.symm
  clear hy299
  obtain rfl := Option.some.inj H
  go_enter Tryz.func107, Tryz.ntmps107
  go_wp2_with (first | ((with_reducible refine gate_callee (f := 129) rfl ?_); refine goesL_ (some 18) rfl rfl Tryz.func129 (by kernel_rfl) rfl #[.int .i64 (l0.length : Int), .int .i64 0] rfl aE ?_; (with_reducible refine (skew_places.calls k (l0.length : Int) 0 t296 _ A4.out).mono ?_); rintro e w7 ⟨v297, rfl, ho0, hb⟩; refine ⟨_, rfl, ?_⟩; have n0_ := Aside0.mk (Kd.R_lower ho0 (below_size uB)); have n1_ := Aside0.mk (below_step uB hb); clear HB; have HO298 := n0_; have HB := n1_; clear n0_ n1_; obtain ⟨Ao8, co8, eo8⟩ := Kd.R_slice HO298.out; subst eo8; have q9 : ((l0.length : Int) : Int) ≤ ((t296.length : Int) : Int) := dT; obtain ⟨i09, hi09, _, hsz9, _⟩ := info_parts info3; have hcut9 := cut_to (P := Tryz.prog) 29 3 .i64 Tryz.underlying29 hi09 Ao8 t296.length co8 (l0.length : Int) dT q9 (Kd.R_reads' HO298.out).2.1; have hr9 := Kd.R_take (m := ((l0.length : Int) : Int).toNat) HO298.out (by omega); have hy9 : y299.length = ((l0.length : Int) : Int).toNat := (by rw [Ny299.out, List.length_take]; omega); rw [← Ny299.out] at hr9; rw [← hy9] at hr9 hcut9; clear hy9 hi09 hsz9 HO298; have HO301 := Aside0.mk hr9; clear hr9; replace q9 := eq_true q9))
  go_ret
  exact ⟨_, eR, uR HO301.out, uB⟩
 ·rw [if_neg c3] at H
  have c3b0 : decide ((l0.length : Int) < 2) = false := decide_eq_false c3
  have c3b1 : decide (l0.length < 2) = false := decide_eq_false (by omega)
  clear c3
  obtain ⟨⟨t302, t303⟩, A10, H⟩ := bdS H
  try dsimp only at H
  obtain ⟨t308, A11, H⟩ := bdS H
  try dsimp only at H
  obtain ⟨c12b0, c12b1, H⟩ := ifE H
  obtain ⟨c13b0, c13b1, H⟩ := ifE H
  generalize hy311 : (List.replicate ((l0.length : Int) : Int).toNat 0 : List Int) = y311 at H
  try simp only [Option.bind_some] at H
  have Ny311 := Aside0.mk hy311.symm
  clear hy311
  have H' := Aside0.mk H
  clear H
  go_enter Tryz.func107, Tryz.ntmps107
  go_wp2_with (first | ((with_reducible refine gate_callee (f := 130) rfl ?_); refine goesL_ (some 25) rfl rfl Tryz.func130 (by kernel_rfl) rfl #[.slice A0 l0.length c0, .int .i64 a1] rfl aE ?_; (with_reducible refine (skew_ranked.calls (skew_sorted.f k) (fun A0 c0 l0 a1 r w hr0 hc0 h => ih k (by omega) A0 c0 l0 a1 r w hr0 hc0 h) k _ _ l0 a1 t302 t303 _ ?side1 ?side2 A10.out).mono ?_); (case side1 => exact uC HR0.out); (case side2 => exact HC0.out); rintro e w14 ⟨v304, v306, rfl, ho0, ho1, hb⟩; refine ⟨_, rfl, ?_⟩; have n0_ := Aside0.mk (Kd.R_lower ho0 (below_size uB)); have n1_ := Aside0.mk (Kd.R_lower ho1 (below_size uB)); have n2_ := Aside0.mk (below_step uB hb); clear HB; have HO305 := n0_; have HO307 := n1_; have HB := n2_; clear n0_ n1_ n2_) | ((with_reducible refine gate_callee (f := 129) rfl ?_); refine goesL_ (some 30) rfl rfl Tryz.func129 (by kernel_rfl) rfl #[.int .i64 (l0.length : Int), .int .i64 0] rfl aE ?_; (with_reducible refine (skew_places.calls k (l0.length : Int) 0 t308 _ A11.out).mono ?_); rintro e w15 ⟨v309, rfl, ho0, hb⟩; refine ⟨_, rfl, ?_⟩; have n0_ := Aside0.mk (Kd.R_elder' (uR HO305.out) (Kd.R_base ho0) hb); have n1_ := Aside0.mk (Kd.R_elder' (uR HO307.out) (Kd.R_base ho0) hb); have n2_ := Aside0.mk (Kd.R_lower (Kd.R_new' (Kd.R_new' ho0 (Kd.R_lt (uR HO305.out))) (Kd.R_lt (uR HO307.out))) (below_size uB)); have n3_ := Aside0.mk (below_step uB hb); clear HO305 HO307 HB; have HO305 := n0_; have HO307 := n1_; have HO310 := n2_; have HB := n3_; clear n0_ n1_ n2_ n3_) | ((with_reducible refine gate_dst (N := 33) rfl ?_); refine Kd.R_make (Kd.int .i64) _ 3 rfl (N := 33) rfl 29 _ _ rfl (l0.length : Int) rfl rfl Tryz.underlying29 (.int .i64 0) 8 info3 rfl (by decide) (by omega) 0 (ok := fun _ => True) (okp := fun _ => True) rfl (fun _ hk => hk) trivial dT (Nat.le_trans (Nat.mul_le_mul_right _ (dT : (l0.length : Int).toNat ≤ 35184372088832)) (by omega)) (Below.refl _ _) (Nat.le_refl _) ?_; intro v312 w16 ho17 hb hg_ hnew_; clear hg_ hnew_; (first | rw [← Ny311.out] at ho17 | (simp only [Int.reduceToNat] at ho17; rw [← Ny311.out] at ho17)); have n0_ := Aside0.mk (Kd.R_elder' (uR HO305.out) (Kd.R_base ho17) hb); have n1_ := Aside0.mk (Kd.R_elder' (uR HO307.out) (Kd.R_base ho17) hb); have n2_ := Aside0.mk (Kd.R_elder' (uR HO310.out) (Kd.R_base ho17) hb); have n3_ := Aside0.mk (Kd.R_lower (Kd.R_new' (Kd.R_new' (Kd.R_new' ho17 (Kd.R_lt (uR HO305.out))) (Kd.R_lt (uR HO307.out))) (Kd.R_lt (uR HO310.out))) (below_size uB)); have n4_ := Aside0.mk (below_step uB hb); clear HO305 HO307 HO310 HB; have HO305 := n0_; have HO307 := n1_; have HO310 := n2_; have HO313 := n3_; have HB := n4_; clear n0_ n1_ n2_ n3_ n4_; clear hb ho17; obtain ⟨Ao18, co18, eo18⟩ := Kd.R_slice HO313.out; subst eo18))
  go_loopg [36] k (fun kq v36 w' => ∃ (x8_1 : List Int) (x36_1 : Int), v36 = .int .i64 x36_1 ∧ Aside0 (skew_sorted.l0 kq l0 a1 t302 t303 t308 x8_1 (y311.length : Int) x36_1 = some r) ∧ Aside0 (kq ≤ k) ∧ Aside0 (Kd.Q (Kd.int .i64) 3 w' w.heap.size (fun k_ => some k_ ≠ (v306 : Value).ownBlock ∧ some k_ ≠ (v309 : Value).ownBlock ∧ some k_ ≠ ((.slice Ao18 y311.length co18) : Value).ownBlock) v304 t302) ∧ Aside0 (Kd.R (Kd.int .i64) 3 w' w.heap.size (fun k_ => some k_ ≠ (v304 : Value).ownBlock ∧ some k_ ≠ (v309 : Value).ownBlock ∧ some k_ ≠ ((.slice Ao18 y311.length co18) : Value).ownBlock) v306 t303) ∧ Aside0 (Kd.R (Kd.int .i64) 3 w' w.heap.size (fun k_ => some k_ ≠ (v304 : Value).ownBlock ∧ some k_ ≠ (v306 : Value).ownBlock ∧ some k_ ≠ ((.slice Ao18 y311.length co18) : Value).ownBlock) v309 t308) ∧ Aside0 (Kd.R (Kd.int .i64) 3 w' w.heap.size (fun k_ => some k_ ≠ (v304 : Value).ownBlock ∧ some k_ ≠ (v306 : Value).ownBlock ∧ some k_ ≠ (v309 : Value).ownBlock) (.slice Ao18 y311.length co18) x8_1) ∧ Aside0 (Below w.heap.size w w'))
  case atStart => exact ⟨(y311), (0), sD, H', ⟨Nat.le_refl _⟩, ⟨Kd.Q_of_R (by (with_reducible repeat (first | apply Kd.R_alloc | apply Kd.R_drewN | apply Kd.R_drew)); exact Kd.R_mono HO305.out (fun _ hk => ⟨hk.1.1, ⟨hk.1.2, hk.2⟩⟩))⟩, ⟨by (with_reducible repeat (first | apply Kd.R_alloc | apply Kd.R_drewN | apply Kd.R_drew)); exact Kd.R_mono HO307.out (fun _ hk => ⟨hk.1.1, ⟨hk.1.2, hk.2⟩⟩)⟩, ⟨by (with_reducible repeat (first | apply Kd.R_alloc | apply Kd.R_drewN | apply Kd.R_drew)); exact Kd.R_mono HO310.out (fun _ hk => ⟨hk.1.1.2, ⟨hk.1.2, hk.2⟩⟩)⟩, ⟨by (with_reducible repeat (first | apply Kd.R_alloc | apply Kd.R_drewN | apply Kd.R_drew)); exact Kd.R_mono HO313.out (fun _ hk => ⟨hk.1.1.2, ⟨hk.1.2, hk.2⟩⟩)⟩, ⟨uB⟩⟩
  case round =>
   clear H'
   obtain ⟨x8_1, x36_1, rfl, HA, HK1, HO_5, HO_6, HO_7, HO_8, HB⟩ := hrel
   have hl8_1 := (Kd.R_reads' HO_8.out).1
   rw [hl8_1] at HO_8
   (try simp only [hl8_1])
   (try simp only [hl8_1] at HO_5)
   (try simp only [hl8_1] at HO_6)
   (try simp only [hl8_1] at HO_7)
   cases gk with
   | zero => exact absurd HA.out (by simp [skew_sorted.l0])
   | succ k1 =>
    have H := HA.out
    clear HA
    simp only [skew_sorted.l0] at H
    by_cases c19 : x36_1 < (y311.length : Int)
    ·rw [if_pos c19] at H
     have c19b0 : decide (x36_1 < (y311.length : Int)) = true := decide_eq_true c19
     clear c19
     obtain ⟨ji20, hji20⟩ : ∃ j_ : Int, (wrap64 (x36_1 + 1)) = j_ := ⟨_, rfl⟩
     first | rw [hji20] at H | simp only [hji20] at H
     have hji20w : (IntKind.i64.wrap (x36_1 + 1)) = ji20 := (i64_w _).trans hji20
     obtain ⟨c21b0, c22b0, H⟩ := ifD2 H
     obtain ⟨c23b0, c24b0, H⟩ := ifD2 H
     generalize hy315 : (x8_1.set (x36_1 : Int).toNat (rd t303 (ji20)) : List Int) = y315 at H
     try simp only [Option.bind_some] at H
     have Ny315 := Aside0.mk hy315.symm
     clear hy315
     have H' := Aside0.mk H
     clear H
     obtain ⟨Ao26, co26, eo26⟩ := Kd.R_slice HO_6.out
     subst eo26
     obtain ⟨ad314, e314, hx314_0, p314, q314⟩ := rI (Kd.R_reads' HO_6.out).2.2 (ji20)
     cases e314
     have p25 : 0 ≤ (x36_1 : Int) := dT
     have q25 : (x36_1 : Int) < ((x8_1.length : Int) : Int) := dT
     obtain ⟨go25, co25, eo25, gb25, gl25, cl25, HG25⟩ := Kd.R_form HO_8.out (by omega)
     (first | cases eo25 | (injection eo25 with ea_ en_ ec_; (first | subst ea_ | (injection ea_ with ea_; subst ea_)); subst ec_; clear en_))
     have GB25 := Aside0.mk gb25
     have GG25 := Aside0.mk HG25
     clear gb25 gl25 HG25
     obtain ⟨hx25_0, hf25_0⟩ := Kd.R_celln 0 HO_8.out (x36_1 : Int) p25 q25
     replace p25 := eq_true p25
     replace q25 := eq_true q25
     have HP27 := Kd.R_putg HO_8.out (x36_1 : Int) (rd t303 (ji20))
     go_wp2_with (first | ((with_reducible refine gate_store (t := 3) (p := 46) rfl ?_); refine store_event (t := 3) (p := 46) (v := ?vo_w28) (w1 := (wr.setCell ⟨go25, (x36_1 : Int).toNat, none⟩ (.int .i64 (rd t303 (ji20))))) ?hg ?ho ?hn ?hr ?_; (case ho => rfl); (case hg => rfl); (case hn => rfl); (case hr => first | (go_simp; done) | (go_simp; rfl)); intro w28 hw; have hg : wr.grownBy w28 (some go25) := (by rw [hw]; exact HP27.2); have hp_ : Kd.R (Kd.int .i64) 3 w28 w.heap.size (fun k_ => some k_ ≠ (v304 : Value).ownBlock ∧ some k_ ≠ (.slice (some ad314) t303.length co26 : Value).ownBlock ∧ some k_ ≠ (v309 : Value).ownBlock) (.slice (some ⟨go25, 0, none⟩) x8_1.length co18) y315 := (by rw [hw, Ny315.out]; exact HP27.1); clear HP27; have n0_ := Aside0.mk (Kd.Q_after (v := (.slice (some ⟨go25, 0, none⟩) x8_1.length co18)) (v1 := (.slice (some ⟨go25, 0, none⟩) x8_1.length co18)) (ok := (fun k_ => some k_ ≠ (.slice (some ad314) t303.length co26 : Value).ownBlock ∧ some k_ ≠ (v309 : Value).ownBlock)) (by (with_reducible repeat (first | apply Kd.Q_alloc | apply Kd.Q_drewN | apply Kd.Q_drew)); exact Kd.Q_mono HO_5.out (fun _ hk => ⟨⟨hk.1, hk.2.1⟩, hk.2.2⟩)) hg (.inl rfl)); have n1_ := Aside0.mk (Kd.R_after (v := (.slice (some ⟨go25, 0, none⟩) x8_1.length co18)) (v1 := (.slice (some ⟨go25, 0, none⟩) x8_1.length co18)) (ok := (fun k_ => some k_ ≠ (v304 : Value).ownBlock ∧ some k_ ≠ (v309 : Value).ownBlock)) (by (with_reducible repeat (first | apply Kd.R_alloc | apply Kd.R_drewN | apply Kd.R_drew)); exact Kd.R_mono HO_6.out (fun _ hk => ⟨⟨hk.1, hk.2.1⟩, hk.2.2⟩)) hg (.inl rfl)); have n2_ := Aside0.mk (Kd.R_after (v := (.slice (some ⟨go25, 0, none⟩) x8_1.length co18)) (v1 := (.slice (some ⟨go25, 0, none⟩) x8_1.length co18)) (ok := (fun k_ => some k_ ≠ (v304 : Value).ownBlock ∧ some k_ ≠ (.slice (some ad314) t303.length co26 : Value).ownBlock)) (by (with_reducible repeat (first | apply Kd.R_alloc | apply Kd.R_drewN | apply Kd.R_drew)); exact Kd.R_mono HO_7.out (fun _ hk => ⟨⟨hk.1, hk.2.1⟩, hk.2.2⟩)) hg (.inl rfl)); have n3_ := Aside0.mk (hp_); have n4_ := Aside0.mk ((by rw [hw]; exact below_set (HB.out) GB25.out : Below w.heap.size w w28)); clear HO_5 HO_6 HO_7 HO_8 HB; have HO_5 := n0_; have HO_6 := n1_; have HO_7 := n2_; have HO_8 := n3_; have HB := n4_; clear n0_ n1_ n2_ n3_ n4_; clear hg hw hp_))
     (try simp only [← hl8_1])
     go_roundg k1
     case measure => have := HK1.out; omega
     case rel => exact ⟨(y315), (ji20), (by first | rfl | (simp; done) | (simp only [← hji20] <;> (first | rfl | simp)) | (simp [*]; done)), H', ⟨by have := HK1.out; omega⟩, ⟨by (try simp only [hl8_1]); (with_reducible repeat (first | apply Kd.Q_alloc | apply Kd.Q_drewN | apply Kd.Q_drew)); exact Kd.Q_mono HO_5.out (fun _ hk => ⟨hk.1.1, ⟨hk.1.2, hk.2⟩⟩)⟩, ⟨by (try simp only [hl8_1]); (with_reducible repeat (first | apply Kd.R_alloc | apply Kd.R_drewN | apply Kd.R_drew)); exact Kd.R_mono HO_6.out (fun _ hk => ⟨hk.1.1, ⟨hk.1.2, hk.2⟩⟩)⟩, ⟨by (try simp only [hl8_1]); (with_reducible repeat (first | apply Kd.R_alloc | apply Kd.R_drewN | apply Kd.R_drew)); exact Kd.R_mono HO_7.out (fun _ hk => ⟨hk.1.1, ⟨hk.1.2, hk.2⟩⟩)⟩, ⟨by (try simp only [hl8_1]); (with_reducible repeat (first | apply Kd.R_alloc | apply Kd.R_drewN | apply Kd.R_drew)); exact HO_8.out⟩, ⟨uB⟩⟩
    ·rw [if_neg c19] at H
     have c19b0 : decide (x36_1 < (y311.length : Int)) = false := decide_eq_false c19
     (try simp only [hl8_1] at c19b0)
     clear c19
     obtain ⟨⟨t316, t317⟩, A29, H⟩ := bdS H
     try dsimp only at H
     obtain ⟨t320, A30, H⟩ := bdS H
     try dsimp only at H
     obtain ⟨⟨t323, t324⟩, A31, H⟩ := bdS H
     try dsimp only at H
     have H' := Aside0.mk H
     clear H
     obtain ⟨Ao32, co32, eo32⟩ := Kd.R_slice HO_7.out
     subst eo32
     go_wp2_with (first | ((with_reducible refine gate_callee (f := 71) rfl ?_); refine goesL_ (some 54) rfl rfl Tryz.func71 (by kernel_rfl) rfl #[.slice Ao32 t308.length co32, .slice Ao18 x8_1.length co18, .int .i64 (wrap64 ((l0.length : Int) + 1))] rfl aE ?_; (with_reducible refine (bucket_Pass.calls k1 _ _ t308 _ _ x8_1 (wrap64 ((l0.length : Int) + 1)) t316 t317 _ ?side1 ?side2 ?side3 ?side4 A29.out).mono ?_); (case side1 => exact uC (Kd.R_reads' HO_7.out).2.2); (case side2 => exact (Kd.R_reads' HO_7.out).2.1); (case side3 => exact uC (Kd.R_reads' HO_8.out).2.2); (case side4 => exact (Kd.R_reads' HO_8.out).2.1); rintro e w33 ⟨v318, rfl, ho0, hb⟩; refine ⟨_, rfl, ?_⟩; have n0_ := Aside0.mk (Kd.Q_elder' (by (with_reducible repeat (first | apply Kd.Q_alloc | apply Kd.Q_drewN | apply Kd.Q_drew)); exact HO_5.out) (Kd.R_base ho0) hb); have n1_ := Aside0.mk (Kd.R_elder' (uR HO_6.out) (Kd.R_base ho0) hb); have n2_ := Aside0.mk (Kd.R_elder' (uR HO_7.out) (Kd.R_base ho0) hb); have n3_ := Aside0.mk (Kd.R_elder' (uR HO_8.out) (Kd.R_base ho0) hb); have n4_ := Aside0.mk (Kd.R_lower (Kd.R_new' (Kd.R_new' (Kd.R_new' (Kd.R_new' ho0 (Kd.Q_lt (by (with_reducible repeat (first | apply Kd.Q_alloc | apply Kd.Q_drewN | apply Kd.Q_drew)); exact HO_5.out))) (Kd.R_lt (uR HO_6.out))) (Kd.R_lt (uR HO_7.out))) (Kd.R_lt (uR HO_8.out))) (below_size uB)); have n5_ := Aside0.mk (below_step uB hb); clear HO_5 HO_6 HO_7 HO_8 HB; have HO_5 := n0_; have HO_6 := n1_; have HO_7 := n2_; have HO_8 := n3_; have HO319 := n4_; have HB := n5_; clear n0_ n1_ n2_ n3_ n4_ n5_) | ((with_reducible refine gate_callee (f := 131) rfl ?_); refine goesL_ (some 60) rfl rfl Tryz.func131 (by kernel_rfl) rfl #[.slice A0 l0.length c0, .int .i64 0] rfl aE ?_; (with_reducible refine (skew_keys.calls k1 _ _ l0 0 t320 _ ?side1 ?side2 A30.out).mono ?_); (case side1 => exact uC (Kd.C_below HR0.out HB.out)); (case side2 => exact HC0.out); rintro e w34 ⟨v321, rfl, ho0, hb⟩; refine ⟨_, rfl, ?_⟩; have n0_ := Aside0.mk (Kd.Q_elder' (by (with_reducible repeat (first | apply Kd.Q_alloc | apply Kd.Q_drewN | apply Kd.Q_drew)); exact HO_5.out) (Kd.R_base ho0) hb); have n1_ := Aside0.mk (Kd.R_elder' (uR HO_6.out) (Kd.R_base ho0) hb); have n2_ := Aside0.mk (Kd.R_elder' (uR HO_7.out) (Kd.R_base ho0) hb); have n3_ := Aside0.mk (Kd.R_elder' (uR HO_8.out) (Kd.R_base ho0) hb); have n4_ := Aside0.mk (Kd.R_elder' (uR HO319.out) (Kd.R_base ho0) hb); have n5_ := Aside0.mk (Kd.R_lower (Kd.R_new' (Kd.R_new' (Kd.R_new' (Kd.R_new' (Kd.R_new' ho0 (Kd.Q_lt (by (with_reducible repeat (first | apply Kd.Q_alloc | apply Kd.Q_drewN | apply Kd.Q_drew)); exact HO_5.out))) (Kd.R_lt (uR HO_6.out))) (Kd.R_lt (uR HO_7.out))) (Kd.R_lt (uR HO_8.out))) (Kd.R_lt (uR HO319.out))) (below_size uB)); have n6_ := Aside0.mk (below_step uB hb); clear HO_5 HO_6 HO_7 HO_8 HO319 HB; have HO_5 := n0_; have HO_6 := n1_; have HO_7 := n2_; have HO_8 := n3_; have HO319 := n4_; have HO322 := n5_; have HB := n6_; clear n0_ n1_ n2_ n3_ n4_ n5_ n6_; obtain ⟨Ao35, co35, eo35⟩ := Kd.R_slice HO319.out; subst eo35; obtain ⟨Ao36, co36, eo36⟩ := Kd.R_slice HO322.out; subst eo36) | ((with_reducible refine gate_callee (f := 71) rfl ?_); refine goesL_ (some 63) rfl rfl Tryz.func71 (by kernel_rfl) rfl #[.slice Ao35 t316.length co35, .slice Ao36 t320.length co36, .int .i64 (wrap64 (a1 + 1))] rfl aE ?_; (with_reducible refine (bucket_Pass.calls k1 _ _ t316 _ _ t320 (wrap64 (a1 + 1)) t323 t324 _ ?side1 ?side2 ?side3 ?side4 A31.out).mono ?_); (case side1 => exact uC (Kd.R_reads' HO319.out).2.2); (case side2 => exact (Kd.R_reads' HO319.out).2.1); (case side3 => exact uC (Kd.R_reads' HO322.out).2.2); (case side4 => exact (Kd.R_reads' HO322.out).2.1); rintro e w37 ⟨v325, rfl, ho0, hb⟩; refine ⟨_, rfl, ?_⟩; have n0_ := Aside0.mk (Kd.Q_elder' (by (with_reducible repeat (first | apply Kd.Q_alloc | apply Kd.Q_drewN | apply Kd.Q_drew)); exact HO_5.out) (Kd.R_base ho0) hb); have n1_ := Aside0.mk (Kd.R_elder' (uR HO_6.out) (Kd.R_base ho0) hb); have n2_ := Aside0.mk (Kd.R_elder' (uR HO_7.out) (Kd.R_base ho0) hb); have n3_ := Aside0.mk (Kd.R_elder' (uR HO_8.out) (Kd.R_base ho0) hb); have n4_ := Aside0.mk (Kd.R_elder' (uR HO319.out) (Kd.R_base ho0) hb); have n5_ := Aside0.mk (Kd.R_elder' (uR HO322.out) (Kd.R_base ho0) hb); have n6_ := Aside0.mk (Kd.R_lower (Kd.R_new' (Kd.R_new' (Kd.R_new' (Kd.R_new' (Kd.R_new' (Kd.R_new' ho0 (Kd.Q_lt (by (with_reducible repeat (first | apply Kd.Q_alloc | apply Kd.Q_drewN | apply Kd.Q_drew)); exact HO_5.out))) (Kd.R_lt (uR HO_6.out))) (Kd.R_lt (uR HO_7.out))) (Kd.R_lt (uR HO_8.out))) (Kd.R_lt (uR HO319.out))) (Kd.R_lt (uR HO322.out))) (below_size uB)); have n7_ := Aside0.mk (below_step uB hb); clear HO_5 HO_6 HO_7 HO_8 HO319 HO322 HB; have HO_5 := n0_; have HO_6 := n1_; have HO_7 := n2_; have HO_8 := n3_; have HO319 := n4_; have HO322 := n5_; have HO326 := n6_; have HB := n7_; clear n0_ n1_ n2_ n3_ n4_ n5_ n6_ n7_; obtain ⟨Ao38, co38, eo38⟩ := Kd.R_slice HO326.out; subst eo38))
     go_loopg [5, 10, 68] k1 (fun kq v5 v10 v68 w' => ∃ (x5_2 : List Int) (x10_2 : List Int) (x68_2 : Int), v68 = .int .i64 x68_2 ∧ Aside0 (skew_sorted.l1 kq l0 x5_2 t303 x10_2 t323 (t323.length : Int) x68_2 = some r) ∧ Aside0 (kq ≤ k1) ∧ Aside0 (Kd.Q (Kd.int .i64) 3 w' w.heap.size (fun k_ => some k_ ≠ (v306 : Value).ownBlock ∧ some k_ ≠ (v10 : Value).ownBlock ∧ some k_ ≠ ((.slice Ao38 t323.length co38) : Value).ownBlock) v5 x5_2) ∧ Aside0 (Kd.R (Kd.int .i64) 3 w' w.heap.size (fun k_ => some k_ ≠ (v5 : Value).ownBlock ∧ some k_ ≠ (v10 : Value).ownBlock ∧ some k_ ≠ ((.slice Ao38 t323.length co38) : Value).ownBlock) v306 t303) ∧ Aside0 (Kd.R (Kd.int .i64) 3 w' w.heap.size (fun k_ => some k_ ≠ (v5 : Value).ownBlock ∧ some k_ ≠ (v306 : Value).ownBlock ∧ some k_ ≠ ((.slice Ao38 t323.length co38) : Value).ownBlock) v10 x10_2) ∧ Aside0 (Kd.R (Kd.int .i64) 3 w' w.heap.size (fun k_ => some k_ ≠ (v5 : Value).ownBlock ∧ some k_ ≠ (v306 : Value).ownBlock ∧ some k_ ≠ (v10 : Value).ownBlock) (.slice Ao38 t323.length co38) t323) ∧ Aside0 (Below w.heap.size w w'))
     case atStart => exact ⟨(t302), (([] : List Int)), (0), sD, H', ⟨Nat.le_refl _⟩, ⟨by (try simp only [hl8_1]); (with_reducible repeat (first | apply Kd.Q_alloc | apply Kd.Q_drewN | apply Kd.Q_drew)); exact Kd.Q_mono HO_5.out (fun _ hk => ⟨hk.1.1.1.1, ⟨(by simp [Value.ownBlock]), hk.2⟩⟩)⟩, ⟨by (try simp only [hl8_1]); (with_reducible repeat (first | apply Kd.R_alloc | apply Kd.R_drewN | apply Kd.R_drew)); exact Kd.R_mono HO_6.out (fun _ hk => ⟨hk.1.1.1.1, ⟨(by simp [Value.ownBlock]), hk.2⟩⟩)⟩, ⟨by (try simp only [hl8_1]); first | exact Kd.R_nil _ _ _ _ _ | exact Kd.N_nil _ _ _ _ _ | exact Kd.V_nil _ _ _ _ _ | exact Kd.Q_nil _ _ _ _ _ | exact Kd.S_nil _ _ _ _ _⟩, ⟨by (try simp only [hl8_1]); (with_reducible repeat (first | apply Kd.R_alloc | apply Kd.R_drewN | apply Kd.R_drew)); exact Kd.R_mono HO326.out (fun _ hk => ⟨hk.1.1.1.1.1.2, ⟨hk.1.1.1.1.2, (by simp [Value.ownBlock])⟩⟩)⟩, ⟨uB⟩⟩
     case round =>
      clear H'
      obtain ⟨x5_2, x10_2, x68_2, rfl, HA, HK2, HO_5, HO_6, HO_10, HO_66, HB⟩ := hrel
      cases gk with
      | zero => exact absurd HA.out (by simp [skew_sorted.l1])
      | succ k2 =>
       have H := HA.out
       clear HA
       simp only [skew_sorted.l1] at H
       by_cases c39 : x68_2 < (t323.length : Int)
       ·rw [if_pos c39] at H
        have c39b0 : decide (x68_2 < (t323.length : Int)) = true := decide_eq_true c39
        clear c39
        obtain ⟨c40b0, c41b0, H⟩ := ifD2 H
        have H' := Aside0.mk H
        clear H
        obtain ⟨ad330, e330, hx330_0, p330, q330⟩ := rI (Kd.R_reads' HO_66.out).2.2 x68_2
        cases e330
        go_wp2
        go_loopg [5, 10] k2 (fun kq v5 v10 w' => ∃ (x5_3 : List Int) (x10_3 : List Int), Aside0 (skew_sorted.l2 kq l0 x5_3 t303 x10_3 (rd t323 x68_2) t323 (t323.length : Int) x68_2 = some r) ∧ Aside0 (kq ≤ k2) ∧ Aside0 (Kd.Q (Kd.int .i64) 3 w' w.heap.size (fun k_ => some k_ ≠ (v306 : Value).ownBlock ∧ some k_ ≠ (v10 : Value).ownBlock ∧ some k_ ≠ ((.slice (some ad330) t323.length co38) : Value).ownBlock) v5 x5_3) ∧ Aside0 (Kd.R (Kd.int .i64) 3 w' w.heap.size (fun k_ => some k_ ≠ (v5 : Value).ownBlock ∧ some k_ ≠ (v10 : Value).ownBlock ∧ some k_ ≠ ((.slice (some ad330) t323.length co38) : Value).ownBlock) v306 t303) ∧ Aside0 (Kd.R (Kd.int .i64) 3 w' w.heap.size (fun k_ => some k_ ≠ (v5 : Value).ownBlock ∧ some k_ ≠ (v306 : Value).ownBlock ∧ some k_ ≠ ((.slice (some ad330) t323.length co38) : Value).ownBlock) v10 x10_3) ∧ Aside0 (Kd.R (Kd.int .i64) 3 w' w.heap.size (fun k_ => some k_ ≠ (v5 : Value).ownBlock ∧ some k_ ≠ (v306 : Value).ownBlock ∧ some k_ ≠ (v10 : Value).ownBlock) (.slice (some ad330) t323.length co38) t323) ∧ Aside0 (Below w.heap.size w w'))
        case atStart => exact ⟨(x5_2), (x10_2), H', ⟨Nat.le_refl _⟩, ⟨by (try simp only [hl8_1]); (with_reducible repeat (first | apply Kd.Q_alloc | apply Kd.Q_drewN | apply Kd.Q_drew)); exact HO_5.out⟩, ⟨by (try simp only [hl8_1]); (with_reducible repeat (first | apply Kd.R_alloc | apply Kd.R_drewN | apply Kd.R_drew)); exact HO_6.out⟩, ⟨by (try simp only [hl8_1]); (with_reducible repeat (first | apply Kd.R_alloc | apply Kd.R_drewN | apply Kd.R_drew)); exact HO_10.out⟩, ⟨by (try simp only [hl8_1]); (with_reducible repeat (first | apply Kd.R_alloc | apply Kd.R_drewN | apply Kd.R_drew)); exact HO_66.out⟩, ⟨uB⟩⟩
        case round =>
         clear H'
         obtain ⟨x5_3, x10_3, HA, HK3, HO_5, HO_6, HO_10, HO_66, HB⟩ := hrel
         cases gk with
         | zero => exact absurd HA.out (by simp [skew_sorted.l2])
         | succ k3 =>
          have H := HA.out
          clear HA
          simp only [skew_sorted.l2] at H
          by_cases c42 : (x5_3.length : Int) > 0
          ·rw [if_pos c42] at H
           have c42b0 : decide (0 < (x5_3.length : Int)) = true := decide_eq_true c42
           have c42b1 : decide (0 < x5_3.length) = true := decide_eq_true (by omega)
           clear c42
           obtain ⟨c43, H⟩ := ifP H
           have c43b0 : decide (0 < (x5_3.length : Int)) = true := decide_eq_true c43
           have c43b1 : decide (0 < x5_3.length) = true := decide_eq_true (by omega)
           clear c43
           obtain ⟨t332, A44, H⟩ := bdS H
           try dsimp only at H
           by_cases c45 : t332 = true
           ·subst c45
            rw [if_pos rfl] at H
            obtain ⟨c46, H⟩ := ifP H
            have LMc46 := Aside0.mk c46
            clear c46
            generalize hy334 : (x10_3 ++ [rd x5_3 0] : List Int) = y334 at H
            try simp only [Option.bind_some] at H
            have Ny334 := Aside0.mk hy334.symm
            clear hy334
            obtain ⟨c47b0, c47b1, H⟩ := ifE H
            generalize hy337 : (x5_3.drop (1 : Int).toNat : List Int) = y337 at H
            try simp only [Option.bind_some] at H
            have Ny337 := Aside0.mk hy337.symm
            clear hy337
            have H' := Aside0.mk H
            clear H
            obtain ⟨Ao48, co48, eo48, _⟩ := Kd.Q_slice HO_5.out
            subst eo48
            have p331 : 0 ≤ (0 : Int) := (by omega)
            have q331 : 0 < (x5_3.length : Int) := dT
            obtain ⟨ad331, e331, hx331_0⟩ := Kd.at_int (Kd.Q_reads' HO_5.out).2.2 0 p331 q331
            cases e331
            have qi331 : (0 < x5_3.length) = True := eq_true (by omega)
            (try rw [show ((0 : Int)).toNat = 0 from rfl] at hx331_0)
            (try rw [Addr.add_zero'] at hx331_0)
            replace p331 := eq_true p331
            replace q331 := eq_true q331
            obtain ⟨Ao49, co49, eo49⟩ := Kd.R_slice HO_6.out
            subst eo49
            try go_wp2_with (first | (go_at_call 132; (with_reducible refine (skew_less.calls k3 _ _ l0 _ _ t303 (rd x5_3 0) (rd t323 x68_2) true _ ?side1 ?side2 ?side3 ?side4 A44.out).mono ?_); (case side1 => exact uC (Kd.C_below HR0.out HB.out)); (case side2 => exact HC0.out); (case side3 => exact uC (Kd.R_reads' HO_6.out).2.2); (case side4 => exact (Kd.R_reads' HO_6.out).2.1); rintro e w50 ⟨rfl, hb⟩; have n0_ := Aside0.mk (Kd.Q_below (by (with_reducible repeat (first | apply Kd.Q_alloc | apply Kd.Q_drewN | apply Kd.Q_drew)); exact HO_5.out) hb); have n1_ := Aside0.mk (Kd.R_below (uR HO_6.out) hb); have n2_ := Aside0.mk (Kd.R_below (uR HO_10.out) hb); have n3_ := Aside0.mk (Kd.R_below (uR HO_66.out) hb); have n4_ := Aside0.mk (below_step uB hb); clear HO_5 HO_6 HO_10 HO_66 HB; have HO_5 := n0_; have HO_6 := n1_; have HO_10 := n2_; have HO_66 := n3_; have HB := n4_; clear n0_ n1_ n2_ n3_ n4_))
            have n0_ := Aside0.mk (Kd.Q_drew HO_5.out)
            have n1_ := Aside0.mk (Kd.R_drew HO_6.out)
            have n2_ := Aside0.mk (Kd.R_drew HO_10.out)
            have n3_ := Aside0.mk (Kd.R_drew HO_66.out)
            have n4_ := Aside0.mk (below_drew1 HB.out)
            clear HO_5
            clear HO_6
            clear HO_10
            clear HO_66
            clear HB
            have HO_5 := n0_
            have HO_6 := n1_
            have HO_10 := n2_
            have HO_66 := n3_
            have HB := n4_
            clear n0_ n1_ n2_ n3_ n4_
            have p333 : 0 ≤ (0 : Int) := (by omega)
            have q333 : 0 < (x5_3.length : Int) := dT
            obtain ⟨ad333, e333, hx333_0⟩ := Kd.at_int (Kd.Q_reads' HO_5.out).2.2 0 p333 q333
            obtain rfl : ad331 = ad333 := (by injection e333)
            have qi333 : (0 < x5_3.length) = True := eq_true (by omega)
            (try rw [show ((0 : Int)).toNat = 0 from rfl] at hx333_0)
            (try rw [Addr.add_zero'] at hx333_0)
            replace p333 := eq_true p333
            replace q333 := eq_true q333
            have q52 : (1 : Int) ≤ ((x5_3.length : Int) : Int) := dT
            obtain ⟨i052, hi052, _, hsz52, _⟩ := info_parts info3
            have hcut52 := cut_from (P := Tryz.prog) 29 3 .i64 Tryz.underlying29 hi052 1 hsz52 (some ad331) x5_3.length co48 1 (by omega) q52
            have hr52 := Kd.Q_drop (k := (1 : Int).toNat) HO_5.out (by omega)
            obtain ⟨A52, hA52⟩ : ∃ A1, A1 = (if co48 = (1 : Int).toNat then (some ad331) else ((some ad331) : Option Addr).map (·.add ((1 : Int).toNat * 1))) := ⟨_, rfl⟩
            obtain ⟨c52, hc52⟩ : ∃ c1, c1 = co48 - (1 : Int).toNat := ⟨_, rfl⟩
            have hy52 : y337.length = x5_3.length - (1 : Int).toNat := (by rw [Ny337.out, List.length_drop])
            rw [← Ny337.out] at hr52
            rw [← hy52, ← hA52, ← hc52] at hcut52
            replace hr52 : Kd.Q (Kd.int .i64) 3 (w50.drew) w.heap.size (fun k_ => some k_ ≠ (.slice Ao49 t303.length co49 : Value).ownBlock ∧ some k_ ≠ (u10 : Value).ownBlock ∧ some k_ ≠ (.slice (some ad330) t323.length co38 : Value).ownBlock) (.slice A52 y337.length c52) y337 := (by rw [hA52, hc52, hy52]; exact hr52)
            have HE52 : Aside0 ((Value.slice A52 y337.length c52).ownBlock = (.slice (some ad331) x5_3.length co48 : Value).ownBlock) := ⟨by rw [hA52]; split <;> (cases ((some ad331) : Option Addr) <;> rfl)⟩
            clear hy52 hi052 hsz52 HO_5 hA52 hc52
            have HO339 := Aside0.mk hr52
            clear hr52
            replace q52 := eq_true q52
            have n_ := Aside0.mk (Kd.R_mono (ok' := fun k_ => (some k_ ≠ (.slice A52 y337.length c52 : Value).ownBlock ∧ (some k_ ≠ (u10 : Value).ownBlock ∧ some k_ ≠ (.slice (some ad330) t323.length co38 : Value).ownBlock))) HO_6.out (fun k_ hk => ⟨(by rw [HE52.out]; exact hk.1), ⟨hk.2.1, hk.2.2⟩⟩))
            clear HO_6
            have HO_6 := n_
            clear n_
            have n_ := Aside0.mk (Kd.R_mono (ok' := fun k_ => (some k_ ≠ (.slice A52 y337.length c52 : Value).ownBlock ∧ (some k_ ≠ (.slice Ao49 t303.length co49 : Value).ownBlock ∧ some k_ ≠ (.slice (some ad330) t323.length co38 : Value).ownBlock))) HO_10.out (fun k_ hk => ⟨(by rw [HE52.out]; exact hk.1), ⟨hk.2.1, hk.2.2⟩⟩))
            clear HO_10
            have HO_10 := n_
            clear n_
            have n_ := Aside0.mk (Kd.R_mono (ok' := fun k_ => (some k_ ≠ (.slice A52 y337.length c52 : Value).ownBlock ∧ (some k_ ≠ (.slice Ao49 t303.length co49 : Value).ownBlock ∧ some k_ ≠ (u10 : Value).ownBlock))) HO_66.out (fun k_ hk => ⟨(by rw [HE52.out]; exact hk.1), ⟨hk.2.1, hk.2.2⟩⟩))
            clear HO_66
            have HO_66 := n_
            clear n_
            refine start_ (n := 10) (S := fun w' => w'.cell? ad331 = some (.int .i64 (rd x5_3 0))) (ds := [4, 5]) #[false, false, false, false, false, false, false, false, false, false] (by kernel_rfl) rfl rfl (hx333_0) (fun hHeld => ?_); refine with_tabW skew_sorted.tab18 skew_sorted.bits18 (fun HT_ HW_ => ?_)
            generalize w50.drew = w51 at HO_5 HO_6 HO_10 HO_66 HB HO339 hx333_0 hHeld ⊢
            refine pY (i := 0) (N := some 84) (bs 0 10) ?_
            refine pY (i := 1) (N := some 85) (bs 1 10) ?_
            refine pY (i := 2) (N := some 86) (bs 2 10) ?_
            refine pY (i := 6) (N := some 90) #[true, true, true, false, false, false, true, false, false, false] ?_
            refine pY (i := 7) (N := some 91) #[true, true, true, false, false, false, true, true, false, false] ?_
            refine take_ (i := 3) (N := some 87) (v := ?_) (a' := ?_) #[true, true, true, true, false, false, true, true, false, false] rfl rfl (take_ofW HT_.out HW_.out (by kernel_rfl)) (fun _ _ _ h => h) (Or.inl ⟨by rfl, ?_⟩) hHeld ?_ ?_
            rotate_left
            ·intro w' s0
             go_simp
             with_reducible rfl
            rotate_left
            ·simp only [Act.put, List.setIfInBounds_toArray, List.set_cons_zero, List.set_cons_succ, i64_w, i32_w]
             rfl
            refine last_ (i := 4) (N := some 88) #[true, true, true, true, true, false, true, true, false, false] rfl rfl (one_of HT_.out (by kernel_rfl)) (by decide) (fun K hK => ?_)
            refine value_ (w1 := ?_) (v := ?_) (by rfl) rfl ?_ ?_
            rotate_left 2
            ·go_simp
             constructor
             ·rfl
             ·rfl
            refine hK.out _ _ ?_
            clear hK K
            refine norm_ (a' := ?_) ?_ ?_
            rotate_left
            ·show Act.put _ (some 88) _ = _
             simp only [Act.put, List.setIfInBounds_toArray, List.set_cons_zero, List.set_cons_succ, i64_w, i32_w]
             rfl
            refine last_ (i := 5) (N := some 89) (bs 7 10) rfl rfl (one_of HT_.out (by kernel_rfl)) (by decide) (fun K hK => ?_)
            refine Kd.R_append_step (Kd.int .i64) (w0 := w) w.heap.size (by rfl) (.tmp 84) (.tmp 88) 29 3 (.int .i64 0) 8 rfl Tryz.underlying29 info3 rfl (by decide) (by omega) u10 x10_3 (rd x5_3 0) [.int .i64 (rd x5_3 0)] (fun k_ => some k_ ≠ (.slice A52 y337.length c52 : Value).ownBlock ∧ some k_ ≠ (.slice Ao49 t303.length co49 : Value).ownBlock ∧ some k_ ≠ (.slice (some ad330) t323.length co38 : Value).ownBlock) (fun _ => False) rfl rfl ?aP (fun _ hk => hk.elim) ?aF ?aO ?aB ?aS ?aL ?_
            (case aP => exact rfl)
            (case aB => exact uB)
            (case aF => exact (fun k_ hk => ⟨Kd.fresh' (Kd.Q_lt (by (with_reducible repeat (first | apply Kd.Q_alloc | apply Kd.Q_drewN | apply Kd.Q_drew)); exact HO339.out)) k_ hk, Kd.fresh' (Kd.R_lt (uR HO_6.out)) k_ hk, Kd.fresh' (Kd.R_lt (uR HO_66.out)) k_ hk⟩))
            (case aO => exact (uR HO_10.out))
            (case aS => exact (below_size uB))
            (case aL => have := LMc46.out; omega)
            intro v335 w53 ho hb hg hat
            rw [← Ny334.out] at ho
            have n0_ := Aside0.mk (Kd.Q_after (ok := (fun k_ => some k_ ≠ (.slice Ao49 t303.length co49 : Value).ownBlock ∧ some k_ ≠ (.slice (some ad330) t323.length co38 : Value).ownBlock)) (by (with_reducible repeat (first | apply Kd.Q_alloc | apply Kd.Q_drewN | apply Kd.Q_drew)); exact Kd.Q_mono HO339.out (fun _ hk => ⟨⟨hk.1, hk.2.2⟩, hk.2.1⟩)) hg hat)
            have n1_ := Aside0.mk (Kd.R_after (ok := (fun k_ => some k_ ≠ (.slice A52 y337.length c52 : Value).ownBlock ∧ some k_ ≠ (.slice (some ad330) t323.length co38 : Value).ownBlock)) (by (with_reducible repeat (first | apply Kd.R_alloc | apply Kd.R_drewN | apply Kd.R_drew)); exact Kd.R_mono HO_6.out (fun _ hk => ⟨⟨hk.1, hk.2.2⟩, hk.2.1⟩)) hg hat)
            have n2_ := Aside0.mk (Kd.R_after (ok := (fun k_ => some k_ ≠ (.slice A52 y337.length c52 : Value).ownBlock ∧ some k_ ≠ (.slice Ao49 t303.length co49 : Value).ownBlock)) (by (with_reducible repeat (first | apply Kd.R_alloc | apply Kd.R_drewN | apply Kd.R_drew)); exact Kd.R_mono HO_66.out (fun _ hk => ⟨⟨hk.1, hk.2.1⟩, hk.2.2⟩)) hg hat)
            have n3_ := Aside0.mk (hb)
            have n4_ := Aside0.mk (ho)
            clear HO339
            clear HO_6
            clear HO_66
            clear HB
            clear HO_10
            have HO339 := n0_
            have HO_6 := n1_
            have HO_66 := n2_
            have HB := n3_
            have HO336 := n4_
            clear n0_ n1_ n2_ n3_ n4_
            clear ho hb hg hat
            refine hK.out _ _ ?_
            clear hK K
            refine norm_ (a' := ?_) ?_ ?_
            rotate_left
            ·show Act.put _ (some 89) _ = _
             simp only [Act.put, List.setIfInBounds_toArray, List.set_cons_zero, List.set_cons_succ, i64_w, i32_w]
             rfl
            refine pY (i := 8) (N := some 10) (bs 8 10) ?_
            refine pY (i := 9) (N := some 5) (bs 9 10) ?_
            refine done_ (done_of HT_.out (by kernel_rfl)) ?_
            try go_wp2
            go_roundg k3
            case measure => have := HK1.out; have := HK2.out; have := HK3.out; omega
            case rel => exact ⟨(y337), (y334), H', ⟨by have := HK1.out; have := HK2.out; have := HK3.out; omega⟩, ⟨by (try simp only [hl8_1]); (with_reducible repeat (first | apply Kd.Q_alloc | apply Kd.Q_drewN | apply Kd.Q_drew)); exact Kd.Q_mono HO339.out (fun _ hk => ⟨hk.1.1, ⟨hk.2, hk.1.2⟩⟩)⟩, ⟨by (try simp only [hl8_1]); (with_reducible repeat (first | apply Kd.R_alloc | apply Kd.R_drewN | apply Kd.R_drew)); exact Kd.R_mono HO_6.out (fun _ hk => ⟨hk.1.1, ⟨hk.2, hk.1.2⟩⟩)⟩, ⟨by (try simp only [hl8_1]); (with_reducible repeat (first | apply Kd.R_alloc | apply Kd.R_drewN | apply Kd.R_drew)); exact HO336.out⟩, ⟨by (try simp only [hl8_1]); (with_reducible repeat (first | apply Kd.R_alloc | apply Kd.R_drewN | apply Kd.R_drew)); exact Kd.R_mono HO_66.out (fun _ hk => ⟨hk.1.1, ⟨hk.1.2, hk.2⟩⟩)⟩, ⟨uB⟩⟩
           ·replace c45 := Bool.eq_false_iff.mpr c45
            subst c45
            rw [if_neg (by decide)] at H
            obtain ⟨c54, H⟩ := ifP H
            have LMc54 := Aside0.mk c54
            clear c54
            generalize hy340 : (x10_3 ++ [(rd t323 x68_2)] : List Int) = y340 at H
            try simp only [Option.bind_some] at H
            have Ny340 := Aside0.mk hy340.symm
            clear hy340
            have H' := Aside0.mk H
            clear H
            obtain ⟨Ao55, co55, eo55, _⟩ := Kd.Q_slice HO_5.out
            subst eo55
            have p331 : 0 ≤ (0 : Int) := (by omega)
            have q331 : 0 < (x5_3.length : Int) := dT
            obtain ⟨ad331, e331, hx331_0⟩ := Kd.at_int (Kd.Q_reads' HO_5.out).2.2 0 p331 q331
            cases e331
            have qi331 : (0 < x5_3.length) = True := eq_true (by omega)
            (try rw [show ((0 : Int)).toNat = 0 from rfl] at hx331_0)
            (try rw [Addr.add_zero'] at hx331_0)
            replace p331 := eq_true p331
            replace q331 := eq_true q331
            obtain ⟨Ao56, co56, eo56⟩ := Kd.R_slice HO_6.out
            subst eo56
            go_wp2_with (first | (go_at_call 132; (with_reducible refine (skew_less.calls k3 _ _ l0 _ _ t303 (rd x5_3 0) (rd t323 x68_2) false _ ?side1 ?side2 ?side3 ?side4 A44.out).mono ?_); (case side1 => exact uC (Kd.C_below HR0.out HB.out)); (case side2 => exact HC0.out); (case side3 => exact uC (Kd.R_reads' HO_6.out).2.2); (case side4 => exact (Kd.R_reads' HO_6.out).2.1); rintro e w57 ⟨rfl, hb⟩; have n0_ := Aside0.mk (Kd.Q_below (by (with_reducible repeat (first | apply Kd.Q_alloc | apply Kd.Q_drewN | apply Kd.Q_drew)); exact HO_5.out) hb); have n1_ := Aside0.mk (Kd.R_below (uR HO_6.out) hb); have n2_ := Aside0.mk (Kd.R_below (uR HO_10.out) hb); have n3_ := Aside0.mk (Kd.R_below (uR HO_66.out) hb); have n4_ := Aside0.mk (below_step uB hb); clear HO_5 HO_6 HO_10 HO_66 HB; have HO_5 := n0_; have HO_6 := n1_; have HO_10 := n2_; have HO_66 := n3_; have HB := n4_; clear n0_ n1_ n2_ n3_ n4_) | ((with_reducible refine gate_builtin (b := .append) (xs := #[.tmp 92, .tmp 94]) rfl ?_); at_builtin; refine Kd.R_append (Kd.int .i64) (w0 := w) w.heap.size rfl (.tmp 92) (.tmp 94) 29 3 (.int .i64 0) 8 rfl Tryz.underlying29 info3 rfl (by decide) (by omega) u10 x10_3 (rd t323 x68_2) [.int .i64 (rd t323 x68_2)] (fun k_ => some k_ ≠ (.slice (some ad331) x5_3.length co55 : Value).ownBlock ∧ some k_ ≠ (.slice Ao56 t303.length co56 : Value).ownBlock ∧ some k_ ≠ (.slice (some ad330) t323.length co38 : Value).ownBlock) (fun _ => False) rfl rfl ?aP (fun _ hk => hk.elim) ?aF ?aO ?aB ?aS ?aL ?_; (case aP => exact rfl); (case aB => exact uB); (case aF => exact (fun k_ hk => ⟨Kd.fresh' (Kd.Q_lt (by (with_reducible repeat (first | apply Kd.Q_alloc | apply Kd.Q_drewN | apply Kd.Q_drew)); exact HO_5.out)) k_ hk, Kd.fresh' (Kd.R_lt (uR HO_6.out)) k_ hk, Kd.fresh' (Kd.R_lt (uR HO_66.out)) k_ hk⟩)); (case aO => exact (uR HO_10.out)); (case aS => exact (below_size uB)); (case aL => have := LMc54.out; omega); intro v341 w58 ho hb hg hat; rw [← Ny340.out] at ho; have n0_ := Aside0.mk (Kd.Q_after (ok := (fun k_ => some k_ ≠ (.slice Ao56 t303.length co56 : Value).ownBlock ∧ some k_ ≠ (.slice (some ad330) t323.length co38 : Value).ownBlock)) (by (with_reducible repeat (first | apply Kd.Q_alloc | apply Kd.Q_drewN | apply Kd.Q_drew)); exact Kd.Q_mono HO_5.out (fun _ hk => ⟨⟨hk.1, hk.2.2⟩, hk.2.1⟩)) hg hat); have n1_ := Aside0.mk (Kd.R_after (ok := (fun k_ => some k_ ≠ (.slice (some ad331) x5_3.length co55 : Value).ownBlock ∧ some k_ ≠ (.slice (some ad330) t323.length co38 : Value).ownBlock)) (by (with_reducible repeat (first | apply Kd.R_alloc | apply Kd.R_drewN | apply Kd.R_drew)); exact Kd.R_mono HO_6.out (fun _ hk => ⟨⟨hk.1, hk.2.2⟩, hk.2.1⟩)) hg hat); have n2_ := Aside0.mk (Kd.R_after (ok := (fun k_ => some k_ ≠ (.slice (some ad331) x5_3.length co55 : Value).ownBlock ∧ some k_ ≠ (.slice Ao56 t303.length co56 : Value).ownBlock)) (by (with_reducible repeat (first | apply Kd.R_alloc | apply Kd.R_drewN | apply Kd.R_drew)); exact Kd.R_mono HO_66.out (fun _ hk => ⟨⟨hk.1, hk.2.1⟩, hk.2.2⟩)) hg hat); have n3_ := Aside0.mk (hb); have n4_ := Aside0.mk (ho); clear HO_5 HO_6 HO_66 HB HO_10; have HO_5 := n0_; have HO_6 := n1_; have HO_66 := n2_; have HB := n3_; have HO342 := n4_; clear n0_ n1_ n2_ n3_ n4_; clear ho hb hg hat))
            go_roundg k3
            case measure => have := HK1.out; have := HK2.out; have := HK3.out; omega
            case rel => exact ⟨(x5_3), (y340), (wrap64 (x68_2 + 1)), sD, H', ⟨by have := HK1.out; have := HK2.out; have := HK3.out; omega⟩, ⟨by (try simp only [hl8_1]); (with_reducible repeat (first | apply Kd.Q_alloc | apply Kd.Q_drewN | apply Kd.Q_drew)); exact Kd.Q_mono HO_5.out (fun _ hk => ⟨hk.1.1, ⟨hk.2, hk.1.2⟩⟩)⟩, ⟨by (try simp only [hl8_1]); (with_reducible repeat (first | apply Kd.R_alloc | apply Kd.R_drewN | apply Kd.R_drew)); exact Kd.R_mono HO_6.out (fun _ hk => ⟨hk.1.1, ⟨hk.2, hk.1.2⟩⟩)⟩, ⟨by (try simp only [hl8_1]); (with_reducible repeat (first | apply Kd.R_alloc | apply Kd.R_drewN | apply Kd.R_drew)); exact HO342.out⟩, ⟨by (try simp only [hl8_1]); (with_reducible repeat (first | apply Kd.R_alloc | apply Kd.R_drewN | apply Kd.R_drew)); exact Kd.R_mono HO_66.out (fun _ hk => ⟨hk.1.1, ⟨hk.1.2, hk.2⟩⟩)⟩, ⟨uB⟩⟩
          ·rw [if_neg c42] at H
           have c42b0 : decide (0 < (x5_3.length : Int)) = false := decide_eq_false c42
           (try simp only [hl8_1] at c42b0)
           have c42b1 : decide (0 < x5_3.length) = false := decide_eq_false (by omega)
           clear c42
           obtain ⟨c59, H⟩ := ifP H
           have LMc59 := Aside0.mk c59
           clear c59
           generalize hy343 : (x10_3 ++ [(rd t323 x68_2)] : List Int) = y343 at H
           try simp only [Option.bind_some] at H
           have Ny343 := Aside0.mk hy343.symm
           clear hy343
           have H' := Aside0.mk H
           clear H
           obtain ⟨Ao60, co60, eo60, _⟩ := Kd.Q_slice HO_5.out
           subst eo60
           go_wp2_with (first | ((with_reducible refine gate_builtin (b := .append) (xs := #[.tmp 92, .tmp 94]) rfl ?_); at_builtin; refine Kd.R_append (Kd.int .i64) (w0 := w) w.heap.size rfl (.tmp 92) (.tmp 94) 29 3 (.int .i64 0) 8 rfl Tryz.underlying29 info3 rfl (by decide) (by omega) u10 x10_3 (rd t323 x68_2) [.int .i64 (rd t323 x68_2)] (fun k_ => some k_ ≠ (.slice Ao60 x5_3.length co60 : Value).ownBlock ∧ some k_ ≠ (v306 : Value).ownBlock ∧ some k_ ≠ (.slice (some ad330) t323.length co38 : Value).ownBlock) (fun _ => False) rfl rfl ?aP (fun _ hk => hk.elim) ?aF ?aO ?aB ?aS ?aL ?_; (case aP => exact rfl); (case aB => exact uB); (case aF => exact (fun k_ hk => ⟨Kd.fresh' (Kd.Q_lt (by (with_reducible repeat (first | apply Kd.Q_alloc | apply Kd.Q_drewN | apply Kd.Q_drew)); exact HO_5.out)) k_ hk, Kd.fresh' (Kd.R_lt (uR HO_6.out)) k_ hk, Kd.fresh' (Kd.R_lt (uR HO_66.out)) k_ hk⟩)); (case aO => exact (uR HO_10.out)); (case aS => exact (below_size uB)); (case aL => have := LMc59.out; omega); intro v344 w61 ho hb hg hat; rw [← Ny343.out] at ho; have n0_ := Aside0.mk (Kd.Q_after (ok := (fun k_ => some k_ ≠ (v306 : Value).ownBlock ∧ some k_ ≠ (.slice (some ad330) t323.length co38 : Value).ownBlock)) (by (with_reducible repeat (first | apply Kd.Q_alloc | apply Kd.Q_drewN | apply Kd.Q_drew)); exact Kd.Q_mono HO_5.out (fun _ hk => ⟨⟨hk.1, hk.2.2⟩, hk.2.1⟩)) hg hat); have n1_ := Aside0.mk (Kd.R_after (ok := (fun k_ => some k_ ≠ (.slice Ao60 x5_3.length co60 : Value).ownBlock ∧ some k_ ≠ (.slice (some ad330) t323.length co38 : Value).ownBlock)) (by (with_reducible repeat (first | apply Kd.R_alloc | apply Kd.R_drewN | apply Kd.R_drew)); exact Kd.R_mono HO_6.out (fun _ hk => ⟨⟨hk.1, hk.2.2⟩, hk.2.1⟩)) hg hat); have n2_ := Aside0.mk (Kd.R_after (ok := (fun k_ => some k_ ≠ (.slice Ao60 x5_3.length co60 : Value).ownBlock ∧ some k_ ≠ (v306 : Value).ownBlock)) (by (with_reducible repeat (first | apply Kd.R_alloc | apply Kd.R_drewN | apply Kd.R_drew)); exact Kd.R_mono HO_66.out (fun _ hk => ⟨⟨hk.1, hk.2.1⟩, hk.2.2⟩)) hg hat); have n3_ := Aside0.mk (hb); have n4_ := Aside0.mk (ho); clear HO_5 HO_6 HO_66 HB HO_10; have HO_5 := n0_; have HO_6 := n1_; have HO_66 := n2_; have HB := n3_; have HO345 := n4_; clear n0_ n1_ n2_ n3_ n4_; clear ho hb hg hat))
           go_roundg k3
           case measure => have := HK1.out; have := HK2.out; have := HK3.out; omega
           case rel => exact ⟨(x5_3), (y343), (wrap64 (x68_2 + 1)), sD, H', ⟨by have := HK1.out; have := HK2.out; have := HK3.out; omega⟩, ⟨by (try simp only [hl8_1]); (with_reducible repeat (first | apply Kd.Q_alloc | apply Kd.Q_drewN | apply Kd.Q_drew)); exact Kd.Q_mono HO_5.out (fun _ hk => ⟨hk.1.1, ⟨hk.2, hk.1.2⟩⟩)⟩, ⟨by (try simp only [hl8_1]); (with_reducible repeat (first | apply Kd.R_alloc | apply Kd.R_drewN | apply Kd.R_drew)); exact Kd.R_mono HO_6.out (fun _ hk => ⟨hk.1.1, ⟨hk.2, hk.1.2⟩⟩)⟩, ⟨by (try simp only [hl8_1]); (with_reducible repeat (first | apply Kd.R_alloc | apply Kd.R_drewN | apply Kd.R_drew)); exact HO345.out⟩, ⟨by (try simp only [hl8_1]); (with_reducible repeat (first | apply Kd.R_alloc | apply Kd.R_drewN | apply Kd.R_drew)); exact Kd.R_mono HO_66.out (fun _ hk => ⟨hk.1.1, ⟨hk.1.2, hk.2⟩⟩)⟩, ⟨uB⟩⟩
       ·rw [if_neg c39] at H
        have c39b0 : decide (x68_2 < (t323.length : Int)) = false := decide_eq_false c39
        (try simp only [hl8_1] at c39b0)
        clear c39
        obtain ⟨c62, H⟩ := ifP H
        have LMc62 := Aside0.mk c62
        clear c62
        generalize hy327 : (x10_2 ++ x5_2 : List Int) = y327 at H
        try simp only [Option.bind_some] at H
        have Ny327 := Aside0.mk hy327.symm
        clear hy327
        obtain rfl := Option.some.inj H
        obtain ⟨Ao64, co64, eo64, _⟩ := Kd.Q_slice HO_5.out
        subst eo64
        go_wp2_with (first | ((with_reducible refine gate_builtin (b := .append) (xs := #[.tmp 97, .tmp 98]) rfl ?_); at_builtin; refine Kd.R_append_rows (Kd.int .i64) (w0 := w) w.heap.size rfl (.tmp 97) (.tmp 98) 29 3 (.int .i64 0) 8 rfl Tryz.underlying29 info3 rfl (by decide) (by omega) u10 x10_2 x5_2 _ _ _ (fun k_ => some k_ ≠ (.slice Ao64 x5_2.length co64 : Value).ownBlock ∧ some k_ ≠ (v306 : Value).ownBlock ∧ some k_ ≠ (.slice Ao38 t323.length co38 : Value).ownBlock) (fun _ => False) rfl rfl ?aO ?aR (fun _ _ h => h) (fun _ h => h.elim) ?aF ?aB ?aS ?aL ?_; (case aR => repeat (first | exact (Kd.Q_reads' HO_5.out).2.2 | (with_reducible refine Kd.C_alloc ?_ _) | (with_reducible refine Kd.C_drewN ?_ _) | (with_reducible refine Kd.C_drew ?_))); (case aB => exact uB); (case aF => exact (fun k_ hk => ⟨Kd.fresh' (Kd.Q_lt (by (with_reducible repeat (first | apply Kd.Q_alloc | apply Kd.Q_drewN | apply Kd.Q_drew)); exact HO_5.out)) k_ hk, Kd.fresh' (Kd.R_lt (uR HO_6.out)) k_ hk, Kd.fresh' (Kd.R_lt (uR HO_66.out)) k_ hk⟩)); (case aO => exact (uR HO_10.out)); (case aS => exact (below_size uB)); (case aL => have := LMc62.out; omega); intro v328 w63 ho hb hg hat; rw [← Ny327.out] at ho; have n0_ := Aside0.mk (Kd.Q_after (ok := (fun k_ => some k_ ≠ (v306 : Value).ownBlock ∧ some k_ ≠ (.slice Ao38 t323.length co38 : Value).ownBlock)) (by (with_reducible repeat (first | apply Kd.Q_alloc | apply Kd.Q_drewN | apply Kd.Q_drew)); exact Kd.Q_mono HO_5.out (fun _ hk => ⟨⟨hk.1, hk.2.2⟩, hk.2.1⟩)) hg hat); have n1_ := Aside0.mk (Kd.R_after (ok := (fun k_ => some k_ ≠ (.slice Ao64 x5_2.length co64 : Value).ownBlock ∧ some k_ ≠ (.slice Ao38 t323.length co38 : Value).ownBlock)) (by (with_reducible repeat (first | apply Kd.R_alloc | apply Kd.R_drewN | apply Kd.R_drew)); exact Kd.R_mono HO_6.out (fun _ hk => ⟨⟨hk.1, hk.2.2⟩, hk.2.1⟩)) hg hat); have n2_ := Aside0.mk (Kd.R_after (ok := (fun k_ => some k_ ≠ (.slice Ao64 x5_2.length co64 : Value).ownBlock ∧ some k_ ≠ (v306 : Value).ownBlock)) (by (with_reducible repeat (first | apply Kd.R_alloc | apply Kd.R_drewN | apply Kd.R_drew)); exact Kd.R_mono HO_66.out (fun _ hk => ⟨⟨hk.1, hk.2.1⟩, hk.2.2⟩)) hg hat); have n3_ := Aside0.mk (hb); have n4_ := Aside0.mk (ho); clear HO_5 HO_6 HO_66 HB HO_10; have HO_5 := n0_; have HO_6 := n1_; have HO_66 := n2_; have HB := n3_; have HO329 := n4_; clear n0_ n1_ n2_ n3_ n4_; clear ho hb hg hat))
        go_ret
        exact ⟨_, eR, by (with_reducible repeat (first | apply Kd.R_alloc | apply Kd.R_drewN | apply Kd.R_drew)); exact Kd.R_mono HO329.out (fun _ hk => trivial), uB⟩
mutual
def skew_squeezed.l0 : Nat → List Int → Int → List Int → Int → Int → Option (List Int)
  | 0, _, _, _, _, _ => none
  | k + 1, x0, x3, x13, x14, x15 => if x15 < x14 then (if 0 ≤ x15 then (if x15 < (x13.length : Int) then (skew_squeezed.l0 k x0 (mx x3 (rd x13 x15)) x13 x14 (wrap64 (x15 + 1))) else (none)) else (none)) else (if 0 ≤ (wrap64 (x3 + 1)) then (if (wrap64 (x3 + 1) : Int).toNat ≤ 35184372088832 then (skew_squeezed.l1 k x0 (List.replicate (wrap64 (x3 + 1) : Int).toNat 0) x0 (x0.length : Int) 0) else (none)) else (none))
def skew_squeezed.l1 : Nat → List Int → List Int → List Int → Int → Int → Option (List Int)
  | 0, _, _, _, _, _ => none
  | k + 1, x0, x6, x26, x27, x28 => if x28 < x27 then (if 0 ≤ x28 then (if x28 < (x26.length : Int) then (if 0 ≤ (rd x26 x28) then (if (rd x26 x28) < (x6.length : Int) then (skew_squeezed.l1 k x0 (x6.set ((rd x26 x28) : Int).toNat 1) x26 x27 (wrap64 (x28 + 1))) else (none)) else (none)) else (none)) else (none)) else ((bucket_Starts.f k x6).bind fun t352 => (if 0 ≤ (x0.length : Int) then (if ((x0.length : Int) : Int).toNat ≤ 35184372088832 then (skew_squeezed.l2 k t352 (List.replicate ((x0.length : Int) : Int).toNat 0) x0 (x0.length : Int) 0) else (none)) else (none)))
def skew_squeezed.l2 : Nat → List Int → List Int → List Int → Int → Int → Option (List Int)
  | 0, _, _, _, _, _ => none
  | k + 1, x9, x10, x41, x42, x43 => if x43 < x42 then (if 0 ≤ x43 then (if x43 < (x41.length : Int) then (if 0 ≤ (rd x41 x43) then (if (rd x41 x43) < (x9.length : Int) then (if x43 < (x10.length : Int) then (skew_squeezed.l2 k x9 (x10.set (x43 : Int).toNat (rd x9 (rd x41 x43))) x41 x42 (wrap64 (x43 + 1))) else (none)) else (none)) else (none)) else (none)) else (none)) else (some x10)
end
def skew_squeezed.f (k : Nat) (l0 : List Int) : Option (List Int) := skew_squeezed.l0 k l0 0 l0 (l0.length : Int) 0
theorem skew_squeezed.mono_l : ∀ k, (∀ y0 y1 y2 y3 y4, LeO (skew_squeezed.l0 k y0 y1 y2 y3 y4) (skew_squeezed.l0 (k + 1) y0 y1 y2 y3 y4)) ∧ (∀ y0 y1 y2 y3 y4, LeO (skew_squeezed.l1 k y0 y1 y2 y3 y4) (skew_squeezed.l1 (k + 1) y0 y1 y2 y3 y4)) ∧ (∀ y0 y1 y2 y3 y4, LeO (skew_squeezed.l2 k y0 y1 y2 y3 y4) (skew_squeezed.l2 (k + 1) y0 y1 y2 y3 y4))
  | 0 => ⟨fun _ _ _ _ _ r h => by simp [skew_squeezed.l0] at h, fun _ _ _ _ _ r h => by simp [skew_squeezed.l1] at h, fun _ _ _ _ _ r h => by simp [skew_squeezed.l2] at h⟩
  | k + 1 => by
    obtain ⟨ih0, ih1, ih2⟩ := skew_squeezed.mono_l k
    refine ⟨?_, ?_, ?_⟩
    · intro y0 y1 y2 y3 y4
      unfold skew_squeezed.l0
      have m0 := @bucket_Starts.mono
      exact mB
    · intro y0 y1 y2 y3 y4
      unfold skew_squeezed.l1
      have m0 := @bucket_Starts.mono
      exact mB
    · intro y0 y1 y2 y3 y4
      unfold skew_squeezed.l2
      have m0 := @bucket_Starts.mono
      exact mB
theorem skew_squeezed.mono : ∀ a0 k, LeO (skew_squeezed.f k a0) (skew_squeezed.f (k + 1) a0) := by
  intro a0 k
  obtain ⟨ih0, ih1, ih2⟩ := skew_squeezed.mono_l k
  unfold skew_squeezed.f
  have m0 := @bucket_Starts.mono
  exact mB
theorem skew_squeezed.calls (k : Nat) (A0 : Option Addr) (c0 : Nat) (l0 : List Int) (r : List Int) (w : World) (hr0 : Kd.C (Kd.int .i64) w A0 l0.length l0) (hc0 : l0.length ≤ c0) (h : skew_squeezed.f k l0 = some r) :
    Calls Tryz.prog 108 #[.slice A0 l0.length c0] w fun e w' => ∃ v0_ : Value, e = .returned (v0_) ∧ Kd.R (Kd.int .i64) 3 w' w.heap.size (fun _ => True) v0_ r ∧ Below w.heap.size w w' := by
 have HR0 := Aside0.mk hr0
 have HC0 := Aside0.mk hc0
 clear hr0 hc0
 have HB := Aside0.mk (Below.refl w.heap.size w)
 have H := h
 clear h
 unfold skew_squeezed.f at H
 have H' := Aside0.mk H
 clear H
 go_enter Tryz.func108, Tryz.ntmps108
 go_wp2
 go_loopg [3, 15] k (fun kq v3 v15 w' => ∃ (x3_1 : Int) (x15_1 : Int), v3 = .int .i64 x3_1 ∧ v15 = .int .i64 x15_1 ∧ Aside0 (skew_squeezed.l0 kq l0 x3_1 l0 (l0.length : Int) x15_1 = some r) ∧ Aside0 (kq ≤ k) ∧ Aside0 (Below w.heap.size w w'))
 case atStart => exact ⟨(0), (0), sD, sD, H', ⟨Nat.le_refl _⟩, ⟨uB⟩⟩
 case round =>
  clear H'
  obtain ⟨x3_1, x15_1, rfl, rfl, HA, HK1, HB⟩ := hrel
  cases gk with
  | zero => exact absurd HA.out (by simp [skew_squeezed.l0])
  | succ k1 =>
   have H := HA.out
   clear HA
   simp only [skew_squeezed.l0] at H
   rcases ifC H with ⟨c2b0, H⟩ | ⟨c2b0, H⟩
   ·obtain ⟨c3b0, c4b0, H⟩ := ifD2 H
    obtain ⟨ji5, hji5⟩ : ∃ j_ : Int, (mx x3_1 (rd l0 x15_1)) = j_ := ⟨_, rfl⟩
    first | rw [hji5] at H | simp only [hji5] at H
    have hji5_ : (if x3_1 < (rd l0 x15_1) then (rd l0 x15_1) else x3_1) = ji5 := hji5
    have H' := Aside0.mk H
    clear H
    obtain ⟨ad346, e346, hx346_0, p346, q346⟩ := rIO HB.out HR0.out x15_1
    cases e346
    go_wp2
    go_roundg k1
    case measure => have := HK1.out; omega
    case rel => exact ⟨(ji5), (wrap64 (x15_1 + 1)), (by first | rfl | (simp; done) | (simp only [← hji5] <;> (first | rfl | simp)) | (simp [*]; done)), sD, H', ⟨by have := HK1.out; omega⟩, ⟨uB⟩⟩
   ·obtain ⟨ji6, hji6⟩ : ∃ j_ : Int, (wrap64 (x3_1 + 1)) = j_ := ⟨_, rfl⟩
    first | rw [hji6] at H | simp only [hji6] at H
    have hji6w : (IntKind.i64.wrap (x3_1 + 1)) = ji6 := (i64_w _).trans hji6
    obtain ⟨c7b0, c7b1, H⟩ := ifE H
    obtain ⟨c8b0, c8b1, H⟩ := ifE H
    generalize hy347 : (List.replicate (ji6 : Int).toNat 0 : List Int) = y347 at H
    try simp only [Option.bind_some] at H
    have Ny347 := Aside0.mk hy347.symm
    clear hy347
    have H' := Aside0.mk H
    clear H
    go_wp2_with (first | ((with_reducible refine gate_dst (N := 25) rfl ?_); refine Kd.R_make (Kd.int .i64) _ 3 rfl (N := 25) rfl 29 _ _ rfl ji6 rfl rfl Tryz.underlying29 (.int .i64 0) 8 info3 rfl (by decide) (by omega) 0 (ok := fun _ => True) (okp := fun _ => True) rfl (fun _ hk => hk) trivial dT (Nat.le_trans (Nat.mul_le_mul_right _ (dT : ji6.toNat ≤ 35184372088832)) (by omega)) (Below.refl _ _) (Nat.le_refl _) ?_; intro v348 w9 ho10 hb hg_ hnew_; clear hg_ hnew_; (first | rw [← Ny347.out] at ho10 | (simp only [Int.reduceToNat] at ho10; rw [← Ny347.out] at ho10)); have n0_ := Aside0.mk (Kd.R_lower ho10 (below_size uB)); have n1_ := Aside0.mk (below_step uB hb); clear HB; have HO349 := n0_; have HB := n1_; clear n0_ n1_; clear hb ho10))
    go_loopg [28] k1 (fun kq v28 w' => ∃ (x6_2 : List Int) (x28_2 : Int), v28 = .int .i64 x28_2 ∧ Aside0 (skew_squeezed.l1 kq l0 x6_2 l0 (l0.length : Int) x28_2 = some r) ∧ Aside0 (kq ≤ k1) ∧ Aside0 (Kd.R (Kd.int .i64) 3 w' w.heap.size (fun _ => True) v348 x6_2) ∧ Aside0 (Below w.heap.size w w'))
    case atStart => exact ⟨(y347), (0), sD, H', ⟨Nat.le_refl _⟩, ⟨uR HO349.out⟩, ⟨uB⟩⟩
    case round =>
     clear H'
     obtain ⟨x6_2, x28_2, rfl, HA, HK2, HO_6, HB⟩ := hrel
     cases gk with
     | zero => exact absurd HA.out (by simp [skew_squeezed.l1])
     | succ k2 =>
      have H := HA.out
      clear HA
      simp only [skew_squeezed.l1] at H
      rcases ifC H with ⟨c11b0, H⟩ | ⟨c11b0, H⟩
      ·obtain ⟨c12b0, c13b0, H⟩ := ifD2 H
       obtain ⟨c14b0, c15b0, H⟩ := ifD2 H
       generalize hy351 : (x6_2.set ((rd l0 x28_2) : Int).toNat 1 : List Int) = y351 at H
       try simp only [Option.bind_some] at H
       have Ny351 := Aside0.mk hy351.symm
       clear hy351
       have H' := Aside0.mk H
       clear H
       obtain ⟨ad350, e350, hx350_0, p350, q350⟩ := rIO HB.out HR0.out x28_2
       cases e350
       have p16 : 0 ≤ ((rd l0 x28_2) : Int) := dT
       have q16 : ((rd l0 x28_2) : Int) < ((x6_2.length : Int) : Int) := dT
       obtain ⟨go16, co16, eo16, gb16, gl16, cl16, HG16⟩ := Kd.R_form HO_6.out (by omega)
       (first | cases eo16 | (injection eo16 with ea_ en_ ec_; (first | subst ea_ | (injection ea_ with ea_; subst ea_)); subst ec_; clear en_))
       have GB16 := Aside0.mk gb16
       have GG16 := Aside0.mk HG16
       clear gb16 gl16 HG16
       obtain ⟨hx16_0, hf16_0⟩ := Kd.R_celln 0 HO_6.out ((rd l0 x28_2) : Int) p16 q16
       replace p16 := eq_true p16
       replace q16 := eq_true q16
       have HP17 := Kd.R_putg HO_6.out ((rd l0 x28_2) : Int) 1
       go_wp2_with (first | ((with_reducible refine gate_store (t := 3) (p := 34) rfl ?_); refine store_event (t := 3) (p := 34) (v := ?vo_w18) (w1 := (wr.setCell ⟨go16, ((rd l0 x28_2) : Int).toNat, none⟩ (.int .i64 1))) ?hg ?ho ?hn ?hr ?_; (case ho => rfl); (case hg => rfl); (case hn => rfl); (case hr => first | (go_simp; done) | (go_simp; rfl)); intro w18 hw; have hg : wr.grownBy w18 (some go16) := (by rw [hw]; exact HP17.2); have hp_ : Kd.R (Kd.int .i64) 3 w18 w.heap.size (fun _ => True) (.slice (some ⟨go16, 0, none⟩) x6_2.length co16) y351 := (by rw [hw, Ny351.out]; exact HP17.1); clear HP17; have n0_ := Aside0.mk (hp_); have n1_ := Aside0.mk ((by rw [hw]; exact below_set (HB.out) GB16.out : Below w.heap.size w w18)); clear HO_6 HB; have HO_6 := n0_; have HB := n1_; clear n0_ n1_; clear hg hw hp_))
       go_roundg k2
       case measure => have := HK1.out; have := HK2.out; omega
       case rel => exact ⟨(y351), (wrap64 (x28_2 + 1)), sD, H', ⟨by have := HK1.out; have := HK2.out; omega⟩, ⟨uR HO_6.out⟩, ⟨uB⟩⟩
      ·obtain ⟨t352, A19, H⟩ := bdS H
       try dsimp only at H
       obtain ⟨c20b0, c20b1, H⟩ := ifE H
       obtain ⟨c21b0, c21b1, H⟩ := ifE H
       generalize hy355 : (List.replicate ((l0.length : Int) : Int).toNat 0 : List Int) = y355 at H
       try simp only [Option.bind_some] at H
       have Ny355 := Aside0.mk hy355.symm
       clear hy355
       have H' := Aside0.mk H
       clear H
       obtain ⟨Ao22, co22, eo22⟩ := Kd.R_slice HO_6.out
       subst eo22
       go_wp2_with (first | ((with_reducible refine gate_callee (f := 93) rfl ?_); refine goesL_ (some 37) rfl rfl Tryz.func93 (by kernel_rfl) rfl #[.slice Ao22 x6_2.length co22] rfl aE ?_; (with_reducible refine (bucket_Starts.calls k2 _ _ x6_2 t352 _ ?side1 ?side2 A19.out).mono ?_); (case side1 => exact uC (Kd.R_reads' HO_6.out).2.2); (case side2 => exact (Kd.R_reads' HO_6.out).2.1); rintro e w23 ⟨v353, rfl, ho0, hb⟩; refine ⟨_, rfl, ?_⟩; have n0_ := Aside0.mk (Kd.R_elder' (uR HO_6.out) (Kd.R_base ho0) hb); have n1_ := Aside0.mk (Kd.R_lower (Kd.R_new' ho0 (Kd.R_lt (uR HO_6.out))) (below_size uB)); have n2_ := Aside0.mk (below_step uB hb); clear HO_6 HB; have HO_6 := n0_; have HO354 := n1_; have HB := n2_; clear n0_ n1_ n2_) | ((with_reducible refine gate_dst (N := 40) rfl ?_); refine Kd.R_make (Kd.int .i64) _ 3 rfl (N := 40) rfl 29 _ _ rfl (l0.length : Int) rfl rfl Tryz.underlying29 (.int .i64 0) 8 info3 rfl (by decide) (by omega) 0 (ok := fun _ => True) (okp := fun _ => True) rfl (fun _ hk => hk) trivial dT (Nat.le_trans (Nat.mul_le_mul_right _ (dT : (l0.length : Int).toNat ≤ 35184372088832)) (by omega)) (Below.refl _ _) (Nat.le_refl _) ?_; intro v356 w24 ho25 hb hg_ hnew_; clear hg_ hnew_; (first | rw [← Ny355.out] at ho25 | (simp only [Int.reduceToNat] at ho25; rw [← Ny355.out] at ho25)); have n0_ := Aside0.mk (Kd.R_elder' (uR HO_6.out) (Kd.R_base ho25) hb); have n1_ := Aside0.mk (Kd.R_elder' (uR HO354.out) (Kd.R_base ho25) hb); have n2_ := Aside0.mk (Kd.R_lower (Kd.R_new' (Kd.R_new' ho25 (Kd.R_lt (uR HO_6.out))) (Kd.R_lt (uR HO354.out))) (below_size uB)); have n3_ := Aside0.mk (below_step uB hb); clear HO_6 HO354 HB; have HO_6 := n0_; have HO354 := n1_; have HO357 := n2_; have HB := n3_; clear n0_ n1_ n2_ n3_; clear hb ho25))
       go_loopg [43] k2 (fun kq v43 w' => ∃ (x10_3 : List Int) (x43_3 : Int), v43 = .int .i64 x43_3 ∧ Aside0 (skew_squeezed.l2 kq t352 x10_3 l0 (l0.length : Int) x43_3 = some r) ∧ Aside0 (kq ≤ k2) ∧ Aside0 (Kd.R (Kd.int .i64) 3 w' w.heap.size (fun k_ => some k_ ≠ (v356 : Value).ownBlock) v353 t352) ∧ Aside0 (Kd.R (Kd.int .i64) 3 w' w.heap.size (fun k_ => some k_ ≠ (v353 : Value).ownBlock) v356 x10_3) ∧ Aside0 (Below w.heap.size w w'))
       case atStart => exact ⟨(y355), (0), sD, H', ⟨Nat.le_refl _⟩, ⟨by (with_reducible repeat (first | apply Kd.R_alloc | apply Kd.R_drewN | apply Kd.R_drew)); exact Kd.R_mono HO354.out (fun _ hk => hk.2)⟩, ⟨by (with_reducible repeat (first | apply Kd.R_alloc | apply Kd.R_drewN | apply Kd.R_drew)); exact Kd.R_mono HO357.out (fun _ hk => hk.2)⟩, ⟨uB⟩⟩
       case round =>
        clear H'
        obtain ⟨x10_3, x43_3, rfl, HA, HK3, HO_9, HO_10, HB⟩ := hrel
        cases gk with
        | zero => exact absurd HA.out (by simp [skew_squeezed.l2])
        | succ k3 =>
         have H := HA.out
         clear HA
         simp only [skew_squeezed.l2] at H
         rcases ifC H with ⟨c26b0, H⟩ | ⟨c26b0, H⟩
         ·obtain ⟨c27b0, H⟩ := ifD H
          obtain ⟨c28b0, c29b0, H⟩ := ifD2 H
          obtain ⟨c30b0, c31b0, H⟩ := ifD2 H
          generalize hy360 : (x10_3.set (x43_3 : Int).toNat (rd t352 (rd l0 x43_3)) : List Int) = y360 at H
          try simp only [Option.bind_some] at H
          have Ny360 := Aside0.mk hy360.symm
          clear hy360
          have H' := Aside0.mk H
          clear H
          obtain ⟨ad358, e358, hx358_0, p358, q358⟩ := rIO HB.out HR0.out x43_3
          cases e358
          obtain ⟨Ao33, co33, eo33⟩ := Kd.R_slice HO_9.out
          subst eo33
          obtain ⟨ad359, e359, hx359_0, p359, q359⟩ := rI (Kd.R_reads' HO_9.out).2.2 (rd l0 x43_3)
          cases e359
          have p32 : 0 ≤ (x43_3 : Int) := dT
          have q32 : (x43_3 : Int) < ((x10_3.length : Int) : Int) := dT
          obtain ⟨go32, co32, eo32, gb32, gl32, cl32, HG32⟩ := Kd.R_form HO_10.out (by omega)
          (first | cases eo32 | (injection eo32 with ea_ en_ ec_; (first | subst ea_ | (injection ea_ with ea_; subst ea_)); subst ec_; clear en_))
          have GB32 := Aside0.mk gb32
          have GG32 := Aside0.mk HG32
          clear gb32 gl32 HG32
          obtain ⟨hx32_0, hf32_0⟩ := Kd.R_celln 0 HO_10.out (x43_3 : Int) p32 q32
          replace p32 := eq_true p32
          replace q32 := eq_true q32
          have HP34 := Kd.R_putg HO_10.out (x43_3 : Int) (rd t352 (rd l0 x43_3))
          go_wp2_with (first | ((with_reducible refine gate_store (t := 3) (p := 54) rfl ?_); refine store_event (t := 3) (p := 54) (v := ?vo_w35) (w1 := (wr.setCell ⟨go32, (x43_3 : Int).toNat, none⟩ (.int .i64 (rd t352 (rd l0 x43_3))))) ?hg ?ho ?hn ?hr ?_; (case ho => rfl); (case hg => rfl); (case hn => rfl); (case hr => first | (go_simp; done) | (go_simp; rfl)); intro w35 hw; have hg : wr.grownBy w35 (some go32) := (by rw [hw]; exact HP34.2); have hp_ : Kd.R (Kd.int .i64) 3 w35 w.heap.size (fun k_ => some k_ ≠ (.slice (some ad359) t352.length co33 : Value).ownBlock) (.slice (some ⟨go32, 0, none⟩) x10_3.length co32) y360 := (by rw [hw, Ny360.out]; exact HP34.1); clear HP34; have n0_ := Aside0.mk (Kd.R_after (v := (.slice (some ⟨go32, 0, none⟩) x10_3.length co32)) (v1 := (.slice (some ⟨go32, 0, none⟩) x10_3.length co32)) (ok := (fun _ => True)) (by (with_reducible repeat (first | apply Kd.R_alloc | apply Kd.R_drewN | apply Kd.R_drew)); exact Kd.R_mono HO_9.out (fun _ hk => ⟨trivial, hk⟩)) hg (.inl rfl)); have n1_ := Aside0.mk (hp_); have n2_ := Aside0.mk ((by rw [hw]; exact below_set (HB.out) GB32.out : Below w.heap.size w w35)); clear HO_9 HO_10 HB; have HO_9 := n0_; have HO_10 := n1_; have HB := n2_; clear n0_ n1_ n2_; clear hg hw hp_))
          go_roundg k3
          case measure => have := HK1.out; have := HK2.out; have := HK3.out; omega
          case rel => exact ⟨(y360), (wrap64 (x43_3 + 1)), sD, H', ⟨by have := HK1.out; have := HK2.out; have := HK3.out; omega⟩, ⟨by (with_reducible repeat (first | apply Kd.R_alloc | apply Kd.R_drewN | apply Kd.R_drew)); exact Kd.R_mono HO_9.out (fun _ hk => hk.2)⟩, ⟨uR HO_10.out⟩, ⟨uB⟩⟩
         ·obtain rfl := Option.some.inj H
          go_wp2
          go_ret
          exact ⟨_, by first | rfl | (simp [errW_none, errW_some] <;> rfl) | (simp only [← hji6]; first | rfl | (simp [errW_none, errW_some] <;> rfl)) | (simp [*, errW_none, errW_some] <;> rfl), by (with_reducible repeat (first | apply Kd.R_alloc | apply Kd.R_drewN | apply Kd.R_drew)); exact Kd.R_mono HO_10.out (fun _ hk => trivial), uB⟩
def skew_Ints.f (k : Nat) (l0 : List Int) (a1 : Int) : Option (List Int × Int) := if (l0.length : Int) > 100000 then (some (([] : List Int), 2)) else ((bucket_Counts.f k l0 a1).bind fun bt361 => (if bt361.2 = true then ((skew_squeezed.f k l0).bind fun t365 => ((skew_sorted.f k t365 (wrap64 ((l0.length : Int) + 1))).bind fun t368 => (some (t368, 0)))) else (some (([] : List Int), 1))))
theorem skew_Ints.mono : ∀ a0 a1 k, LeO (skew_Ints.f k a0 a1) (skew_Ints.f (k + 1) a0 a1) := by
  intro a0 a1 k
  unfold skew_Ints.f
  have m0 := @bucket_Counts.mono
  have m1 := @skew_sorted.mono
  have m2 := @skew_squeezed.mono
  exact mB
theorem skew_Ints.calls (k : Nat) (A0 : Option Addr) (c0 : Nat) (l0 : List Int) (a1 : Int) (r1 : List Int) (r2 : Int) (w : World) (hr0 : Kd.C (Kd.int .i64) w A0 l0.length l0) (hc0 : l0.length ≤ c0) (h : skew_Ints.f k l0 a1 = some (r1, r2)) :
    Calls Tryz.prog 94 #[.slice A0 l0.length c0, .int .i64 a1] w fun e w' => ∃ v0_ : Value, e = .returned (.tuple #[v0_, .int .i64 r2]) ∧ Kd.R (Kd.int .i64) 3 w' w.heap.size (fun _ => True) v0_ r1 ∧ Below w.heap.size w w' := by
 have HR0 := Aside0.mk hr0
 have HC0 := Aside0.mk hc0
 clear hr0 hc0
 have HB := Aside0.mk (Below.refl w.heap.size w)
 have H := h
 clear h
 unfold skew_Ints.f at H
 by_cases c3 : (l0.length : Int) > 100000
 ·rw [if_pos c3] at H
  have c3b0 : decide (100000 < (l0.length : Int)) = true := decide_eq_true c3
  have c3b1 : decide (100000 < l0.length) = true := decide_eq_true (by omega)
  clear c3
  simp only [Option.some.injEq, Prod.mk.injEq] at H
  obtain ⟨rfl, rfl⟩ := H
  go_enter Tryz.func94, Tryz.ntmps94
  go_wp2
  go_ret2
  exact ⟨_, eR, nL, uB⟩
 ·rw [if_neg c3] at H
  have c3b0 : decide (100000 < (l0.length : Int)) = false := decide_eq_false c3
  have c3b1 : decide (100000 < l0.length) = false := decide_eq_false (by omega)
  clear c3
  obtain ⟨⟨t361, t362⟩, A4, H⟩ := bdS H
  try dsimp only at H
  by_cases c5 : t362 = true
  ·subst c5
   rw [if_pos rfl] at H
   obtain ⟨t365, A6, H⟩ := bdS H
   try dsimp only at H
   obtain ⟨t368, A7, H⟩ := bdS H
   try dsimp only at H
   simp only [Option.some.injEq, Prod.mk.injEq] at H
   obtain ⟨rfl, rfl⟩ := H
   go_enter Tryz.func94, Tryz.ntmps94
   go_wp2_with (first | ((with_reducible refine gate_callee (f := 91) rfl ?_); refine goesL_ (some 14) rfl rfl Tryz.func91 (by kernel_rfl) rfl #[.slice A0 l0.length c0, .int .i64 a1] rfl aE ?_; (with_reducible refine (bucket_Counts.calls k _ _ l0 a1 t361 true _ ?side1 ?side2 A4.out).mono ?_); (case side1 => exact uC HR0.out); (case side2 => exact HC0.out); rintro e w8 ⟨v363, rfl, ho0, hb⟩; refine ⟨_, rfl, ?_⟩; have n0_ := Aside0.mk (Kd.R_lower ho0 (below_size uB)); have n1_ := Aside0.mk (below_step uB hb); clear HB; have HO364 := n0_; have HB := n1_; clear n0_ n1_) | ((with_reducible refine gate_callee (f := 108) rfl ?_); refine goesL_ (some 20) rfl rfl Tryz.func108 (by kernel_rfl) rfl #[.slice A0 l0.length c0] rfl aE ?_; (with_reducible refine (skew_squeezed.calls k _ _ l0 t365 _ ?side1 ?side2 A6.out).mono ?_); (case side1 => exact uC (Kd.C_below HR0.out HB.out)); (case side2 => exact HC0.out); rintro e w9 ⟨v366, rfl, ho0, hb⟩; refine ⟨_, rfl, ?_⟩; have n0_ := Aside0.mk (Kd.R_elder' (uR HO364.out) (Kd.R_base ho0) hb); have n1_ := Aside0.mk (Kd.R_lower (Kd.R_new' ho0 (Kd.R_lt (uR HO364.out))) (below_size uB)); have n2_ := Aside0.mk (below_step uB hb); clear HO364 HB; have HO364 := n0_; have HO367 := n1_; have HB := n2_; clear n0_ n1_ n2_; obtain ⟨Ao10, co10, eo10⟩ := Kd.R_slice HO367.out; subst eo10) | ((with_reducible refine gate_callee (f := 107) rfl ?_); refine goesL_ (some 24) rfl rfl Tryz.func107 (by kernel_rfl) rfl #[.slice Ao10 t365.length co10, .int .i64 (wrap64 ((l0.length : Int) + 1))] rfl aE ?_; (with_reducible refine (skew_sorted.calls k _ _ t365 (wrap64 ((l0.length : Int) + 1)) t368 _ ?side1 ?side2 A7.out).mono ?_); (case side1 => exact uC (Kd.R_reads' HO367.out).2.2); (case side2 => exact (Kd.R_reads' HO367.out).2.1); rintro e w11 ⟨v369, rfl, ho0, hb⟩; refine ⟨_, rfl, ?_⟩; have n0_ := Aside0.mk (Kd.R_elder' (uR HO364.out) (Kd.R_base ho0) hb); have n1_ := Aside0.mk (Kd.R_elder' (uR HO367.out) (Kd.R_base ho0) hb); have n2_ := Aside0.mk (Kd.R_lower (Kd.R_new' (Kd.R_new' ho0 (Kd.R_lt (uR HO364.out))) (Kd.R_lt (uR HO367.out))) (below_size uB)); have n3_ := Aside0.mk (below_step uB hb); clear HO364 HO367 HB; have HO364 := n0_; have HO367 := n1_; have HO370 := n2_; have HB := n3_; clear n0_ n1_ n2_ n3_))
   go_ret2
   exact ⟨_, eR, by (with_reducible repeat (first | apply Kd.R_alloc | apply Kd.R_drewN | apply Kd.R_drew)); exact Kd.R_mono HO370.out (fun _ hk => trivial), uB⟩
  ·replace c5 := Bool.eq_false_iff.mpr c5
   subst c5
   rw [if_neg (by decide)] at H
   simp only [Option.some.injEq, Prod.mk.injEq] at H
   obtain ⟨rfl, rfl⟩ := H
   go_enter Tryz.func94, Tryz.ntmps94
   go_wp2_with (first | ((with_reducible refine gate_callee (f := 91) rfl ?_); refine goesL_ (some 14) rfl rfl Tryz.func91 (by kernel_rfl) rfl #[.slice A0 l0.length c0, .int .i64 a1] rfl aE ?_; (with_reducible refine (bucket_Counts.calls k _ _ l0 a1 t361 false _ ?side1 ?side2 A4.out).mono ?_); (case side1 => exact uC HR0.out); (case side2 => exact HC0.out); rintro e w12 ⟨v363, rfl, ho0, hb⟩; refine ⟨_, rfl, ?_⟩; have n0_ := Aside0.mk (Kd.R_lower ho0 (below_size uB)); have n1_ := Aside0.mk (below_step uB hb); clear HB; have HO364 := n0_; have HB := n1_; clear n0_ n1_))
   go_ret2
   exact ⟨_, eR, nL, uB⟩
def skew_Bytes.l0 : Nat → List Int → List Int → Int → Int → Option (List Int × Int)
  | 0, _, _, _, _ => none
  | k + 1, x4, x13, x14, x15 => if x15 < x14 then (if 0 ≤ x15 then (if x15 < (x13.length : Int) then (if x15 < (x4.length : Int) then (skew_Bytes.l0 k (x4.set (x15 : Int).toNat (wrap64 (rd x13 x15))) x13 x14 (wrap64 (x15 + 1))) else (none)) else (none)) else (none)) else ((skew_Ints.f k x4 256).bind fun bt376 => (some (bt376.1, bt376.2)))
def skew_Bytes.f (k : Nat) (l0 : List Int) : Option (List Int × Int) := if (l0.length : Int) > 100000 then (some (([] : List Int), 2)) else (if 0 ≤ (l0.length : Int) then (if ((l0.length : Int) : Int).toNat ≤ 35184372088832 then (skew_Bytes.l0 k (List.replicate ((l0.length : Int) : Int).toNat 0) l0 (l0.length : Int) 0) else (none)) else (none))
theorem skew_Bytes.mono_l : ∀ k, (∀ y0 y1 y2 y3, LeO (skew_Bytes.l0 k y0 y1 y2 y3) (skew_Bytes.l0 (k + 1) y0 y1 y2 y3))
  | 0 => fun _ _ _ _ r h => by simp [skew_Bytes.l0] at h
  | k + 1 => by
    have ih0 := skew_Bytes.mono_l k
    · intro y0 y1 y2 y3
      unfold skew_Bytes.l0
      have m0 := @skew_Ints.mono
      exact mB
theorem skew_Bytes.mono : ∀ a0 k, LeO (skew_Bytes.f k a0) (skew_Bytes.f (k + 1) a0) := by
  intro a0 k
  have ih0 := skew_Bytes.mono_l k
  unfold skew_Bytes.f
  have m0 := @skew_Ints.mono
  exact mB
theorem skew_Bytes.calls (k : Nat) (A0 : Option Addr) (c0 : Nat) (l0 : List Int) (r1 : List Int) (r2 : Int) (w : World) (hr0 : Kd.C (Kd.int .u8) w A0 l0.length l0) (hc0 : l0.length ≤ c0) (h : skew_Bytes.f k l0 = some (r1, r2)) :
    Calls Tryz.prog 77 #[.slice A0 l0.length c0] w fun e w' => ∃ v0_ : Value, e = .returned (.tuple #[v0_, .int .i64 r2]) ∧ Kd.R (Kd.int .i64) 3 w' w.heap.size (fun _ => True) v0_ r1 ∧ Below w.heap.size w w' := by
 have HR0 := Aside0.mk hr0
 have HC0 := Aside0.mk hc0
 clear hr0 hc0
 have HB := Aside0.mk (Below.refl w.heap.size w)
 have H := h
 clear h
 unfold skew_Bytes.f at H
 by_cases c2 : (l0.length : Int) > 100000
 ·rw [if_pos c2] at H
  have c2b0 : decide (100000 < (l0.length : Int)) = true := decide_eq_true c2
  have c2b1 : decide (100000 < l0.length) = true := decide_eq_true (by omega)
  clear c2
  simp only [Option.some.injEq, Prod.mk.injEq] at H
  obtain ⟨rfl, rfl⟩ := H
  go_enter Tryz.func77, Tryz.ntmps77
  go_wp2
  go_ret2
  exact ⟨_, eR, nL, uB⟩
 ·rw [if_neg c2] at H
  have c2b0 : decide (100000 < (l0.length : Int)) = false := decide_eq_false c2
  have c2b1 : decide (100000 < l0.length) = false := decide_eq_false (by omega)
  clear c2
  obtain ⟨c3b0, c3b1, H⟩ := ifE H
  obtain ⟨c4b0, c4b1, H⟩ := ifE H
  generalize hy371 : (List.replicate ((l0.length : Int) : Int).toNat 0 : List Int) = y371 at H
  try simp only [Option.bind_some] at H
  have Ny371 := Aside0.mk hy371.symm
  clear hy371
  have H' := Aside0.mk H
  clear H
  go_enter Tryz.func77, Tryz.ntmps77
  go_wp2_with (first | ((with_reducible refine gate_dst (N := 12) rfl ?_); refine Kd.R_make (Kd.int .i64) _ 3 rfl (N := 12) rfl 29 _ _ rfl (l0.length : Int) rfl rfl Tryz.underlying29 (.int .i64 0) 8 info3 rfl (by decide) (by omega) 0 (ok := fun _ => True) (okp := fun _ => True) rfl (fun _ hk => hk) trivial dT (Nat.le_trans (Nat.mul_le_mul_right _ (dT : (l0.length : Int).toNat ≤ 35184372088832)) (by omega)) (Below.refl _ _) (Nat.le_refl _) ?_; intro v372 w5 ho6 hb hg_ hnew_; clear hg_ hnew_; (first | rw [← Ny371.out] at ho6 | (simp only [Int.reduceToNat] at ho6; rw [← Ny371.out] at ho6)); have n0_ := Aside0.mk (Kd.R_lower ho6 (below_size uB)); have n1_ := Aside0.mk (below_step uB hb); clear HB; have HO373 := n0_; have HB := n1_; clear n0_ n1_; clear hb ho6))
  go_loopg [15] k (fun kq v15 w' => ∃ (x4_1 : List Int) (x15_1 : Int), v15 = .int .i64 x15_1 ∧ Aside0 (skew_Bytes.l0 kq x4_1 l0 (l0.length : Int) x15_1 = some (r1, r2)) ∧ Aside0 (kq ≤ k) ∧ Aside0 (Kd.R (Kd.int .i64) 3 w' w.heap.size (fun _ => True) v372 x4_1) ∧ Aside0 (Below w.heap.size w w'))
  case atStart => exact ⟨(y371), (0), sD, H', ⟨Nat.le_refl _⟩, ⟨uR HO373.out⟩, ⟨uB⟩⟩
  case round =>
   clear H'
   obtain ⟨x4_1, x15_1, rfl, HA, HK1, HO_4, HB⟩ := hrel
   cases gk with
   | zero => exact absurd HA.out (by simp [skew_Bytes.l0])
   | succ k1 =>
    have H := HA.out
    clear HA
    simp only [skew_Bytes.l0] at H
    rcases ifC H with ⟨c7b0, H⟩ | ⟨c7b0, H⟩
    ·obtain ⟨c8b0, H⟩ := ifD H
     obtain ⟨c9b0, c10b0, H⟩ := ifD2 H
     generalize hy375 : (x4_1.set (x15_1 : Int).toNat (wrap64 (rd l0 x15_1)) : List Int) = y375 at H
     try simp only [Option.bind_some] at H
     have Ny375 := Aside0.mk hy375.symm
     clear hy375
     have H' := Aside0.mk H
     clear H
     obtain ⟨ad374, e374, hx374_0, p374, q374⟩ := rIO HB.out HR0.out x15_1
     cases e374
     have p11 : 0 ≤ (x15_1 : Int) := dT
     have q11 : (x15_1 : Int) < ((x4_1.length : Int) : Int) := dT
     obtain ⟨go11, co11, eo11, gb11, gl11, cl11, HG11⟩ := Kd.R_form HO_4.out (by omega)
     (first | cases eo11 | (injection eo11 with ea_ en_ ec_; (first | subst ea_ | (injection ea_ with ea_; subst ea_)); subst ec_; clear en_))
     have GB11 := Aside0.mk gb11
     have GG11 := Aside0.mk HG11
     clear gb11 gl11 HG11
     obtain ⟨hx11_0, hf11_0⟩ := Kd.R_celln 0 HO_4.out (x15_1 : Int) p11 q11
     replace p11 := eq_true p11
     replace q11 := eq_true q11
     have HP12 := Kd.R_putg HO_4.out (x15_1 : Int) (wrap64 (rd l0 x15_1))
     go_wp2_with (first | ((with_reducible refine gate_store (t := 3) (p := 24) rfl ?_); refine store_event (t := 3) (p := 24) (v := ?vo_w13) (w1 := (wr.setCell ⟨go11, (x15_1 : Int).toNat, none⟩ (.int .i64 (wrap64 (rd l0 x15_1))))) ?hg ?ho ?hn ?hr ?_; (case ho => rfl); (case hg => rfl); (case hn => rfl); (case hr => first | (go_simp; done) | (go_simp; rfl)); intro w13 hw; have hg : wr.grownBy w13 (some go11) := (by rw [hw]; exact HP12.2); have hp_ : Kd.R (Kd.int .i64) 3 w13 w.heap.size (fun _ => True) (.slice (some ⟨go11, 0, none⟩) x4_1.length co11) y375 := (by rw [hw, Ny375.out]; exact HP12.1); clear HP12; have n0_ := Aside0.mk (hp_); have n1_ := Aside0.mk ((by rw [hw]; exact below_set (HB.out) GB11.out : Below w.heap.size w w13)); clear HO_4 HB; have HO_4 := n0_; have HB := n1_; clear n0_ n1_; clear hg hw hp_))
     go_roundg k1
     case measure => have := HK1.out; omega
     case rel => exact ⟨(y375), (wrap64 (x15_1 + 1)), sD, H', ⟨by have := HK1.out; omega⟩, ⟨uR HO_4.out⟩, ⟨uB⟩⟩
    ·obtain ⟨⟨t376, t377⟩, A14, H⟩ := bdS H
     try dsimp only at H
     simp only [Option.some.injEq, Prod.mk.injEq] at H
     obtain ⟨rfl, rfl⟩ := H
     obtain ⟨Ao15, co15, eo15⟩ := Kd.R_slice HO_4.out
     subst eo15
     go_wp2_with (first | ((with_reducible refine gate_callee (f := 94) rfl ?_); refine goesL_ (some 27) rfl rfl Tryz.func94 (by kernel_rfl) rfl #[.slice Ao15 x4_1.length co15, .int .i64 256] rfl aE ?_; (with_reducible refine (skew_Ints.calls k1 _ _ x4_1 256 t376 t377 _ ?side1 ?side2 A14.out).mono ?_); (case side1 => exact uC (Kd.R_reads' HO_4.out).2.2); (case side2 => exact (Kd.R_reads' HO_4.out).2.1); rintro e w16 ⟨v378, rfl, ho0, hb⟩; refine ⟨_, rfl, ?_⟩; have n0_ := Aside0.mk (Kd.R_elder' (uR HO_4.out) (Kd.R_base ho0) hb); have n1_ := Aside0.mk (Kd.R_lower (Kd.R_new' ho0 (Kd.R_lt (uR HO_4.out))) (below_size uB)); have n2_ := Aside0.mk (below_step uB hb); clear HO_4 HB; have HO_4 := n0_; have HO379 := n1_; have HB := n2_; clear n0_ n1_ n2_))
     go_ret2
     exact ⟨_, eR, by (with_reducible repeat (first | apply Kd.R_alloc | apply Kd.R_drewN | apply Kd.R_drew)); exact Kd.R_mono HO379.out (fun _ hk => trivial), uB⟩
def slices_isNaN_int.f (a0 : Int) : Option (Bool) := some (a0 != a0)
theorem slices_isNaN_int.calls (a0 : Int) (r : Bool) (w : World) (h : slices_isNaN_int.f a0 = some r) :
    Calls Tryz.prog 156 #[.int .i64 a0] w fun e w' => e = .returned (.bool r) ∧ Drawn0 w w' := by
 have H := h
 clear h
 unfold slices_isNaN_int.f at H
 obtain rfl := Option.some.inj H
 go_enter Tryz.func156, Tryz.ntmps156
 go_wp2
 go_ret
 exact ⟨sD, dD⟩
end Go.Proofs.YtbbpplnnegdenaaGreat.PTopBij
end
