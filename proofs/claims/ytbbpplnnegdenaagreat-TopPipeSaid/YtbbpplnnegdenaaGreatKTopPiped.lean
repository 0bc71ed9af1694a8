/- Words, functions, walks and plain mathematics for TopPipe, part 4: laid together by a program of this session (pack.py). -/
import Derived.Test.YtbbpplnnegdenaaGreatKTopPipec
set_option linter.unusedVariables false
set_option linter.unusedSimpArgs false
section
namespace Go.Proofs.YtbbpplnnegdenaaGreat.PTopPipe
open Go.RowKit Go.Proofs.YtbbpplnnegdenaaGreatW.PrintWords Go.Proofs.YtbbpplnnegdenaaGreatW.PrintLast Go.Proofs.YtbbpplnnegdenaaGreatW.PrintMore
attribute [local go_sem] max2_int min2_int max_two min_two max_three min_three max_four min_four
set_option linter.unusedVariables false
set_option linter.unusedSimpArgs false
def skew_places.l0 : Nat → Int → List Int → Int → Option (List Int)
  | 0, _, _, _ => none
  | k + 1, x0, x5, x6 => if x6 < x0 then (if x5.length < 17592186044416 then (skew_places.l0 k x0 (x5 ++ [x6]) (wrap64 (x6 + 3))) else (none)) else (some x5)
def skew_places.f (k : Nat) (a0 : Int) (a1 : Int) : Option (List Int) := skew_places.l0 k a0 ([] : List Int) a1
theorem skew_places.mono_l : ∀ k, (∀ y0 y1 y2, LeO (skew_places.l0 k y0 y1 y2) (skew_places.l0 (k + 1) y0 y1 y2))
  | 0 => fun _ _ _ r h => by simp [skew_places.l0] at h
  | k + 1 => by
    have ih0 := skew_places.mono_l k
    · intro y0 y1 y2
      unfold skew_places.l0
      exact mB
theorem skew_places.mono : ∀ a0 a1 k, LeO (skew_places.f k a0 a1) (skew_places.f (k + 1) a0 a1) := by
  intro a0 a1 k
  have ih0 := skew_places.mono_l k
  unfold skew_places.f
  exact mB
set_option maxHeartbeats 8000000 in
set_option maxRecDepth 100000 in
theorem skew_places.calls (k : Nat) (a0 : Int) (a1 : Int) (r : List Int) (w : World) (h : skew_places.f k a0 a1 = some r) :
    Calls Tryz.prog 129 #[.int .i64 a0, .int .i64 a1] w fun e w' => ∃ v0_ : Value, e = .returned (v0_) ∧ Kd.R (Kd.int .i64) 3 w' w.heap.size (fun _ => True) v0_ r ∧ Below w.heap.size w w' := by
 have HB := Aside0.mk (Below.refl w.heap.size w)
 have H := h
 clear h
 unfold skew_places.f at H
 have H' := Aside0.mk H
 clear H
 go_enter Tryz.func129, Tryz.ntmps129
 go_wp2
 go_loopg [5, 6] k (fun kq v5 v6 w' => ∃ (x5_1 : List Int) (x6_1 : Int), v6 = .int .i64 x6_1 ∧ Aside0 (skew_places.l0 kq a0 x5_1 x6_1 = some r) ∧ Aside0 (kq ≤ k) ∧ Aside0 (Kd.R (Kd.int .i64) 3 w' w.heap.size (fun _ => True) v5 x5_1) ∧ Aside0 (Below w.heap.size w w'))
 case atStart => exact ⟨(([] : List Int)), (a1), sD, H', ⟨Nat.le_refl _⟩, ⟨nL⟩, ⟨uB⟩⟩
 case round =>
  clear H'
  try clear c1
  try clear p2
  obtain ⟨x5_1, x6_1, rfl, HA, HK1, HO_5, HB⟩ := hrel
  cases gk with
  | zero => exact absurd HA.out (by simp [skew_places.l0])
  | succ k1 =>
   have H := HA.out
   clear HA
   simp only [skew_places.l0] at H
   rcases ifC H with ⟨c3b0, H⟩ | ⟨c3b0, H⟩
   ·obtain ⟨c4, H⟩ := ifP H
    have LMc4 := Aside0.mk c4
    clear c4
    generalize hy291 : (x5_1 ++ [x6_1] : List Int) = y291 at H
    try simp only [Option.bind_some] at H
    have Ny291 := Aside0.mk hy291.symm
    clear hy291
    have H' := Aside0.mk H
    clear H
    go_wp2_with (first | ((with_reducible refine gate_builtin (b := .append) (xs := #[.tmp 13, .tmp 15]) rfl ?_); at_builtin; refine Kd.R_append (Kd.int .i64) (w0 := w) w.heap.size rfl (.tmp 13) (.tmp 15) 29 3 (.int .i64 0) 8 rfl Tryz.underlying29 info3 rfl (by decide) (by omega) u5 x5_1 x6_1 [.int .i64 x6_1] (fun _ => True) (fun _ => False) rfl rfl ?aP (fun _ hk => hk.elim) ?aF ?aO ?aB ?aS ?aL ?_; (case aP => exact rfl); (case aB => exact uB); (case aF => exact (fun _ _ => trivial)); (case aO => exact (uR HO_5.out)); (case aS => exact (below_size uB)); (case aL => have := LMc4.out; omega); intro v292 w5 ho hb hg hat; rw [← Ny291.out] at ho; have n0_ := Aside0.mk (hb); have n1_ := Aside0.mk (ho); clear HB; clear HO_5; have HB := n0_; have HO293 := n1_; clear n0_ n1_; clear ho hb hg hat))
    go_roundg k1
    case measure => have := HK1.out; omega
    case rel => exact ⟨(y291), (wrap64 (x6_1 + 3)), sD, H', ⟨by have := HK1.out; omega⟩, ⟨uR HO293.out⟩, ⟨uB⟩⟩
   ·obtain rfl := Option.some.inj H
    go_wp2
    go_ret
    exact ⟨_, eR, uR HO_5.out, uB⟩
def skew_key.f (l0 : List Int) (a1 : Int) : Option (Int) := if a1 ≥ (l0.length : Int) then (some 0) else (if 0 ≤ a1 then (if a1 < (l0.length : Int) then (some (wrap64 ((rd l0 a1) + 1))) else (none)) else (none))
set_option maxHeartbeats 8000000 in
set_option maxRecDepth 100000 in
theorem skew_key.calls (A0 : Option Addr) (c0 : Nat) (l0 : List Int) (a1 : Int) (r : Int) (w : World) (hr0 : Kd.C (Kd.int .i64) w A0 l0.length l0) (hc0 : l0.length ≤ c0) (h : skew_key.f l0 a1 = some r) :
    Calls Tryz.prog 147 #[.slice A0 l0.length c0, .int .i64 a1] w fun e w' => e = .returned (.int .i64 r) ∧ Drawn0 w w' := by
 have HR0 := Aside0.mk hr0
 have HC0 := Aside0.mk hc0
 clear hr0 hc0
 have H := h
 clear h
 unfold skew_key.f at H
 rcases ifG H with ⟨c3b0, H⟩ | ⟨c3b0, H⟩
 ·obtain rfl := Option.some.inj H
  go_enter Tryz.func147, Tryz.ntmps147
  go_wp2
  go_ret
  exact ⟨sD, dD⟩
 ·obtain ⟨c4b0, c5b0, H⟩ := ifD2 H
  obtain rfl := Option.some.inj H
  obtain ⟨ad294, e294, hx294_0, p294, q294⟩ := rI HR0.out a1
  cases e294
  go_enter Tryz.func147, Tryz.ntmps147
  go_wp2
  go_ret
  exact ⟨sD, dD⟩
def skew_keys.l0 : Nat → List Int → Int → List Int → Int → Int → Option (List Int)
  | 0, _, _, _, _, _ => none
  | k + 1, x0, x1, x5, x11, x12 => if x12 < x11 then ((skew_key.f x0 (wrap64 (x12 + x1))).bind fun t298 => (if 0 ≤ x12 then (if x12 < (x5.length : Int) then (skew_keys.l0 k x0 x1 (x5.set (x12 : Int).toNat t298) x11 (wrap64 (x12 + 1))) else (none)) else (none))) else (some x5)
def skew_keys.f (k : Nat) (l0 : List Int) (a1 : Int) : Option (List Int) := if 0 ≤ (l0.length : Int) then (if ((l0.length : Int) : Int).toNat ≤ 35184372088832 then ((some (List.replicate ((l0.length : Int) : Int).toNat 0 : List Int)).bind fun y295 => (skew_keys.l0 k l0 a1 y295 (y295.length : Int) 0)) else (none)) else (none)
theorem skew_keys.mono_l : ∀ k, (∀ y0 y1 y2 y3 y4, LeO (skew_keys.l0 k y0 y1 y2 y3 y4) (skew_keys.l0 (k + 1) y0 y1 y2 y3 y4))
  | 0 => fun _ _ _ _ _ r h => by simp [skew_keys.l0] at h
  | k + 1 => by
    have ih0 := skew_keys.mono_l k
    · intro y0 y1 y2 y3 y4
      unfold skew_keys.l0
      exact mB
theorem skew_keys.mono : ∀ a0 a1 k, LeO (skew_keys.f k a0 a1) (skew_keys.f (k + 1) a0 a1) := by
  intro a0 a1 k
  have ih0 := skew_keys.mono_l k
  unfold skew_keys.f
  exact mB
set_option maxHeartbeats 8000000 in
set_option maxRecDepth 100000 in
theorem skew_keys.calls (k : Nat) (A0 : Option Addr) (c0 : Nat) (l0 : List Int) (a1 : Int) (r : List Int) (w : World) (hr0 : Kd.C (Kd.int .i64) w A0 l0.length l0) (hc0 : l0.length ≤ c0) (h : skew_keys.f k l0 a1 = some r) :
    Calls Tryz.prog 131 #[.slice A0 l0.length c0, .int .i64 a1] w fun e w' => ∃ v0_ : Value, e = .returned (v0_) ∧ Kd.R (Kd.int .i64) 3 w' w.heap.size (fun _ => True) v0_ r ∧ Below w.heap.size w w' := by
 have HR0 := Aside0.mk hr0
 have HC0 := Aside0.mk hc0
 clear hr0 hc0
 have HB := Aside0.mk (Below.refl w.heap.size w)
 have H := h
 clear h
 unfold skew_keys.f at H
 obtain ⟨c3b0, c3b1, H⟩ := ifE H
 obtain ⟨c4b0, c4b1, H⟩ := ifE H
 generalize hy295 : (List.replicate ((l0.length : Int) : Int).toNat 0 : List Int) = y295 at H
 try simp only [Option.bind_some] at H
 have Ny295 := Aside0.mk hy295.symm
 clear hy295
 have H' := Aside0.mk H
 clear H
 go_enter Tryz.func131, Tryz.ntmps131
 go_wp2_with (first | ((with_reducible refine gate_dst (N := 9) rfl ?_); refine Kd.R_make (Kd.int .i64) _ 3 rfl (N := 9) rfl 29 _ _ rfl (l0.length : Int) rfl rfl Tryz.underlying29 (.int .i64 0) 8 info3 rfl (by decide) (by omega) 0 (ok := fun _ => True) (okp := fun _ => True) rfl (fun _ hk => hk) trivial dT (Nat.le_trans (Nat.mul_le_mul_right _ (dT : (l0.length : Int).toNat ≤ 35184372088832)) (by omega)) (Below.refl _ _) (Nat.le_refl _) ?_; intro v296 w5 ho6 hb hg_ hnew_; clear hg_ hnew_; (first | rw [← Ny295.out] at ho6 | (simp only [Int.reduceToNat] at ho6; rw [← Ny295.out] at ho6)); have n0_ := Aside0.mk (Kd.R_lower ho6 (below_size uB)); have n1_ := Aside0.mk (below_step uB hb); clear HB; have HO297 := n0_; have HB := n1_; clear n0_ n1_; clear hb ho6; obtain ⟨Ao7, co7, eo7⟩ := Kd.R_slice HO297.out; subst eo7))
 go_loopg [12] k (fun kq v12 w' => ∃ (x5_1 : List Int) (x12_1 : Int), v12 = .int .i64 x12_1 ∧ Aside0 (skew_keys.l0 kq l0 a1 x5_1 (y295.length : Int) x12_1 = some r) ∧ Aside0 (kq ≤ k) ∧ Aside0 (Kd.R (Kd.int .i64) 3 w' w.heap.size (fun _ => True) (.slice Ao7 y295.length co7) x5_1) ∧ Aside0 (Below w.heap.size w w'))
 case atStart => exact ⟨(y295), (0), sD, H', ⟨Nat.le_refl _⟩, ⟨uR HO297.out⟩, ⟨uB⟩⟩
 case round =>
  clear H'
  try clear c1
  try clear p2
  try clear c3
  try clear c3b0
  try clear c3b1
  try clear c4
  try clear c4b0
  try clear c4b1
  obtain ⟨x5_1, x12_1, rfl, HA, HK1, HO_5, HB⟩ := hrel
  have hl5_1 := (Kd.R_reads' HO_5.out).1
  rw [hl5_1] at HO_5
  (try simp only [hl5_1])
  cases gk with
  | zero => exact absurd HA.out (by simp [skew_keys.l0])
  | succ k1 =>
   have H := HA.out
   clear HA
   simp only [skew_keys.l0] at H
   by_cases c8 : x12_1 < (y295.length : Int)
   ·rw [if_pos c8] at H
    have c8b0 : decide (x12_1 < (y295.length : Int)) = true := decide_eq_true c8
    clear c8
    obtain ⟨t298, A9, H⟩ := bdS H
    try dsimp only at H
    obtain ⟨c10b0, c11b0, H⟩ := ifD2 H
    generalize hy299 : (x5_1.set (x12_1 : Int).toNat t298 : List Int) = y299 at H
    try simp only [Option.bind_some] at H
    have Ny299 := Aside0.mk hy299.symm
    clear hy299
    have H' := Aside0.mk H
    clear H
    go_wp2_with (first | ((with_reducible refine gate_callee (f := 147) rfl ?_); refine goesL_ (some 21) rfl rfl Tryz.func147 (by kernel_rfl) rfl #[.slice A0 l0.length c0, .int .i64 (wrap64 (x12_1 + a1))] rfl aE ?_; (with_reducible refine (skew_key.calls _ _ l0 (wrap64 (x12_1 + a1)) t298 _ ?side1 ?side2 A9.out).mono ?_); (case side1 => exact uC (Kd.C_below HR0.out HB.out)); (case side2 => exact HC0.out); rintro e w' ⟨rfl, ⟨nd, rfl⟩⟩; refine ⟨_, rfl, ?_⟩; (try (rw [drewN_self wr]; generalize hq_ : World.drewN wr _ = wr; have n0_ : Aside0 (Kd.R (Kd.int .i64) 3 wr w.heap.size (fun _ => True) (.slice Ao7 x5_1.length co7) x5_1) := ⟨by rw [← hq_]; exact (uR HO_5.out)⟩; have n1_ : Aside0 (Below w.heap.size w wr) := ⟨by rw [← hq_]; exact uB⟩; clear HO_5 HB hq_; have HO_5 := n0_; have HB := n1_; clear n0_ n1_)); have p12 : 0 ≤ (x12_1 : Int) := dT; have q12 : (x12_1 : Int) < ((x5_1.length : Int) : Int) := dT; obtain ⟨go12, co12, eo12, gb12, gl12, cl12, HG12⟩ := Kd.R_form HO_5.out (by omega); (first | cases eo12 | (injection eo12 with ea_ en_ ec_; (first | subst ea_ | (injection ea_ with ea_; subst ea_)); subst ec_; clear en_)); have GB12 := Aside0.mk gb12; have GG12 := Aside0.mk HG12; clear gb12 gl12 HG12; obtain ⟨hx12_0, hf12_0⟩ := Kd.R_celln 0 HO_5.out (x12_1 : Int) p12 q12; replace p12 := eq_true p12; replace q12 := eq_true q12; obtain ⟨hy13_, hz13_⟩ := Kd.R_celln 0 HO_5.out (x12_1 : Int) dT dT; have HP13 := Kd.R_putg HO_5.out (x12_1 : Int) t298) | ((with_reducible refine gate_store (t := 3) (p := 22) rfl ?_); refine store_event (t := 3) (p := 22) (v := ?vo_w14) (w1 := (wr.setCell ⟨go12, (x12_1 : Int).toNat, none⟩ (.int .i64 t298))) ?hg ?ho ?hn ?hr ?_; (case ho => rfl); (case hg => rfl); (case hn => rfl); (case hr => first | (go_simp; done) | (go_simp; rfl)); intro w14 hw; have hg : wr.grownBy w14 (some go12) := (by rw [hw]; exact HP13.2); have hp_ : Kd.R (Kd.int .i64) 3 w14 w.heap.size (fun _ => True) (.slice (some ⟨go12, 0, none⟩) x5_1.length co7) y299 := (by rw [hw, Ny299.out]; exact HP13.1); clear HP13; have n0_ := Aside0.mk (hp_); have n1_ := Aside0.mk ((by rw [hw]; exact below_set (HB.out) GB12.out : Below w.heap.size w w14)); clear HO_5; clear HB; have HO_5 := n0_; have HB := n1_; clear n0_ n1_; clear hg hw hp_))
    (try simp only [← hl5_1])
    go_roundg k1
    case measure => have := HK1.out; omega
    case rel => exact ⟨(y299), (wrap64 (x12_1 + 1)), sD, H', ⟨by have := HK1.out; omega⟩, ⟨by (try simp only [hl5_1]); (with_reducible repeat (first | apply Kd.R_alloc | apply Kd.R_drewN | apply Kd.R_drew)); exact HO_5.out⟩, ⟨uB⟩⟩
   ·rw [if_neg c8] at H
    have c8b0 : decide (x12_1 < (y295.length : Int)) = false := decide_eq_false c8
    (try simp only [hl5_1] at c8b0)
    clear c8
    obtain rfl := Option.some.inj H
    go_wp2
    go_ret
    exact ⟨_, eR, uR HO_5.out, uB⟩
def skew_Sample.j0 : Nat → Int → Bool → Option (List Int)
  | 0, _, _ => none
  | k + 1, x0, x8 => if x8 = true then (some ([] : List Int)) else ((skew_places.f k x0 1).bind fun t300 => ((skew_places.f k x0 2).bind fun t303 => (if t300.length + t303.length < 17592186044416 then (some (t300 ++ t303)) else (none))))
def skew_Sample.f (k : Nat) (a0 : Int) : Option (List Int) := if a0 < 0 then (skew_Sample.j0 k a0 true) else (skew_Sample.j0 k a0 (decide (a0 > 100000)))
theorem skew_Sample.mono_l : ∀ k, (∀ y0 y1, LeO (skew_Sample.j0 k y0 y1) (skew_Sample.j0 (k + 1) y0 y1))
  | 0 => fun _ _ r h => by simp [skew_Sample.j0] at h
  | k + 1 => by
    have ih0 := skew_Sample.mono_l k
    · intro y0 y1
      unfold skew_Sample.j0
      have m0 := @skew_places.mono
      exact mB
theorem skew_Sample.mono : ∀ a0 k, LeO (skew_Sample.f k a0) (skew_Sample.f (k + 1) a0) := by
  intro a0 k
  have ih0 := skew_Sample.mono_l k
  unfold skew_Sample.f
  have m0 := @skew_places.mono
  exact mB
set_option maxHeartbeats 8000000 in
set_option maxRecDepth 100000 in
theorem skew_Sample.calls (k : Nat) (a0 : Int) (r : List Int) (w : World) (h : skew_Sample.f k a0 = some r) :
    Calls Tryz.prog 145 #[.int .i64 a0] w fun e w' => ∃ v0_ : Value, e = .returned (v0_) ∧ Kd.R (Kd.int .i64) 3 w' w.heap.size (fun _ => True) v0_ r ∧ Below w.heap.size w w' := by
 have HB := Aside0.mk (Below.refl w.heap.size w)
 have H := h
 clear h
 unfold skew_Sample.f at H
 have HC2 := Aside0.mk H
 clear H
 go_enter Tryz.func145, Tryz.ntmps145
 go_upto_region 1 with (fail)
 go_cut [8] (fun v8 wc => ∃ (kq : Nat) (x8_1 : Bool), v8 = .bool x8_1 ∧ Aside0 (skew_Sample.j0 kq a0 x8_1 = some r) ∧ Aside0 (kq ≤ k) ∧ Aside0 (Below w.heap.size w wc))
 case first =>
  have H := HC2.out
  clear HC2
  rcases ifC H with ⟨c3b0, H⟩ | ⟨c3b0, H⟩
  ·(first | rw [c3b0] | (simp only [i64_w, i32_w]; rw [c3b0]) | skip)
   have H' := Aside0.mk H
   clear H
   go_wp2
   go_meet
   case rel => exact ⟨_, (true), sD, H', ⟨by first | omega | exact Nat.le_refl _⟩, ⟨uB⟩⟩
  ·(first | rw [c3b0] | (simp only [i64_w, i32_w]; rw [c3b0]) | skip)
   have H' := Aside0.mk H
   clear H
   go_wp2
   go_meet
   case rel => exact ⟨_, (decide (a0 > 100000)), sD, H', ⟨by first | omega | exact Nat.le_refl _⟩, ⟨uB⟩⟩
 case rest =>
  clear HC2
  try clear c1
  try clear p2
  try clear c3
  try clear c3b0
  obtain ⟨kq, x8_1, rfl, HA, HJ1, HB⟩ := hcut
  cases kq with
  | zero => exact absurd HA.out (by simp [skew_Sample.j0])
  | succ kj1 =>
   have H := HA.out
   clear HA
   simp only [skew_Sample.j0] at H
   by_cases c4 : x8_1 = true
   ·subst c4
    rw [if_pos rfl] at H
    obtain rfl := Option.some.inj H
    go_wp2
    go_ret
    exact ⟨_, eR, nL, uB⟩
   ·replace c4 := Bool.eq_false_iff.mpr c4
    subst c4
    rw [if_neg (by decide)] at H
    obtain ⟨t300, A5, H⟩ := bdS H
    try dsimp only at H
    obtain ⟨t303, A6, H⟩ := bdS H
    try dsimp only at H
    obtain ⟨c7, H⟩ := ifP H
    have LMc7 := Aside0.mk c7
    clear c7
    generalize hy306 : (t300 ++ t303 : List Int) = y306 at H
    try simp only [Option.bind_some] at H
    have Ny306 := Aside0.mk hy306.symm
    clear hy306
    obtain rfl := Option.some.inj H
    go_wp2_with (first | ((with_reducible refine gate_callee (f := 129) rfl ?_); refine goesL_ (some 10) rfl rfl Tryz.func129 (by kernel_rfl) rfl #[.int .i64 a0, .int .i64 1] rfl aE ?_; (with_reducible refine (skew_places.calls kj1 a0 1 t300 _ A5.out).mono ?_); rintro e w8 ⟨v301, rfl, ho0, hb⟩; refine ⟨_, rfl, ?_⟩; have n0_ := Aside0.mk (Kd.R_lower ho0 (below_size uB)); have n1_ := Aside0.mk (below_step uB hb); clear HB; have HO302 := n0_; have HB := n1_; clear n0_ n1_; (try clear hb); (try clear hb2); (try clear hk); (try clear hi); (try clear ho0)) | ((with_reducible refine gate_callee (f := 129) rfl ?_); refine goesL_ (some 12) rfl rfl Tryz.func129 (by kernel_rfl) rfl #[.int .i64 a0, .int .i64 2] rfl aE ?_; (with_reducible refine (skew_places.calls kj1 a0 2 t303 _ A6.out).mono ?_); rintro e w9 ⟨v304, rfl, ho0, hb⟩; refine ⟨_, rfl, ?_⟩; have n0_ := Aside0.mk (Kd.R_elder' (uR HO302.out) (Kd.R_base ho0) hb); have n1_ := Aside0.mk (Kd.R_lower (Kd.R_new' ho0 (Kd.R_lt (uR HO302.out))) (below_size uB)); have n2_ := Aside0.mk (below_step uB hb); clear HO302; clear HB; have HO302 := n0_; have HO305 := n1_; have HB := n2_; clear n0_ n1_ n2_; (try clear hb); (try clear hb2); (try clear hk); (try clear hi); (try clear ho0); obtain ⟨Ao11, co11, eo11⟩ := Kd.R_slice HO305.out; subst eo11) | ((with_reducible refine gate_builtin (b := .append) (xs := #[.tmp 10, .tmp 12]) rfl ?_); at_builtin; refine Kd.R_append_rows (Kd.int .i64) (w0 := w) w.heap.size rfl (.tmp 10) (.tmp 12) 29 3 (.int .i64 0) 8 rfl Tryz.underlying29 info3 rfl (by decide) (by omega) v301 t300 t303 _ _ _ (fun k_ => some k_ ≠ (.slice Ao11 t303.length co11 : Value).ownBlock) (fun _ => False) rfl rfl ?aO ?aR (fun _ _ h => h) (fun _ h => h.elim) ?aF ?aB ?aS ?aL ?_; (case aR => repeat (first | exact (Kd.R_reads' HO305.out).2.2 | (with_reducible refine Kd.C_alloc ?_ _) | (with_reducible refine Kd.C_drewN ?_ _) | (with_reducible refine Kd.C_drew ?_))); (case aB => exact uB); (case aF => exact (fun k_ hk => Kd.fresh' (Kd.R_lt (uR HO305.out)) k_ hk)); (case aO => exact (by (with_reducible repeat (first | apply Kd.R_alloc | apply Kd.R_drewN | apply Kd.R_drew)); exact Kd.R_mono HO302.out (fun _ hk => hk.2))); (case aS => exact (below_size uB)); (case aL => have := LMc7.out; omega); intro v307 w10 ho hb hg hat; rw [← Ny306.out] at ho; have n0_ := Aside0.mk (Kd.R_after (ok := (fun _ => True)) (uR HO305.out) hg hat); have n1_ := Aside0.mk (hb); have n2_ := Aside0.mk (ho); clear HO305; clear HB; clear HO302; have HO305 := n0_; have HB := n1_; have HO308 := n2_; clear n0_ n1_ n2_; clear ho hb hg hat))
    go_ret
    exact ⟨_, eR, by (with_reducible repeat (first | apply Kd.R_alloc | apply Kd.R_drewN | apply Kd.R_drew)); exact Kd.R_mono HO308.out (fun _ hk => trivial), uB⟩
def skew_alike.l0 : Nat → List Int → Int → Int → Int → Option (Bool)
  | 0, _, _, _, _ => none
  | k + 1, x0, x1, x2, x8 => if x8 < 3 then ((skew_key.f x0 (wrap64 (x1 + x8))).bind fun t309 => ((skew_key.f x0 (wrap64 (x2 + x8))).bind fun t310 => (if t309 = t310 then (skew_alike.l0 k x0 x1 x2 (wrap64 (x8 + 1))) else (some false)))) else (some true)
def skew_alike.f (k : Nat) (l0 : List Int) (a1 : Int) (a2 : Int) : Option (Bool) := skew_alike.l0 k l0 a1 a2 0
theorem skew_alike.mono_l : ∀ k, (∀ y0 y1 y2 y3, LeO (skew_alike.l0 k y0 y1 y2 y3) (skew_alike.l0 (k + 1) y0 y1 y2 y3))
  | 0 => fun _ _ _ _ r h => by simp [skew_alike.l0] at h
  | k + 1 => by
    have ih0 := skew_alike.mono_l k
    · intro y0 y1 y2 y3
      unfold skew_alike.l0
      exact mB
theorem skew_alike.mono : ∀ a0 a1 a2 k, LeO (skew_alike.f k a0 a1 a2) (skew_alike.f (k + 1) a0 a1 a2) := by
  intro a0 a1 a2 k
  have ih0 := skew_alike.mono_l k
  unfold skew_alike.f
  exact mB
set_option maxHeartbeats 8000000 in
set_option maxRecDepth 100000 in
theorem skew_alike.calls (k : Nat) (A0 : Option Addr) (c0 : Nat) (l0 : List Int) (a1 : Int) (a2 : Int) (r : Bool) (w : World) (hr0 : Kd.C (Kd.int .i64) w A0 l0.length l0) (hc0 : l0.length ≤ c0) (h : skew_alike.f k l0 a1 a2 = some r) :
    Calls Tryz.prog 146 #[.slice A0 l0.length c0, .int .i64 a1, .int .i64 a2] w fun e w' => e = .returned (.bool r) ∧ Drawn0 w w' := by
 have HR0 := Aside0.mk hr0
 have HC0 := Aside0.mk hc0
 clear hr0 hc0
 have H := h
 clear h
 unfold skew_alike.f at H
 have H' := Aside0.mk H
 clear H
 go_enter Tryz.func146, Tryz.ntmps146
 go_wp2
 go_loopg [8] k (fun kq v8 w' => ∃ (x8_1 : Int), v8 = .int .i64 x8_1 ∧ Aside0 (skew_alike.l0 kq l0 a1 a2 x8_1 = some r) ∧ Aside0 (kq ≤ k) ∧ Drawn0 w w')
 case atStart => exact ⟨(0), sD, H', ⟨Nat.le_refl _⟩, dD⟩
 case round =>
  clear H'
  try clear c1
  try clear p2
  obtain ⟨x8_1, rfl, HA, HK1, ⟨m1, rfl⟩⟩ := hrel
  cases gk with
  | zero => exact absurd HA.out (by simp [skew_alike.l0])
  | succ k1 =>
   have H := HA.out
   clear HA
   simp only [skew_alike.l0] at H
   rcases ifC H with ⟨c4b0, H⟩ | ⟨c4b0, H⟩
   ·obtain ⟨t309, A5, H⟩ := bdS H
    try dsimp only at H
    obtain ⟨t310, A6, H⟩ := bdS H
    try dsimp only at H
    by_cases c7 : t309 = t310
    ·rw [if_pos c7] at H
     have c7b0 : (t309 == t310) = true := beq_iff_eq.mpr c7
     have c7b1 : (t309 != t310) = false := bne_eq_false_iff_eq.mpr c7
     clear c7
     have H' := Aside0.mk H
     clear H
     go_wp2_with (first | ((with_reducible refine gate_callee (f := 147) rfl ?_); refine goesL_ (some 15) rfl rfl Tryz.func147 (by kernel_rfl) rfl #[.slice A0 l0.length c0, .int .i64 (wrap64 (a1 + x8_1))] rfl aE ?_; (with_reducible refine (skew_key.calls _ _ l0 (wrap64 (a1 + x8_1)) t309 _ ?side1 ?side2 A5.out).mono ?_); (case side1 => exact uC HR0.out); (case side2 => exact HC0.out); rintro e w' ⟨rfl, ⟨nd, rfl⟩⟩; refine ⟨_, rfl, ?_⟩) | ((with_reducible refine gate_callee (f := 147) rfl ?_); refine goesL_ (some 20) rfl rfl Tryz.func147 (by kernel_rfl) rfl #[.slice A0 l0.length c0, .int .i64 (wrap64 (a2 + x8_1))] rfl aE ?_; (with_reducible refine (skew_key.calls _ _ l0 (wrap64 (a2 + x8_1)) t310 _ ?side1 ?side2 A6.out).mono ?_); (case side1 => exact uC HR0.out); (case side2 => exact HC0.out); rintro e w' ⟨rfl, ⟨nd, rfl⟩⟩; refine ⟨_, rfl, ?_⟩))
     go_roundg k1
     case measure => have := HK1.out; omega
     case rel => exact ⟨(wrap64 (x8_1 + 1)), sD, H', ⟨by have := HK1.out; omega⟩, dD⟩
    ·rw [if_neg c7] at H
     have c7b0 : (t309 == t310) = false := beq_eq_false_iff_ne.mpr c7
     have c7b1 : (t309 != t310) = true := bne_iff_ne.mpr c7
     obtain rfl := Option.some.inj H
     go_wp2_with (first | ((with_reducible refine gate_callee (f := 147) rfl ?_); refine goesL_ (some 15) rfl rfl Tryz.func147 (by kernel_rfl) rfl #[.slice A0 l0.length c0, .int .i64 (wrap64 (a1 + x8_1))] rfl aE ?_; (with_reducible refine (skew_key.calls _ _ l0 (wrap64 (a1 + x8_1)) t309 _ ?side1 ?side2 A5.out).mono ?_); (case side1 => exact uC HR0.out); (case side2 => exact HC0.out); rintro e w' ⟨rfl, ⟨nd, rfl⟩⟩; refine ⟨_, rfl, ?_⟩) | ((with_reducible refine gate_callee (f := 147) rfl ?_); refine goesL_ (some 20) rfl rfl Tryz.func147 (by kernel_rfl) rfl #[.slice A0 l0.length c0, .int .i64 (wrap64 (a2 + x8_1))] rfl aE ?_; (with_reducible refine (skew_key.calls _ _ l0 (wrap64 (a2 + x8_1)) t310 _ ?side1 ?side2 A6.out).mono ?_); (case side1 => exact uC HR0.out); (case side2 => exact HC0.out); rintro e w' ⟨rfl, ⟨nd, rfl⟩⟩; refine ⟨_, rfl, ?_⟩))
     go_ret
     exact ⟨sD, dD⟩
   ·obtain rfl := Option.some.inj H
    go_wp2
    go_ret
    exact ⟨sD, dD⟩
end Go.Proofs.YtbbpplnnegdenaaGreat.PTopPipe
end
section
namespace Go.Proofs.YtbbpplnnegdenaaGreat.PTopPipe
open Go.RowKit Go.Proofs.YtbbpplnnegdenaaGreatW.PrintWords Go.Proofs.YtbbpplnnegdenaaGreatW.PrintLast Go.Proofs.YtbbpplnnegdenaaGreatW.PrintMore
attribute [local go_sem] max2_int min2_int max_two min_two max_three min_three max_four min_four
set_option linter.unusedVariables false
set_option linter.unusedSimpArgs false
mutual
def skew_ranked.l0 (sf : List Int → Int → Option (List Int)) : Nat → List Int → Int → List Int → List Int → Int → Option (List Int × List Int)
  | 0, _, _, _, _, _ => none
  | k + 1, x0, x1, x4, x6, x7 => if x7 ≥ 0 then ((skew_keys.f k x0 x7).bind fun t314 => ((bucket_Pass.f k x4 t314 (wrap64 (x1 + 1))).bind fun bt317 => (skew_ranked.l0 sf k x0 x1 bt317.1 x6 (wrap64 (x7 - 1))))) else (if 0 ≤ (wrap64 ((x0.length : Int) + 3)) then (if (wrap64 ((x0.length : Int) + 3) : Int).toNat ≤ 35184372088832 then (skew_ranked.l1 sf k x0 x4 (List.replicate (wrap64 ((x0.length : Int) + 3) : Int).toNat 0) x6 0 x4 (x4.length : Int) 0) else (none)) else (none))
def skew_ranked.l1 (sf : List Int → Int → Option (List Int)) : Nat → List Int → List Int → List Int → List Int → Int → List Int → Int → Int → Option (List Int × List Int)
  | 0, _, _, _, _, _, _, _, _ => none
  | k + 1, x0, x4, x5, x6, x8, x43, x44, x45 => if x45 < x44 then (if 0 ≤ x45 then (if x45 < (x43.length : Int) then (if x45 = 0 then (if 0 ≤ (rd x43 x45) then (if (rd x43 x45) < (x5.length : Int) then (skew_ranked.l1 sf k x0 x4 (x5.set ((rd x43 x45) : Int).toNat (wrap64 (x8 + 1))) x6 (wrap64 (x8 + 1)) x43 x44 (wrap64 (x45 + 1))) else (none)) else (none)) else (if 0 ≤ (wrap64 (x45 - 1)) then (if (wrap64 (x45 - 1)) < (x4.length : Int) then ((skew_alike.f k x0 (rd x4 (wrap64 (x45 - 1))) (rd x43 x45)).bind fun t327 => (if t327 = true then (if 0 ≤ (rd x43 x45) then (if (rd x43 x45) < (x5.length : Int) then (skew_ranked.l1 sf k x0 x4 (x5.set ((rd x43 x45) : Int).toNat x8) x6 x8 x43 x44 (wrap64 (x45 + 1))) else (none)) else (none)) else (if 0 ≤ (rd x43 x45) then (if (rd x43 x45) < (x5.length : Int) then (skew_ranked.l1 sf k x0 x4 (x5.set ((rd x43 x45) : Int).toNat (wrap64 (x8 + 1))) x6 (wrap64 (x8 + 1)) x43 x44 (wrap64 (x45 + 1))) else (none)) else (none)))) else (none)) else (none))) else (none)) else (none)) else (if x8 = (x6.length : Int) then (some (x4, x5)) else ((skew_places.f k (x0.length : Int) 1).bind fun t330 => (skew_ranked.l2 sf k x0 x5 x6 x8 t330 ([] : List Int) t330 (t330.length : Int) 0)))
def skew_ranked.l2 (sf : List Int → Int → Option (List Int)) : Nat → List Int → List Int → List Int → Int → List Int → List Int → List Int → Int → Int → Option (List Int × List Int)
  | 0, _, _, _, _, _, _, _, _, _ => none
  | k + 1, x0, x5, x6, x8, x11, x12, x79, x80, x81 => if x81 < x80 then (if 0 ≤ x81 then (if x81 < (x79.length : Int) then (if 0 ≤ (rd x79 x81) then (if (rd x79 x81) < (x5.length : Int) then (if x12.length < 17592186044416 then (skew_ranked.l2 sf k x0 x5 x6 x8 x11 (x12 ++ [rd x5 (rd x79 x81)]) x79 x80 (wrap64 (x81 + 1))) else (none)) else (none)) else (none)) else (none)) else (none)) else (if x12.length < 17592186044416 then ((skew_places.f k (x0.length : Int) 2).bind fun t341 => (skew_ranked.l3 sf k x5 x6 x8 x11 (x12 ++ [0]) t341 (t341.length : Int) 0)) else (none))
def skew_ranked.l3 (sf : List Int → Int → Option (List Int)) : Nat → List Int → List Int → Int → List Int → List Int → List Int → Int → Int → Option (List Int × List Int)
  | 0, _, _, _, _, _, _, _, _ => none
  | k + 1, x5, x6, x8, x11, x12, x98, x99, x100 => if x100 < x99 then (if 0 ≤ x100 then (if x100 < (x98.length : Int) then (if 0 ≤ (rd x98 x100) then (if (rd x98 x100) < (x5.length : Int) then (if x12.length < 17592186044416 then (skew_ranked.l3 sf k x5 x6 x8 x11 (x12 ++ [rd x5 (rd x98 x100)]) x98 x99 (wrap64 (x100 + 1))) else (none)) else (none)) else (none)) else (none)) else (none)) else ((sf x12 (wrap64 (x8 + 1))).bind fun t349 => (skew_ranked.l4 sf k ([] : List Int) x5 x6 x11 t349 (t349.length : Int) 0))
def skew_ranked.l4 (sf : List Int → Int → Option (List Int)) : Nat → List Int → List Int → List Int → List Int → List Int → Int → Int → Option (List Int × List Int)
  | 0, _, _, _, _, _, _, _ => none
  | k + 1, x4, x5, x6, x11, x115, x116, x117 => if x117 < x116 then (if 0 ≤ x117 then (if x117 < (x115.length : Int) then (if (rd x115 x117) < (x11.length : Int) then (if 0 ≤ (rd x115 x117) then (if x4.length < 17592186044416 then (skew_ranked.l4 sf k (x4 ++ [rd x11 (rd x115 x117)]) x5 x6 x11 x115 x116 (wrap64 (x117 + 1))) else (none)) else (none)) else (if (rd x115 x117) > (x11.length : Int) then (if 0 ≤ (wrap64 ((rd x115 x117) - 1)) then (if (wrap64 ((rd x115 x117) - 1)) < (x6.length : Int) then (if x4.length < 17592186044416 then (skew_ranked.l4 sf k (x4 ++ [rd x6 (wrap64 ((rd x115 x117) - 1))]) x5 x6 x11 x115 x116 (wrap64 (x117 + 1))) else (none)) else (none)) else (none)) else (skew_ranked.l4 sf k x4 x5 x6 x11 x115 x116 (wrap64 (x117 + 1))))) else (none)) else (none)) else (skew_ranked.l5 sf k x4 x5 x4 (x4.length : Int) 0)
def skew_ranked.l5 (sf : List Int → Int → Option (List Int)) : Nat → List Int → List Int → List Int → Int → Int → Option (List Int × List Int)
  | 0, _, _, _, _, _ => none
  | k + 1, x4, x5, x147, x148, x149 => if x149 < x148 then (if 0 ≤ x149 then (if x149 < (x147.length : Int) then (if 0 ≤ (rd x147 x149) then (if (rd x147 x149) < (x5.length : Int) then (skew_ranked.l5 sf k x4 (x5.set ((rd x147 x149) : Int).toNat (wrap64 (x149 + 1))) x147 x148 (wrap64 (x149 + 1))) else (none)) else (none)) else (none)) else (none)) else (some (x4, x5))
end
def skew_ranked.f (sf : List Int → Int → Option (List Int)) (k : Nat) (l0 : List Int) (a1 : Int) : Option (List Int × List Int) := (skew_Sample.f k (l0.length : Int)).bind fun t311 => (skew_ranked.l0 sf k l0 a1 t311 t311 2)
theorem skew_ranked.mono_l (sf sf' : List Int → Int → Option (List Int)) (hm : ∀ z0 z1, LeO (sf z0 z1) (sf' z0 z1)) : ∀ k, (∀ y0 y1 y2 y3 y4, LeO (skew_ranked.l0 sf k y0 y1 y2 y3 y4) (skew_ranked.l0 sf' (k + 1) y0 y1 y2 y3 y4)) ∧ (∀ y0 y1 y2 y3 y4 y5 y6 y7, LeO (skew_ranked.l1 sf k y0 y1 y2 y3 y4 y5 y6 y7) (skew_ranked.l1 sf' (k + 1) y0 y1 y2 y3 y4 y5 y6 y7)) ∧ (∀ y0 y1 y2 y3 y4 y5 y6 y7 y8, LeO (skew_ranked.l2 sf k y0 y1 y2 y3 y4 y5 y6 y7 y8) (skew_ranked.l2 sf' (k + 1) y0 y1 y2 y3 y4 y5 y6 y7 y8)) ∧ (∀ y0 y1 y2 y3 y4 y5 y6 y7, LeO (skew_ranked.l3 sf k y0 y1 y2 y3 y4 y5 y6 y7) (skew_ranked.l3 sf' (k + 1) y0 y1 y2 y3 y4 y5 y6 y7)) ∧ (∀ y0 y1 y2 y3 y4 y5 y6, LeO (skew_ranked.l4 sf k y0 y1 y2 y3 y4 y5 y6) (skew_ranked.l4 sf' (k + 1) y0 y1 y2 y3 y4 y5 y6)) ∧ (∀ y0 y1 y2 y3 y4, LeO (skew_ranked.l5 sf k y0 y1 y2 y3 y4) (skew_ranked.l5 sf' (k + 1) y0 y1 y2 y3 y4))
  | 0 => ⟨fun _ _ _ _ _ r h => by simp [skew_ranked.l0] at h, fun _ _ _ _ _ _ _ _ r h => by simp [skew_ranked.l1] at h, fun _ _ _ _ _ _ _ _ _ r h => by simp [skew_ranked.l2] at h, fun _ _ _ _ _ _ _ _ r h => by simp [skew_ranked.l3] at h, fun _ _ _ _ _ _ _ r h => by simp [skew_ranked.l4] at h, fun _ _ _ _ _ r h => by simp [skew_ranked.l5] at h⟩
  | k + 1 => by
    obtain ⟨ih0, ih1, ih2, ih3, ih4, ih5⟩ := skew_ranked.mono_l sf sf' hm k
    refine ⟨?_, ?_, ?_, ?_, ?_, ?_⟩
    · intro y0 y1 y2 y3 y4
      unfold skew_ranked.l0
      have m0 := @bucket_Pass.mono
      have m1 := @skew_Sample.mono
      have m2 := @skew_alike.mono
      have m3 := @skew_keys.mono
      have m4 := @skew_places.mono
      have m5 := @hm
      exact mB
    · intro y0 y1 y2 y3 y4 y5 y6 y7
      unfold skew_ranked.l1
      have m0 := @bucket_Pass.mono
      have m1 := @skew_Sample.mono
      have m2 := @skew_alike.mono
      have m3 := @skew_keys.mono
      have m4 := @skew_places.mono
      have m5 := @hm
      exact mB
    · intro y0 y1 y2 y3 y4 y5 y6 y7 y8
      unfold skew_ranked.l2
      have m0 := @bucket_Pass.mono
      have m1 := @skew_Sample.mono
      have m2 := @skew_alike.mono
      have m3 := @skew_keys.mono
      have m4 := @skew_places.mono
      have m5 := @hm
      exact mB
    · intro y0 y1 y2 y3 y4 y5 y6 y7
      unfold skew_ranked.l3
      have m0 := @bucket_Pass.mono
      have m1 := @skew_Sample.mono
      have m2 := @skew_alike.mono
      have m3 := @skew_keys.mono
      have m4 := @skew_places.mono
      have m5 := @hm
      exact mB
    · intro y0 y1 y2 y3 y4 y5 y6
      unfold skew_ranked.l4
      have m0 := @bucket_Pass.mono
      have m1 := @skew_Sample.mono
      have m2 := @skew_alike.mono
      have m3 := @skew_keys.mono
      have m4 := @skew_places.mono
      have m5 := @hm
      exact mB
    · intro y0 y1 y2 y3 y4
      unfold skew_ranked.l5
      have m0 := @bucket_Pass.mono
      have m1 := @skew_Sample.mono
      have m2 := @skew_alike.mono
      have m3 := @skew_keys.mono
      have m4 := @skew_places.mono
      have m5 := @hm
      exact mB
theorem skew_ranked.mono (sf sf' : List Int → Int → Option (List Int)) (hm : ∀ z0 z1, LeO (sf z0 z1) (sf' z0 z1)) : ∀ a0 a1 k, LeO (skew_ranked.f sf k a0 a1) (skew_ranked.f sf' (k + 1) a0 a1) := by
  intro a0 a1 k
  obtain ⟨ih0, ih1, ih2, ih3, ih4, ih5⟩ := skew_ranked.mono_l sf sf' hm k
  unfold skew_ranked.f
  have m0 := @bucket_Pass.mono
  have m1 := @skew_Sample.mono
  have m2 := @skew_alike.mono
  have m3 := @skew_keys.mono
  have m4 := @skew_places.mono
  have m5 := @hm
  exact mB
set_option maxHeartbeats 8000000 in
set_option maxRecDepth 100000 in
theorem skew_ranked.calls (sf : List Int → Int → Option (List Int)) (hsf : ∀ (A0 : Option Addr) (c0 : Nat) (l0 : List Int) (a1 : Int) (r : List Int) (w : World) (hr0 : Kd.C (Kd.int .i64) w A0 l0.length l0) (hc0 : l0.length ≤ c0) (h : sf l0 a1 = some r),
    Calls Tryz.prog 107 #[.slice A0 l0.length c0, .int .i64 a1] w fun e w' => ∃ v0_ : Value, e = .returned (v0_) ∧ Kd.R (Kd.int .i64) 3 w' w.heap.size (fun _ => True) v0_ r ∧ Below w.heap.size w w') (k : Nat) (A0 : Option Addr) (c0 : Nat) (l0 : List Int) (a1 : Int) (r1 : List Int) (r2 : List Int) (w : World) (hr0 : Kd.C (Kd.int .i64) w A0 l0.length l0) (hc0 : l0.length ≤ c0) (h : skew_ranked.f sf k l0 a1 = some (r1, r2)) :
    Calls Tryz.prog 130 #[.slice A0 l0.length c0, .int .i64 a1] w fun e w' => ∃ v0_ v1_ : Value, e = .returned (.tuple #[v0_, v1_]) ∧ Kd.R (Kd.int .i64) 3 w' w.heap.size (fun k_ => some k_ ≠ (v1_ : Value).ownBlock) v0_ r1 ∧ Kd.R (Kd.int .i64) 3 w' w.heap.size (fun k_ => some k_ ≠ (v0_ : Value).ownBlock) v1_ r2 ∧ Below w.heap.size w w' := by
 have HR0 := Aside0.mk hr0
 have HC0 := Aside0.mk hc0
 clear hr0 hc0
 have HB := Aside0.mk (Below.refl w.heap.size w)
 have H := h
 clear h
 unfold skew_ranked.f at H
 obtain ⟨t311, A3, H⟩ := bdS H
 try dsimp only at H
 have H' := Aside0.mk H
 clear H
 go_enter Tryz.func130, Tryz.ntmps130
 go_wp2_with (first | ((with_reducible refine gate_callee (f := 145) rfl ?_); refine goesL_ (some 23) rfl rfl Tryz.func145 (by kernel_rfl) rfl #[.int .i64 (l0.length : Int)] rfl aE ?_; (with_reducible refine (skew_Sample.calls k (l0.length : Int) t311 _ A3.out).mono ?_); rintro e w4 ⟨v312, rfl, ho0, hb⟩; refine ⟨_, rfl, ?_⟩; have n0_ := Aside0.mk (Kd.R_lower ho0 (below_size uB)); have n1_ := Aside0.mk (below_step uB hb); clear HB; have HO313 := n0_; have HB := n1_; clear n0_ n1_; (try clear hb); (try clear hb2); (try clear hk); (try clear hi); (try clear ho0)))
 go_loopg [4, 7] k (fun kq v4 v7 w' => ∃ (x4_1 : List Int) (x7_1 : Int), v7 = .int .i64 x7_1 ∧ Aside0 (skew_ranked.l0 sf kq l0 a1 x4_1 t311 x7_1 = some (r1, r2)) ∧ Aside0 (kq ≤ k) ∧ Aside0 (Kd.R (Kd.int .i64) 3 w' w.heap.size (fun _ => True) v4 x4_1) ∧ Aside0 (Kd.R (Kd.int .i64) 3 w' w.heap.size (fun _ => True) v312 t311) ∧ Aside0 (Below w.heap.size w w'))
 case atStart => exact ⟨(t311), (2), sD, H', ⟨Nat.le_refl _⟩, ⟨uR HO313.out⟩, ⟨uR HO313.out⟩, ⟨uB⟩⟩
 case round =>
  clear H'
  try clear c1
  try clear p2
  obtain ⟨x4_1, x7_1, rfl, HA, HK1, HO_4, HO_6, HB⟩ := hrel
  cases gk with
  | zero => exact absurd HA.out (by simp [skew_ranked.l0])
  | succ k1 =>
   have H := HA.out
   clear HA
   simp only [skew_ranked.l0] at H
   rcases ifG H with ⟨c5b0, H⟩ | ⟨c5b0, H⟩
   ·obtain ⟨t314, A6, H⟩ := bdS H
    try dsimp only at H
    obtain ⟨⟨t317, t318⟩, A7, H⟩ := bdS H
    try dsimp only at H
    have H' := Aside0.mk H
    clear H
    go_wp2_with (first | ((with_reducible refine gate_callee (f := 131) rfl ?_); refine goesL_ (some 33) rfl rfl Tryz.func131 (by kernel_rfl) rfl #[.slice A0 l0.length c0, .int .i64 x7_1] rfl aE ?_; (with_reducible refine (skew_keys.calls k1 _ _ l0 x7_1 t314 _ ?side1 ?side2 A6.out).mono ?_); (case side1 => exact uC (Kd.C_below HR0.out HB.out)); (case side2 => exact HC0.out); rintro e w8 ⟨v315, rfl, ho0, hb⟩; refine ⟨_, rfl, ?_⟩; have n0_ := Aside0.mk (Kd.R_elder' (uR HO_4.out) (Kd.R_base ho0) hb); have n1_ := Aside0.mk (Kd.R_elder' (uR HO_6.out) (Kd.R_base ho0) hb); have n2_ := Aside0.mk (Kd.R_lower (Kd.R_new' (Kd.R_new' ho0 (Kd.R_lt (uR HO_4.out))) (Kd.R_lt (uR HO_6.out))) (below_size uB)); have n3_ := Aside0.mk (below_step uB hb); clear HO_4; clear HO_6; clear HB; have HO_4 := n0_; have HO_6 := n1_; have HO316 := n2_; have HB := n3_; clear n0_ n1_ n2_ n3_; (try clear hb); (try clear hb2); (try clear hk); (try clear hi); (try clear ho0); obtain ⟨Ao9, co9, eo9⟩ := Kd.R_slice HO_4.out; subst eo9; obtain ⟨Ao10, co10, eo10⟩ := Kd.R_slice HO316.out; subst eo10) | ((with_reducible refine gate_callee (f := 71) rfl ?_); refine goesL_ (some 36) rfl rfl Tryz.func71 (by kernel_rfl) rfl #[.slice Ao9 x4_1.length co9, .slice Ao10 t314.length co10, .int .i64 (wrap64 (a1 + 1))] rfl aE ?_; (with_reducible refine (bucket_Pass.calls k1 _ _ x4_1 _ _ t314 (wrap64 (a1 + 1)) t317 t318 _ ?side1 ?side2 ?side3 ?side4 A7.out).mono ?_); (case side1 => exact uC (Kd.R_reads' HO_4.out).2.2); (case side2 => exact (Kd.R_reads' HO_4.out).2.1); (case side3 => exact uC (Kd.R_reads' HO316.out).2.2); (case side4 => exact (Kd.R_reads' HO316.out).2.1); rintro e w11 ⟨v319, rfl, ho0, hb⟩; refine ⟨_, rfl, ?_⟩; have n0_ := Aside0.mk (Kd.R_elder' (uR HO_4.out) (Kd.R_base ho0) hb); have n1_ := Aside0.mk (Kd.R_elder' (uR HO_6.out) (Kd.R_base ho0) hb); have n2_ := Aside0.mk (Kd.R_elder' (uR HO316.out) (Kd.R_base ho0) hb); have n3_ := Aside0.mk (Kd.R_lower (Kd.R_new' (Kd.R_new' (Kd.R_new' ho0 (Kd.R_lt (uR HO_4.out))) (Kd.R_lt (uR HO_6.out))) (Kd.R_lt (uR HO316.out))) (below_size uB)); have n4_ := Aside0.mk (below_step uB hb); clear HO_4; clear HO_6; clear HO316; clear HB; have HO_4 := n0_; have HO_6 := n1_; have HO316 := n2_; have HO320 := n3_; have HB := n4_; clear n0_ n1_ n2_ n3_ n4_; (try clear hb); (try clear hb2); (try clear hk); (try clear hi); (try clear ho0)))
    go_roundg k1
    case measure => have := HK1.out; omega
    case rel => exact ⟨(t317), (wrap64 (x7_1 - 1)), sD, H', ⟨by have := HK1.out; omega⟩, ⟨by (with_reducible repeat (first | apply Kd.R_alloc | apply Kd.R_drewN | apply Kd.R_drew)); exact Kd.R_mono HO320.out (fun _ hk => trivial)⟩, ⟨by (with_reducible repeat (first | apply Kd.R_alloc | apply Kd.R_drewN | apply Kd.R_drew)); exact Kd.R_mono HO_6.out (fun _ hk => trivial)⟩, ⟨uB⟩⟩
   ·obtain ⟨ji12, hji12⟩ : ∃ j_ : Int, (wrap64 ((l0.length : Int) + 3)) = j_ := ⟨_, rfl⟩
    first | rw [hji12] at H | simp only [hji12] at H
    have hji12w : (IntKind.i64.wrap ((l0.length : Int) + 3)) = ji12 := (i64_w _).trans hji12
    obtain ⟨c13b0, c13b1, H⟩ := ifE H
    obtain ⟨c14b0, c14b1, H⟩ := ifE H
    generalize hy321 : (List.replicate (ji12 : Int).toNat 0 : List Int) = y321 at H
    try simp only [Option.bind_some] at H
    have Ny321 := Aside0.mk hy321.symm
    clear hy321
    have H' := Aside0.mk H
    clear H
    go_wp2_with (first | ((with_reducible refine gate_dst (N := 42) rfl ?_); refine Kd.R_make (Kd.int .i64) _ 3 rfl (N := 42) rfl 29 _ _ rfl ji12 rfl rfl Tryz.underlying29 (.int .i64 0) 8 info3 rfl (by decide) (by omega) 0 (ok := fun _ => True) (okp := fun _ => True) rfl (fun _ hk => hk) trivial dT (Nat.le_trans (Nat.mul_le_mul_right _ (dT : ji12.toNat ≤ 35184372088832)) (by omega)) (Below.refl _ _) (Nat.le_refl _) ?_; intro v322 w15 ho16 hb hg_ hnew_; clear hg_ hnew_; (first | rw [← Ny321.out] at ho16 | (simp only [Int.reduceToNat] at ho16; rw [← Ny321.out] at ho16)); have n0_ := Aside0.mk (Kd.R_elder' (uR HO_4.out) (Kd.R_base ho16) hb); have n1_ := Aside0.mk (Kd.R_elder' (uR HO_6.out) (Kd.R_base ho16) hb); have n2_ := Aside0.mk (Kd.R_lower (Kd.R_new' (Kd.R_new' ho16 (Kd.R_lt (uR HO_4.out))) (Kd.R_lt (uR HO_6.out))) (below_size uB)); have n3_ := Aside0.mk (below_step uB hb); clear HO_4; clear HO_6; clear HB; have HO_4 := n0_; have HO_6 := n1_; have HO323 := n2_; have HB := n3_; clear n0_ n1_ n2_ n3_; clear hb ho16; obtain ⟨Ao17, co17, eo17⟩ := Kd.R_slice HO_4.out; subst eo17))
    go_loopg [8, 45] k1 (fun kq v8 v45 w' => ∃ (x5_2 : List Int) (x8_2 : Int) (x45_2 : Int), v8 = .int .i64 x8_2 ∧ v45 = .int .i64 x45_2 ∧ Aside0 (skew_ranked.l1 sf kq l0 x4_1 x5_2 t311 x8_2 x4_1 (x4_1.length : Int) x45_2 = some (r1, r2)) ∧ Aside0 (kq ≤ k1) ∧ Aside0 (Kd.R (Kd.int .i64) 3 w' w.heap.size (fun k_ => some k_ ≠ (v322 : Value).ownBlock) (.slice Ao17 x4_1.length co17) x4_1) ∧ Aside0 (Kd.R (Kd.int .i64) 3 w' w.heap.size (fun k_ => some k_ ≠ ((.slice Ao17 x4_1.length co17) : Value).ownBlock ∧ some k_ ≠ (v312 : Value).ownBlock ∧ some k_ ≠ ((.slice Ao17 x4_1.length co17) : Value).ownBlock) v322 x5_2) ∧ Aside0 (Kd.R (Kd.int .i64) 3 w' w.heap.size (fun k_ => some k_ ≠ (v322 : Value).ownBlock) v312 t311) ∧ Aside0 (Kd.R (Kd.int .i64) 3 w' w.heap.size (fun k_ => some k_ ≠ (v322 : Value).ownBlock) (.slice Ao17 x4_1.length co17) x4_1) ∧ Aside0 (Below w.heap.size w w'))
    case atStart => exact ⟨(y321), (0), (0), sD, sD, H', ⟨Nat.le_refl _⟩, ⟨by (with_reducible repeat (first | apply Kd.R_alloc | apply Kd.R_drewN | apply Kd.R_drew)); exact Kd.R_mono HO_4.out (fun _ hk => hk.2)⟩, ⟨by (with_reducible repeat (first | apply Kd.R_alloc | apply Kd.R_drewN | apply Kd.R_drew)); exact Kd.R_mono HO323.out (fun _ hk => ⟨hk.1.2, ⟨hk.2, hk.1.2⟩⟩)⟩, ⟨by (with_reducible repeat (first | apply Kd.R_alloc | apply Kd.R_drewN | apply Kd.R_drew)); exact Kd.R_mono HO_6.out (fun _ hk => hk.2)⟩, ⟨by (with_reducible repeat (first | apply Kd.R_alloc | apply Kd.R_drewN | apply Kd.R_drew)); exact Kd.R_mono HO_4.out (fun _ hk => hk.2)⟩, ⟨uB⟩⟩
    case round =>
     clear H'
     try clear c1
     try clear p2
     try clear c5
     try clear c5b0
     try clear p6
     try clear c7
     try clear c13
     try clear c13b0
     try clear c13b1
     try clear c14
     try clear c14b0
     try clear c14b1
     try clear p2
     obtain ⟨x5_2, x8_2, x45_2, rfl, rfl, HA, HK2, HO_4, HO_5, HO_6, HO_43, HB⟩ := hrel
     cases gk with
     | zero => exact absurd HA.out (by simp [skew_ranked.l1])
     | succ k2 =>
      have H := HA.out
      clear HA
      simp only [skew_ranked.l1] at H
      rcases ifC H with ⟨c18b0, H⟩ | ⟨c18b0, H⟩
      ·obtain ⟨c19b0, c20b0, H⟩ := ifD2 H
       by_cases c21 : x45_2 = 0
       ·rw [if_pos c21] at H
        have c21b0 : (x45_2 == 0) = true := beq_iff_eq.mpr c21
        have c21b1 : (x45_2 != 0) = false := bne_eq_false_iff_eq.mpr c21
        clear c21
        obtain ⟨c22b0, c23b0, H⟩ := ifD2 H
        generalize hy325 : (x5_2.set ((rd x4_1 x45_2) : Int).toNat (wrap64 (x8_2 + 1)) : List Int) = y325 at H
        try simp only [Option.bind_some] at H
        have Ny325 := Aside0.mk hy325.symm
        clear hy325
        have H' := Aside0.mk H
        clear H
        obtain ⟨ad324, e324, hx324_0, p324, q324⟩ := rI (Kd.R_reads' HO_43.out).2.2 x45_2
        cases e324
        have p24 : 0 ≤ ((rd x4_1 x45_2) : Int) := dT
        have q24 : ((rd x4_1 x45_2) : Int) < ((x5_2.length : Int) : Int) := dT
        obtain ⟨go24, co24, eo24, gb24, gl24, cl24, HG24⟩ := Kd.R_form HO_5.out (by omega)
        (first | cases eo24 | (injection eo24 with ea_ en_ ec_; (first | subst ea_ | (injection ea_ with ea_; subst ea_)); subst ec_; clear en_))
        have GB24 := Aside0.mk gb24
        have GG24 := Aside0.mk HG24
        clear gb24 gl24 HG24
        obtain ⟨hx24_0, hf24_0⟩ := Kd.R_celln 0 HO_5.out ((rd x4_1 x45_2) : Int) p24 q24
        replace p24 := eq_true p24
        replace q24 := eq_true q24
        have HP25 := Kd.R_putg HO_5.out ((rd x4_1 x45_2) : Int) (wrap64 (x8_2 + 1))
        go_wp2_with (first | ((with_reducible refine gate_store (t := 3) (p := 68) rfl ?_); refine store_event (t := 3) (p := 68) (v := ?vo_w26) (w1 := (wr.setCell ⟨go24, ((rd x4_1 x45_2) : Int).toNat, none⟩ (.int .i64 (wrap64 (x8_2 + 1))))) ?hg ?ho ?hn ?hr ?_; (case ho => rfl); (case hg => rfl); (case hn => rfl); (case hr => first | (go_simp; done) | (go_simp; rfl)); intro w26 hw; have hg : wr.grownBy w26 (some go24) := (by rw [hw]; exact HP25.2); have hp_ : Kd.R (Kd.int .i64) 3 w26 w.heap.size (fun k_ => some k_ ≠ (.slice (some ad324) x4_1.length co17 : Value).ownBlock ∧ some k_ ≠ (v312 : Value).ownBlock ∧ some k_ ≠ (.slice (some ad324) x4_1.length co17 : Value).ownBlock) (.slice (some ⟨go24, 0, none⟩) x5_2.length co24) y325 := (by rw [hw, Ny325.out]; first | exact HP25.1 | exact Kd.R_mono (d := Kd.int .i64) HP25.1 (fun _ hk => ⟨hk.1, ⟨hk.2.2, hk.2.1⟩⟩)); clear HP25; have n0_ := Aside0.mk (Kd.R_after (v := (.slice (some ⟨go24, 0, none⟩) x5_2.length co24)) (v1 := (.slice (some ⟨go24, 0, none⟩) x5_2.length co24)) (ok := (fun _ => True)) (by (with_reducible repeat (first | apply Kd.R_alloc | apply Kd.R_drewN | apply Kd.R_drew)); exact Kd.R_mono HO_4.out (fun _ hk => ⟨trivial, hk⟩)) hg (.inl rfl)); have n1_ := Aside0.mk (hp_); have n2_ := Aside0.mk (Kd.R_after (v := (.slice (some ⟨go24, 0, none⟩) x5_2.length co24)) (v1 := (.slice (some ⟨go24, 0, none⟩) x5_2.length co24)) (ok := (fun _ => True)) (by (with_reducible repeat (first | apply Kd.R_alloc | apply Kd.R_drewN | apply Kd.R_drew)); exact Kd.R_mono HO_6.out (fun _ hk => ⟨trivial, hk⟩)) hg (.inl rfl)); have n3_ := Aside0.mk (Kd.R_after (v := (.slice (some ⟨go24, 0, none⟩) x5_2.length co24)) (v1 := (.slice (some ⟨go24, 0, none⟩) x5_2.length co24)) (ok := (fun _ => True)) (by (with_reducible repeat (first | apply Kd.R_alloc | apply Kd.R_drewN | apply Kd.R_drew)); exact Kd.R_mono HO_43.out (fun _ hk => ⟨trivial, hk⟩)) hg (.inl rfl)); have n4_ := Aside0.mk ((by rw [hw]; exact below_set (HB.out) GB24.out : Below w.heap.size w w26)); clear HO_4; clear HO_5; clear HO_6; clear HO_43; clear HB; have HO_4 := n0_; have HO_5 := n1_; have HO_6 := n2_; have HO_43 := n3_; have HB := n4_; clear n0_ n1_ n2_ n3_ n4_; clear hg hw hp_))
        go_roundg k2
        case measure => have := HK1.out; have := HK2.out; omega
        case rel => exact ⟨(y325), (wrap64 (x8_2 + 1)), (wrap64 (x45_2 + 1)), sD, sD, H', ⟨by have := HK1.out; have := HK2.out; omega⟩, ⟨by (with_reducible repeat (first | apply Kd.R_alloc | apply Kd.R_drewN | apply Kd.R_drew)); exact Kd.R_mono HO_4.out (fun _ hk => hk.2)⟩, ⟨uR HO_5.out⟩, ⟨by (with_reducible repeat (first | apply Kd.R_alloc | apply Kd.R_drewN | apply Kd.R_drew)); exact Kd.R_mono HO_6.out (fun _ hk => hk.2)⟩, ⟨by (with_reducible repeat (first | apply Kd.R_alloc | apply Kd.R_drewN | apply Kd.R_drew)); exact Kd.R_mono HO_43.out (fun _ hk => hk.2)⟩, ⟨uB⟩⟩
       ·rw [if_neg c21] at H
        have c21b0 : (x45_2 == 0) = false := beq_eq_false_iff_ne.mpr c21
        have c21b1 : (x45_2 != 0) = true := bne_iff_ne.mpr c21
        obtain ⟨ji27, hji27⟩ : ∃ j_ : Int, (wrap64 (x45_2 - 1)) = j_ := ⟨_, rfl⟩
        first | rw [hji27] at H | simp only [hji27] at H
        have hji27w : (IntKind.i64.wrap (x45_2 - 1)) = ji27 := (i64_w _).trans hji27
        obtain ⟨c28b0, c29b0, H⟩ := ifD2 H
        obtain ⟨t327, A30, H⟩ := bdS H
        try dsimp only at H
        by_cases c31 : t327 = true
        ·subst c31
         rw [if_pos rfl] at H
         obtain ⟨c32b0, c33b0, H⟩ := ifD2 H
         generalize hy328 : (x5_2.set ((rd x4_1 x45_2) : Int).toNat x8_2 : List Int) = y328 at H
         try simp only [Option.bind_some] at H
         have Ny328 := Aside0.mk hy328.symm
         clear hy328
         have H' := Aside0.mk H
         clear H
         obtain ⟨ad324, e324, hx324_0, p324, q324⟩ := rI (Kd.R_reads' HO_43.out).2.2 x45_2
         cases e324
         obtain ⟨ad326, e326, hx326_0, p326, q326⟩ := rI (Kd.R_reads' HO_4.out).2.2 (ji27)
         obtain rfl : ad324 = ad326 := (by injection e326)
         go_wp2_with (first | (go_at_call 146; (with_reducible refine (skew_alike.calls k2 _ _ l0 (rd x4_1 (ji27)) (rd x4_1 x45_2) true _ ?side1 ?side2 A30.out).mono ?_); (case side1 => exact uC (Kd.C_below HR0.out HB.out)); (case side2 => exact HC0.out); rintro e w' ⟨rfl, ⟨nd, rfl⟩⟩; (try (rw [drewN_self wr]; generalize hq_ : World.drewN wr _ = wr; have n0_ : Aside0 (Kd.R (Kd.int .i64) 3 wr w.heap.size (fun k_ => some k_ ≠ (v322 : Value).ownBlock) (.slice (some ad324) x4_1.length co17) x4_1) := ⟨by rw [← hq_]; exact (uR HO_4.out)⟩; have n1_ : Aside0 (Kd.R (Kd.int .i64) 3 wr w.heap.size (fun k_ => some k_ ≠ (v322 : Value).ownBlock) (.slice (some ad324) x4_1.length co17) x4_1) := ⟨by rw [← hq_]; exact (uR HO_43.out)⟩; have n2_ : Aside0 (Kd.R (Kd.int .i64) 3 wr w.heap.size (fun k_ => some k_ ≠ (.slice (some ad324) x4_1.length co17 : Value).ownBlock ∧ some k_ ≠ (.slice (some ad324) x4_1.length co17 : Value).ownBlock ∧ some k_ ≠ (v312 : Value).ownBlock) v322 x5_2) := ⟨by rw [← hq_]; exact (by (with_reducible repeat (first | apply Kd.R_alloc | apply Kd.R_drewN | apply Kd.R_drew)); exact Kd.R_mono HO_5.out (fun _ hk => ⟨hk.1, ⟨hk.2.2, hk.2.1⟩⟩))⟩; have n3_ : Aside0 (Kd.R (Kd.int .i64) 3 wr w.heap.size (fun k_ => some k_ ≠ (v322 : Value).ownBlock) v312 t311) := ⟨by rw [← hq_]; exact (uR HO_6.out)⟩; have n4_ : Aside0 (Below w.heap.size w wr) := ⟨by rw [← hq_]; exact uB⟩; clear HO_4 HO_43 HO_5 HO_6 HB hq_; have HO_4 := n0_; have HO_43 := n1_; have HO_5 := n2_; have HO_6 := n3_; have HB := n4_; clear n0_ n1_ n2_ n3_ n4_)); have p34 : 0 ≤ ((rd x4_1 x45_2) : Int) := dT; have q34 : ((rd x4_1 x45_2) : Int) < ((x5_2.length : Int) : Int) := dT; obtain ⟨go34, co34, eo34, gb34, gl34, cl34, HG34⟩ := Kd.R_form HO_5.out (by omega); (first | cases eo34 | (injection eo34 with ea_ en_ ec_; (first | subst ea_ | (injection ea_ with ea_; subst ea_)); subst ec_; clear en_)); have GB34 := Aside0.mk gb34; have GG34 := Aside0.mk HG34; clear gb34 gl34 HG34; obtain ⟨hx34_0, hf34_0⟩ := Kd.R_celln 0 HO_5.out ((rd x4_1 x45_2) : Int) p34 q34; replace p34 := eq_true p34; replace q34 := eq_true q34; obtain ⟨hy35_, hz35_⟩ := Kd.R_celln 0 HO_5.out ((rd x4_1 x45_2) : Int) dT dT; have HP35 := Kd.R_putg HO_5.out ((rd x4_1 x45_2) : Int) x8_2) | ((with_reducible refine gate_store (t := 3) (p := 68) rfl ?_); refine store_event (t := 3) (p := 68) (v := ?vo_w36) (w1 := (wr.setCell ⟨go34, ((rd x4_1 x45_2) : Int).toNat, none⟩ (.int .i64 x8_2))) ?hg ?ho ?hn ?hr ?_; (case ho => rfl); (case hg => rfl); (case hn => rfl); (case hr => first | (go_simp; done) | (go_simp; rfl)); intro w36 hw; have hg : wr.grownBy w36 (some go34) := (by rw [hw]; exact HP35.2); have hp_ : Kd.R (Kd.int .i64) 3 w36 w.heap.size (fun k_ => some k_ ≠ (.slice (some ad324) x4_1.length co17 : Value).ownBlock ∧ some k_ ≠ (v312 : Value).ownBlock ∧ some k_ ≠ (.slice (some ad324) x4_1.length co17 : Value).ownBlock) (.slice (some ⟨go34, 0, none⟩) x5_2.length co34) y328 := (by rw [hw, Ny328.out]; first | exact HP35.1 | exact Kd.R_mono (d := Kd.int .i64) HP35.1 (fun _ hk => ⟨hk.1, ⟨hk.2.2, hk.2.1⟩⟩)); clear HP35; have n0_ := Aside0.mk (Kd.R_after (v := (.slice (some ⟨go34, 0, none⟩) x5_2.length co34)) (v1 := (.slice (some ⟨go34, 0, none⟩) x5_2.length co34)) (ok := (fun _ => True)) (by (with_reducible repeat (first | apply Kd.R_alloc | apply Kd.R_drewN | apply Kd.R_drew)); exact Kd.R_mono HO_4.out (fun _ hk => ⟨trivial, hk⟩)) hg (.inl rfl)); have n1_ := Aside0.mk (hp_); have n2_ := Aside0.mk (Kd.R_after (v := (.slice (some ⟨go34, 0, none⟩) x5_2.length co34)) (v1 := (.slice (some ⟨go34, 0, none⟩) x5_2.length co34)) (ok := (fun _ => True)) (by (with_reducible repeat (first | apply Kd.R_alloc | apply Kd.R_drewN | apply Kd.R_drew)); exact Kd.R_mono HO_6.out (fun _ hk => ⟨trivial, hk⟩)) hg (.inl rfl)); have n3_ := Aside0.mk (Kd.R_after (v := (.slice (some ⟨go34, 0, none⟩) x5_2.length co34)) (v1 := (.slice (some ⟨go34, 0, none⟩) x5_2.length co34)) (ok := (fun _ => True)) (by (with_reducible repeat (first | apply Kd.R_alloc | apply Kd.R_drewN | apply Kd.R_drew)); exact Kd.R_mono HO_43.out (fun _ hk => ⟨trivial, hk⟩)) hg (.inl rfl)); have n4_ := Aside0.mk ((by rw [hw]; exact below_set (HB.out) GB34.out : Below w.heap.size w w36)); clear HO_4; clear HO_5; clear HO_6; clear HO_43; clear HB; have HO_4 := n0_; have HO_5 := n1_; have HO_6 := n2_; have HO_43 := n3_; have HB := n4_; clear n0_ n1_ n2_ n3_ n4_; clear hg hw hp_))
         go_roundg k2
         case measure => have := HK1.out; have := HK2.out; omega
         case rel => exact ⟨(y328), (x8_2), (wrap64 (x45_2 + 1)), sD, sD, H', ⟨by have := HK1.out; have := HK2.out; omega⟩, ⟨by (with_reducible repeat (first | apply Kd.R_alloc | apply Kd.R_drewN | apply Kd.R_drew)); exact Kd.R_mono HO_4.out (fun _ hk => hk.2)⟩, ⟨uR HO_5.out⟩, ⟨by (with_reducible repeat (first | apply Kd.R_alloc | apply Kd.R_drewN | apply Kd.R_drew)); exact Kd.R_mono HO_6.out (fun _ hk => hk.2)⟩, ⟨by (with_reducible repeat (first | apply Kd.R_alloc | apply Kd.R_drewN | apply Kd.R_drew)); exact Kd.R_mono HO_43.out (fun _ hk => hk.2)⟩, ⟨uB⟩⟩
        ·replace c31 := Bool.eq_false_iff.mpr c31
         subst c31
         rw [if_neg (by decide)] at H
         obtain ⟨c37b0, c38b0, H⟩ := ifD2 H
         generalize hy329 : (x5_2.set ((rd x4_1 x45_2) : Int).toNat (wrap64 (x8_2 + 1)) : List Int) = y329 at H
         try simp only [Option.bind_some] at H
         have Ny329 := Aside0.mk hy329.symm
         clear hy329
         have H' := Aside0.mk H
         clear H
         obtain ⟨ad324, e324, hx324_0, p324, q324⟩ := rI (Kd.R_reads' HO_43.out).2.2 x45_2
         cases e324
         obtain ⟨ad326, e326, hx326_0, p326, q326⟩ := rI (Kd.R_reads' HO_4.out).2.2 (ji27)
         obtain rfl : ad324 = ad326 := (by injection e326)
         go_wp2_with (first | (go_at_call 146; (with_reducible refine (skew_alike.calls k2 _ _ l0 (rd x4_1 (ji27)) (rd x4_1 x45_2) false _ ?side1 ?side2 A30.out).mono ?_); (case side1 => exact uC (Kd.C_below HR0.out HB.out)); (case side2 => exact HC0.out); rintro e w' ⟨rfl, ⟨nd, rfl⟩⟩; (try (rw [drewN_self wr]; generalize hq_ : World.drewN wr _ = wr; have n0_ : Aside0 (Kd.R (Kd.int .i64) 3 wr w.heap.size (fun k_ => some k_ ≠ (v322 : Value).ownBlock) (.slice (some ad324) x4_1.length co17) x4_1) := ⟨by rw [← hq_]; exact (uR HO_4.out)⟩; have n1_ : Aside0 (Kd.R (Kd.int .i64) 3 wr w.heap.size (fun k_ => some k_ ≠ (v322 : Value).ownBlock) (.slice (some ad324) x4_1.length co17) x4_1) := ⟨by rw [← hq_]; exact (uR HO_43.out)⟩; have n2_ : Aside0 (Kd.R (Kd.int .i64) 3 wr w.heap.size (fun k_ => some k_ ≠ (.slice (some ad324) x4_1.length co17 : Value).ownBlock ∧ some k_ ≠ (.slice (some ad324) x4_1.length co17 : Value).ownBlock ∧ some k_ ≠ (v312 : Value).ownBlock) v322 x5_2) := ⟨by rw [← hq_]; exact (by (with_reducible repeat (first | apply Kd.R_alloc | apply Kd.R_drewN | apply Kd.R_drew)); exact Kd.R_mono HO_5.out (fun _ hk => ⟨hk.1, ⟨hk.2.2, hk.2.1⟩⟩))⟩; have n3_ : Aside0 (Kd.R (Kd.int .i64) 3 wr w.heap.size (fun k_ => some k_ ≠ (v322 : Value).ownBlock) v312 t311) := ⟨by rw [← hq_]; exact (uR HO_6.out)⟩; have n4_ : Aside0 (Below w.heap.size w wr) := ⟨by rw [← hq_]; exact uB⟩; clear HO_4 HO_43 HO_5 HO_6 HB hq_; have HO_4 := n0_; have HO_43 := n1_; have HO_5 := n2_; have HO_6 := n3_; have HB := n4_; clear n0_ n1_ n2_ n3_ n4_)); have p39 : 0 ≤ ((rd x4_1 x45_2) : Int) := dT; have q39 : ((rd x4_1 x45_2) : Int) < ((x5_2.length : Int) : Int) := dT; obtain ⟨go39, co39, eo39, gb39, gl39, cl39, HG39⟩ := Kd.R_form HO_5.out (by omega); (first | cases eo39 | (injection eo39 with ea_ en_ ec_; (first | subst ea_ | (injection ea_ with ea_; subst ea_)); subst ec_; clear en_)); have GB39 := Aside0.mk gb39; have GG39 := Aside0.mk HG39; clear gb39 gl39 HG39; obtain ⟨hx39_0, hf39_0⟩ := Kd.R_celln 0 HO_5.out ((rd x4_1 x45_2) : Int) p39 q39; replace p39 := eq_true p39; replace q39 := eq_true q39; obtain ⟨hy40_, hz40_⟩ := Kd.R_celln 0 HO_5.out ((rd x4_1 x45_2) : Int) dT dT; have HP40 := Kd.R_putg HO_5.out ((rd x4_1 x45_2) : Int) (wrap64 (x8_2 + 1))) | ((with_reducible refine gate_store (t := 3) (p := 68) rfl ?_); refine store_event (t := 3) (p := 68) (v := ?vo_w41) (w1 := (wr.setCell ⟨go39, ((rd x4_1 x45_2) : Int).toNat, none⟩ (.int .i64 (wrap64 (x8_2 + 1))))) ?hg ?ho ?hn ?hr ?_; (case ho => rfl); (case hg => rfl); (case hn => rfl); (case hr => first | (go_simp; done) | (go_simp; rfl)); intro w41 hw; have hg : wr.grownBy w41 (some go39) := (by rw [hw]; exact HP40.2); have hp_ : Kd.R (Kd.int .i64) 3 w41 w.heap.size (fun k_ => some k_ ≠ (.slice (some ad324) x4_1.length co17 : Value).ownBlock ∧ some k_ ≠ (v312 : Value).ownBlock ∧ some k_ ≠ (.slice (some ad324) x4_1.length co17 : Value).ownBlock) (.slice (some ⟨go39, 0, none⟩) x5_2.length co39) y329 := (by rw [hw, Ny329.out]; first | exact HP40.1 | exact Kd.R_mono (d := Kd.int .i64) HP40.1 (fun _ hk => ⟨hk.1, ⟨hk.2.2, hk.2.1⟩⟩)); clear HP40; have n0_ := Aside0.mk (Kd.R_after (v := (.slice (some ⟨go39, 0, none⟩) x5_2.length co39)) (v1 := (.slice (some ⟨go39, 0, none⟩) x5_2.length co39)) (ok := (fun _ => True)) (by (with_reducible repeat (first | apply Kd.R_alloc | apply Kd.R_drewN | apply Kd.R_drew)); exact Kd.R_mono HO_4.out (fun _ hk => ⟨trivial, hk⟩)) hg (.inl rfl)); have n1_ := Aside0.mk (hp_); have n2_ := Aside0.mk (Kd.R_after (v := (.slice (some ⟨go39, 0, none⟩) x5_2.length co39)) (v1 := (.slice (some ⟨go39, 0, none⟩) x5_2.length co39)) (ok := (fun _ => True)) (by (with_reducible repeat (first | apply Kd.R_alloc | apply Kd.R_drewN | apply Kd.R_drew)); exact Kd.R_mono HO_6.out (fun _ hk => ⟨trivial, hk⟩)) hg (.inl rfl)); have n3_ := Aside0.mk (Kd.R_after (v := (.slice (some ⟨go39, 0, none⟩) x5_2.length co39)) (v1 := (.slice (some ⟨go39, 0, none⟩) x5_2.length co39)) (ok := (fun _ => True)) (by (with_reducible repeat (first | apply Kd.R_alloc | apply Kd.R_drewN | apply Kd.R_drew)); exact Kd.R_mono HO_43.out (fun _ hk => ⟨trivial, hk⟩)) hg (.inl rfl)); have n4_ := Aside0.mk ((by rw [hw]; exact below_set (HB.out) GB39.out : Below w.heap.size w w41)); clear HO_4; clear HO_5; clear HO_6; clear HO_43; clear HB; have HO_4 := n0_; have HO_5 := n1_; have HO_6 := n2_; have HO_43 := n3_; have HB := n4_; clear n0_ n1_ n2_ n3_ n4_; clear hg hw hp_))
         go_roundg k2
         case measure => have := HK1.out; have := HK2.out; omega
         case rel => exact ⟨(y329), (wrap64 (x8_2 + 1)), (wrap64 (x45_2 + 1)), sD, sD, H', ⟨by have := HK1.out; have := HK2.out; omega⟩, ⟨by (with_reducible repeat (first | apply Kd.R_alloc | apply Kd.R_drewN | apply Kd.R_drew)); exact Kd.R_mono HO_4.out (fun _ hk => hk.2)⟩, ⟨uR HO_5.out⟩, ⟨by (with_reducible repeat (first | apply Kd.R_alloc | apply Kd.R_drewN | apply Kd.R_drew)); exact Kd.R_mono HO_6.out (fun _ hk => hk.2)⟩, ⟨by (with_reducible repeat (first | apply Kd.R_alloc | apply Kd.R_drewN | apply Kd.R_drew)); exact Kd.R_mono HO_43.out (fun _ hk => hk.2)⟩, ⟨uB⟩⟩
      ·by_cases c42 : x8_2 = (t311.length : Int)
       ·rw [if_pos c42] at H
        have c42b0 : (x8_2 == (t311.length : Int)) = true := beq_iff_eq.mpr c42
        have c42b1 : (x8_2 != (t311.length : Int)) = false := bne_eq_false_iff_eq.mpr c42
        clear c42
        simp only [Option.some.injEq, Prod.mk.injEq] at H
        obtain ⟨rfl, rfl⟩ := H
        obtain ⟨Ao43, co43, eo43⟩ := Kd.R_slice HO_6.out
        subst eo43
        go_wp2
        go_ret2
        exact ⟨_, _, by first | rfl | (simp [errW_none, errW_some] <;> rfl) | (simp only [← hji12]; first | rfl | (simp [errW_none, errW_some] <;> rfl)) | (simp [*, errW_none, errW_some] <;> rfl), uR HO_4.out, by (with_reducible repeat (first | apply Kd.R_alloc | apply Kd.R_drewN | apply Kd.R_drew)); exact Kd.R_mono HO_5.out (fun _ hk => hk.1), uB⟩
       ·rw [if_neg c42] at H
        have c42b0 : (x8_2 == (t311.length : Int)) = false := beq_eq_false_iff_ne.mpr c42
        have c42b1 : (x8_2 != (t311.length : Int)) = true := bne_iff_ne.mpr c42
        obtain ⟨t330, A44, H⟩ := bdS H
        try dsimp only at H
        have H' := Aside0.mk H
        clear H
        obtain ⟨Ao45, co45, eo45⟩ := Kd.R_slice HO_6.out
        subst eo45
        go_wp2_with (first | ((with_reducible refine gate_callee (f := 129) rfl ?_); refine goesL_ (some 78) rfl rfl Tryz.func129 (by kernel_rfl) rfl #[.int .i64 (l0.length : Int), .int .i64 1] rfl aE ?_; (with_reducible refine (skew_places.calls k2 (l0.length : Int) 1 t330 _ A44.out).mono ?_); rintro e w46 ⟨v331, rfl, ho0, hb⟩; refine ⟨_, rfl, ?_⟩; have n0_ := Aside0.mk (Kd.R_elder' (uR HO_4.out) (Kd.R_base ho0) hb); have n1_ := Aside0.mk (Kd.R_elder' (uR HO_5.out) (Kd.R_base ho0) hb); have n2_ := Aside0.mk (Kd.R_elder' (uR HO_6.out) (Kd.R_base ho0) hb); have n3_ := Aside0.mk (Kd.R_elder' (uR HO_43.out) (Kd.R_base ho0) hb); have n4_ := Aside0.mk (Kd.R_lower (Kd.R_new' (Kd.R_new' (Kd.R_new' (Kd.R_new' ho0 (Kd.R_lt (uR HO_4.out))) (Kd.R_lt (uR HO_5.out))) (Kd.R_lt (uR HO_6.out))) (Kd.R_lt (uR HO_43.out))) (below_size uB)); have n5_ := Aside0.mk (below_step uB hb); clear HO_4; clear HO_5; clear HO_6; clear HO_43; clear HB; have HO_4 := n0_; have HO_5 := n1_; have HO_6 := n2_; have HO_43 := n3_; have HO332 := n4_; have HB := n5_; clear n0_ n1_ n2_ n3_ n4_ n5_; (try clear hb); (try clear hb2); (try clear hk); (try clear hi); (try clear ho0); obtain ⟨Ao47, co47, eo47⟩ := Kd.R_slice HO332.out; subst eo47))
        go_loopg [12, 81] k2 (fun kq v12 v81 w' => ∃ (x12_3 : List Int) (x81_3 : Int), v81 = .int .i64 x81_3 ∧ Aside0 (skew_ranked.l2 sf kq l0 x5_2 t311 x8_2 t330 x12_3 t330 (t330.length : Int) x81_3 = some (r1, r2)) ∧ Aside0 (kq ≤ k2) ∧ Aside0 (Kd.R (Kd.int .i64) 3 w' w.heap.size (fun k_ => some k_ ≠ ((.slice Ao45 t311.length co45) : Value).ownBlock ∧ some k_ ≠ ((.slice Ao47 t330.length co47) : Value).ownBlock ∧ some k_ ≠ (v12 : Value).ownBlock ∧ some k_ ≠ ((.slice Ao47 t330.length co47) : Value).ownBlock) v322 x5_2) ∧ Aside0 (Kd.R (Kd.int .i64) 3 w' w.heap.size (fun k_ => some k_ ≠ (v322 : Value).ownBlock ∧ some k_ ≠ ((.slice Ao47 t330.length co47) : Value).ownBlock ∧ some k_ ≠ (v12 : Value).ownBlock ∧ some k_ ≠ ((.slice Ao47 t330.length co47) : Value).ownBlock) (.slice Ao45 t311.length co45) t311) ∧ Aside0 (Kd.R (Kd.int .i64) 3 w' w.heap.size (fun k_ => some k_ ≠ (v322 : Value).ownBlock ∧ some k_ ≠ ((.slice Ao45 t311.length co45) : Value).ownBlock ∧ some k_ ≠ (v12 : Value).ownBlock) (.slice Ao47 t330.length co47) t330) ∧ Aside0 (Kd.R (Kd.int .i64) 3 w' w.heap.size (fun k_ => some k_ ≠ (v322 : Value).ownBlock ∧ some k_ ≠ ((.slice Ao45 t311.length co45) : Value).ownBlock ∧ some k_ ≠ ((.slice Ao47 t330.length co47) : Value).ownBlock ∧ some k_ ≠ ((.slice Ao47 t330.length co47) : Value).ownBlock) v12 x12_3) ∧ Aside0 (Kd.R (Kd.int .i64) 3 w' w.heap.size (fun k_ => some k_ ≠ (v322 : Value).ownBlock ∧ some k_ ≠ ((.slice Ao45 t311.length co45) : Value).ownBlock ∧ some k_ ≠ (v12 : Value).ownBlock) (.slice Ao47 t330.length co47) t330) ∧ Aside0 (Below w.heap.size w w'))
        case atStart => exact ⟨(([] : List Int)), (0), sD, H', ⟨Nat.le_refl _⟩, ⟨by (with_reducible repeat (first | apply Kd.R_alloc | apply Kd.R_drewN | apply Kd.R_drew)); exact Kd.R_mono HO_5.out (fun _ hk => ⟨hk.1.2.1, ⟨hk.2, ⟨(by simp [Value.ownBlock]), hk.2⟩⟩⟩)⟩, ⟨by (with_reducible repeat (first | apply Kd.R_alloc | apply Kd.R_drewN | apply Kd.R_drew)); exact Kd.R_mono HO_6.out (fun _ hk => ⟨hk.1, ⟨hk.2, ⟨(by simp [Value.ownBlock]), hk.2⟩⟩⟩)⟩, ⟨by (with_reducible repeat (first | apply Kd.R_alloc | apply Kd.R_drewN | apply Kd.R_drew)); exact Kd.R_mono HO332.out (fun _ hk => ⟨hk.1.1.2, ⟨hk.1.2, (by simp [Value.ownBlock])⟩⟩)⟩, ⟨nL⟩, ⟨by (with_reducible repeat (first | apply Kd.R_alloc | apply Kd.R_drewN | apply Kd.R_drew)); exact Kd.R_mono HO332.out (fun _ hk => ⟨hk.1.1.2, ⟨hk.1.2, (by simp [Value.ownBlock])⟩⟩)⟩, ⟨uB⟩⟩
        case round =>
         clear H'
         try clear c1
         try clear c2
         try clear p2
         try clear q2
         try clear hx2
         try clear hf2
         try clear c3
         try clear p3
         try clear q3
         try clear hx3
         try clear hf3
         try clear c4
         try clear c5
         try clear c5b0
         try clear p6
         try clear c7
         try clear c12
         try clear c13
         try clear c13b0
         try clear c13b1
         try clear c14
         try clear c14b0
         try clear c14b1
         try clear c18
         try clear c18b0
         try clear c19
         try clear c19b0
         try clear c20
         try clear c20b0
         try clear c21
         try clear c21b0
         try clear c21b1
         try clear c22
         try clear c22b0
         try clear c23
         try clear c23b0
         try clear p24
         try clear q24
         try clear hx24
         try clear hf24
         try clear c28
         try clear c28b0
         try clear c29
         try clear c29b0
         try clear c31
         try clear c32
         try clear c32b0
         try clear p32
         try clear q32
         try clear hx32
         try clear c33
         try clear c33b0
         try clear p34
         try clear q34
         try clear hx34
         try clear hf34
         try clear c37
         try clear c37b0
         try clear c38
         try clear c38b0
         try clear p39
         try clear q39
         try clear hx39
         try clear hf39
         try clear c42
         try clear c42b0
         try clear c42b1
         try clear hx24_0
         try clear hx324_0
         try clear hx326_0
         try clear hx34_0
         try clear hx39_0
         try clear p2
         try clear p24
         try clear p324
         try clear p326
         try clear p34
         try clear p39
         try clear p6
         try clear q24
         try clear q324
         try clear q326
         try clear q34
         try clear q39
         obtain ⟨x12_3, x81_3, rfl, HA, HK3, HO_5, HO_6, HO_11, HO_12, HO_79, HB⟩ := hrel
         cases gk with
         | zero => exact absurd HA.out (by simp [skew_ranked.l2])
         | succ k3 =>
          have H := HA.out
          clear HA
          simp only [skew_ranked.l2] at H
          rcases ifC H with ⟨c48b0, H⟩ | ⟨c48b0, H⟩
          ·obtain ⟨c49b0, c50b0, H⟩ := ifD2 H
           obtain ⟨c51b0, c52b0, H⟩ := ifD2 H
           obtain ⟨c53, H⟩ := ifP H
           have LMc53 := Aside0.mk c53
           clear c53
           generalize hy335 : (x12_3 ++ [rd x5_2 (rd t330 x81_3)] : List Int) = y335 at H
           try simp only [Option.bind_some] at H
           have Ny335 := Aside0.mk hy335.symm
           clear hy335
           have H' := Aside0.mk H
           clear H
           obtain ⟨ad333, e333, hx333_0, p333, q333⟩ := rI (Kd.R_reads' HO_79.out).2.2 x81_3
           cases e333
           obtain ⟨Ao54, co54, eo54⟩ := Kd.R_slice HO_5.out
           subst eo54
           obtain ⟨ad334, e334, hx334_0, p334, q334⟩ := rI (Kd.R_reads' HO_5.out).2.2 (rd t330 x81_3)
           cases e334
           go_wp2_with (first | ((with_reducible refine gate_builtin (b := .append) (xs := #[.tmp 85, .tmp 90]) rfl ?_); at_builtin; refine Kd.R_append (Kd.int .i64) (w0 := w) w.heap.size rfl (.tmp 85) (.tmp 90) 29 3 (.int .i64 0) 8 rfl Tryz.underlying29 info3 rfl (by decide) (by omega) u12 x12_3 (rd x5_2 (rd t330 x81_3)) [.int .i64 (rd x5_2 (rd t330 x81_3))] (fun k_ => some k_ ≠ (.slice (some ad334) x5_2.length co54 : Value).ownBlock ∧ some k_ ≠ (.slice Ao45 t311.length co45 : Value).ownBlock ∧ some k_ ≠ (.slice (some ad333) t330.length co47 : Value).ownBlock ∧ some k_ ≠ (.slice (some ad333) t330.length co47 : Value).ownBlock) (fun _ => False) rfl rfl ?aP (fun _ hk => hk.elim) ?aF ?aO ?aB ?aS ?aL ?_; (case aP => exact rfl); (case aB => exact uB); (case aF => exact (fun k_ hk => ⟨Kd.fresh' (Kd.R_lt (uR HO_5.out)) k_ hk, Kd.fresh' (Kd.R_lt (uR HO_6.out)) k_ hk, Kd.fresh' (Kd.R_lt (uR HO_11.out)) k_ hk, Kd.fresh' (Kd.R_lt (uR HO_79.out)) k_ hk⟩)); (case aO => exact (uR HO_12.out)); (case aS => exact (below_size uB)); (case aL => have := LMc53.out; omega); intro v336 w55 ho hb hg hat; rw [← Ny335.out] at ho; have n0_ := Aside0.mk (Kd.R_after (ok := (fun k_ => some k_ ≠ (.slice Ao45 t311.length co45 : Value).ownBlock ∧ some k_ ≠ (.slice (some ad333) t330.length co47 : Value).ownBlock ∧ some k_ ≠ (.slice (some ad333) t330.length co47 : Value).ownBlock)) (by (with_reducible repeat (first | apply Kd.R_alloc | apply Kd.R_drewN | apply Kd.R_drew)); exact Kd.R_mono HO_5.out (fun _ hk => ⟨⟨hk.1, ⟨hk.2.1, hk.2.2.2⟩⟩, hk.2.2.1⟩)) hg hat); have n1_ := Aside0.mk (Kd.R_after (ok := (fun k_ => some k_ ≠ (.slice (some ad334) x5_2.length co54 : Value).ownBlock ∧ some k_ ≠ (.slice (some ad333) t330.length co47 : Value).ownBlock ∧ some k_ ≠ (.slice (some ad333) t330.length co47 : Value).ownBlock)) (by (with_reducible repeat (first | apply Kd.R_alloc | apply Kd.R_drewN | apply Kd.R_drew)); exact Kd.R_mono HO_6.out (fun _ hk => ⟨⟨hk.1, ⟨hk.2.1, hk.2.2.2⟩⟩, hk.2.2.1⟩)) hg hat); have n2_ := Aside0.mk (Kd.R_after (ok := (fun k_ => some k_ ≠ (.slice (some ad334) x5_2.length co54 : Value).ownBlock ∧ some k_ ≠ (.slice Ao45 t311.length co45 : Value).ownBlock)) (by (with_reducible repeat (first | apply Kd.R_alloc | apply Kd.R_drewN | apply Kd.R_drew)); exact Kd.R_mono HO_11.out (fun _ hk => ⟨⟨hk.1, hk.2.1⟩, hk.2.2⟩)) hg hat); have n3_ := Aside0.mk (Kd.R_after (ok := (fun k_ => some k_ ≠ (.slice (some ad334) x5_2.length co54 : Value).ownBlock ∧ some k_ ≠ (.slice Ao45 t311.length co45 : Value).ownBlock)) (by (with_reducible repeat (first | apply Kd.R_alloc | apply Kd.R_drewN | apply Kd.R_drew)); exact Kd.R_mono HO_79.out (fun _ hk => ⟨⟨hk.1, hk.2.1⟩, hk.2.2⟩)) hg hat); have n4_ := Aside0.mk (hb); have n5_ := Aside0.mk (ho); clear HO_5; clear HO_6; clear HO_11; clear HO_79; clear HB; clear HO_12; have HO_5 := n0_; have HO_6 := n1_; have HO_11 := n2_; have HO_79 := n3_; have HB := n4_; have HO337 := n5_; clear n0_ n1_ n2_ n3_ n4_ n5_; clear ho hb hg hat))
           go_roundg k3
           case measure => have := HK1.out; have := HK2.out; have := HK3.out; omega
           case rel => exact ⟨(y335), (wrap64 (x81_3 + 1)), sD, H', ⟨by have := HK1.out; have := HK2.out; have := HK3.out; omega⟩, ⟨by (with_reducible repeat (first | apply Kd.R_alloc | apply Kd.R_drewN | apply Kd.R_drew)); exact Kd.R_mono HO_5.out (fun _ hk => ⟨hk.1.1, ⟨hk.1.2.1, ⟨hk.2, hk.1.2.2⟩⟩⟩)⟩, ⟨by (with_reducible repeat (first | apply Kd.R_alloc | apply Kd.R_drewN | apply Kd.R_drew)); exact Kd.R_mono HO_6.out (fun _ hk => ⟨hk.1.1, ⟨hk.1.2.1, ⟨hk.2, hk.1.2.2⟩⟩⟩)⟩, ⟨by (with_reducible repeat (first | apply Kd.R_alloc | apply Kd.R_drewN | apply Kd.R_drew)); exact Kd.R_mono HO_11.out (fun _ hk => ⟨hk.1.1, ⟨hk.1.2, hk.2⟩⟩)⟩, ⟨uR HO337.out⟩, ⟨by (with_reducible repeat (first | apply Kd.R_alloc | apply Kd.R_drewN | apply Kd.R_drew)); exact Kd.R_mono HO_79.out (fun _ hk => ⟨hk.1.1, ⟨hk.1.2, hk.2⟩⟩)⟩, ⟨uB⟩⟩
          ·obtain ⟨c56, H⟩ := ifP H
           have LMc56 := Aside0.mk c56
           clear c56
           generalize hy338 : (x12_3 ++ [0] : List Int) = y338 at H
           try simp only [Option.bind_some] at H
           have Ny338 := Aside0.mk hy338.symm
           clear hy338
           obtain ⟨t341, A57, H⟩ := bdS H
           try dsimp only at H
           have H' := Aside0.mk H
           clear H
           go_wp2_with (first | ((with_reducible refine gate_builtin (b := .append) (xs := #[.tmp 93, .tmp 94]) rfl ?_); at_builtin; refine Kd.R_append (Kd.int .i64) (w0 := w) w.heap.size rfl (.tmp 93) (.tmp 94) 29 3 (.int .i64 0) 8 rfl Tryz.underlying29 info3 rfl (by decide) (by omega) u12 x12_3 0 [.int .i64 0] (fun k_ => some k_ ≠ (v322 : Value).ownBlock ∧ some k_ ≠ (.slice Ao45 t311.length co45 : Value).ownBlock ∧ some k_ ≠ (.slice Ao47 t330.length co47 : Value).ownBlock ∧ some k_ ≠ (.slice Ao47 t330.length co47 : Value).ownBlock) (fun _ => False) rfl rfl ?aP (fun _ hk => hk.elim) ?aF ?aO ?aB ?aS ?aL ?_; (case aP => exact rfl); (case aB => exact uB); (case aF => exact (fun k_ hk => ⟨Kd.fresh' (Kd.R_lt (uR HO_5.out)) k_ hk, Kd.fresh' (Kd.R_lt (uR HO_6.out)) k_ hk, Kd.fresh' (Kd.R_lt (uR HO_11.out)) k_ hk, Kd.fresh' (Kd.R_lt (uR HO_79.out)) k_ hk⟩)); (case aO => exact (uR HO_12.out)); (case aS => exact (below_size uB)); (case aL => have := LMc56.out; omega); intro v339 w58 ho hb hg hat; rw [← Ny338.out] at ho; have n0_ := Aside0.mk (Kd.R_after (ok := (fun k_ => some k_ ≠ (.slice Ao45 t311.length co45 : Value).ownBlock ∧ some k_ ≠ (.slice Ao47 t330.length co47 : Value).ownBlock ∧ some k_ ≠ (.slice Ao47 t330.length co47 : Value).ownBlock)) (by (with_reducible repeat (first | apply Kd.R_alloc | apply Kd.R_drewN | apply Kd.R_drew)); exact Kd.R_mono HO_5.out (fun _ hk => ⟨⟨hk.1, ⟨hk.2.1, hk.2.2.2⟩⟩, hk.2.2.1⟩)) hg hat); have n1_ := Aside0.mk (Kd.R_after (ok := (fun k_ => some k_ ≠ (v322 : Value).ownBlock ∧ some k_ ≠ (.slice Ao47 t330.length co47 : Value).ownBlock ∧ some k_ ≠ (.slice Ao47 t330.length co47 : Value).ownBlock)) (by (with_reducible repeat (first | apply Kd.R_alloc | apply Kd.R_drewN | apply Kd.R_drew)); exact Kd.R_mono HO_6.out (fun _ hk => ⟨⟨hk.1, ⟨hk.2.1, hk.2.2.2⟩⟩, hk.2.2.1⟩)) hg hat); have n2_ := Aside0.mk (Kd.R_after (ok := (fun k_ => some k_ ≠ (v322 : Value).ownBlock ∧ some k_ ≠ (.slice Ao45 t311.length co45 : Value).ownBlock)) (by (with_reducible repeat (first | apply Kd.R_alloc | apply Kd.R_drewN | apply Kd.R_drew)); exact Kd.R_mono HO_11.out (fun _ hk => ⟨⟨hk.1, hk.2.1⟩, hk.2.2⟩)) hg hat); have n3_ := Aside0.mk (Kd.R_after (ok := (fun k_ => some k_ ≠ (v322 : Value).ownBlock ∧ some k_ ≠ (.slice Ao45 t311.length co45 : Value).ownBlock)) (by (with_reducible repeat (first | apply Kd.R_alloc | apply Kd.R_drewN | apply Kd.R_drew)); exact Kd.R_mono HO_79.out (fun _ hk => ⟨⟨hk.1, hk.2.1⟩, hk.2.2⟩)) hg hat); have n4_ := Aside0.mk (hb); have n5_ := Aside0.mk (ho); clear HO_5; clear HO_6; clear HO_11; clear HO_79; clear HB; clear HO_12; have HO_5 := n0_; have HO_6 := n1_; have HO_11 := n2_; have HO_79 := n3_; have HB := n4_; have HO340 := n5_; clear n0_ n1_ n2_ n3_ n4_ n5_; clear ho hb hg hat) | ((with_reducible refine gate_callee (f := 129) rfl ?_); refine goesL_ (some 98) rfl rfl Tryz.func129 (by kernel_rfl) rfl #[.int .i64 (l0.length : Int), .int .i64 2] rfl aE ?_; (with_reducible refine (skew_places.calls k3 (l0.length : Int) 2 t341 _ A57.out).mono ?_); rintro e w59 ⟨v342, rfl, ho0, hb⟩; refine ⟨_, rfl, ?_⟩; have n0_ := Aside0.mk (Kd.R_elder' (uR HO_5.out) (Kd.R_base ho0) hb); have n1_ := Aside0.mk (Kd.R_elder' (uR HO_6.out) (Kd.R_base ho0) hb); have n2_ := Aside0.mk (Kd.R_elder' (uR HO_11.out) (Kd.R_base ho0) hb); have n3_ := Aside0.mk (Kd.R_elder' (uR HO_79.out) (Kd.R_base ho0) hb); have n4_ := Aside0.mk (Kd.R_elder' (uR HO340.out) (Kd.R_base ho0) hb); have n5_ := Aside0.mk (Kd.R_lower (Kd.R_new' (Kd.R_new' (Kd.R_new' (Kd.R_new' (Kd.R_new' ho0 (Kd.R_lt (uR HO_5.out))) (Kd.R_lt (uR HO_6.out))) (Kd.R_lt (uR HO_11.out))) (Kd.R_lt (uR HO_79.out))) (Kd.R_lt (uR HO340.out))) (below_size uB)); have n6_ := Aside0.mk (below_step uB hb); clear HO_5; clear HO_6; clear HO_11; clear HO_79; clear HO340; clear HB; have HO_5 := n0_; have HO_6 := n1_; have HO_11 := n2_; have HO_79 := n3_; have HO340 := n4_; have HO343 := n5_; have HB := n6_; clear n0_ n1_ n2_ n3_ n4_ n5_ n6_; (try clear hb); (try clear hb2); (try clear hk); (try clear hi); (try clear ho0); obtain ⟨Ao60, co60, eo60⟩ := Kd.R_slice HO343.out; subst eo60))
           go_loopg [12, 100] k3 (fun kq v12 v100 w' => ∃ (x12_4 : List Int) (x100_4 : Int), v100 = .int .i64 x100_4 ∧ Aside0 (skew_ranked.l3 sf kq x5_2 t311 x8_2 t330 x12_4 t341 (t341.length : Int) x100_4 = some (r1, r2)) ∧ Aside0 (kq ≤ k3) ∧ Aside0 (Kd.R (Kd.int .i64) 3 w' w.heap.size (fun k_ => some k_ ≠ ((.slice Ao45 t311.length co45) : Value).ownBlock ∧ some k_ ≠ ((.slice Ao47 t330.length co47) : Value).ownBlock ∧ some k_ ≠ (v12 : Value).ownBlock ∧ some k_ ≠ ((.slice Ao60 t341.length co60) : Value).ownBlock) v322 x5_2) ∧ Aside0 (Kd.R (Kd.int .i64) 3 w' w.heap.size (fun k_ => some k_ ≠ (v322 : Value).ownBlock ∧ some k_ ≠ ((.slice Ao47 t330.length co47) : Value).ownBlock ∧ some k_ ≠ (v12 : Value).ownBlock ∧ some k_ ≠ ((.slice Ao60 t341.length co60) : Value).ownBlock) (.slice Ao45 t311.length co45) t311) ∧ Aside0 (Kd.R (Kd.int .i64) 3 w' w.heap.size (fun k_ => some k_ ≠ (v322 : Value).ownBlock ∧ some k_ ≠ ((.slice Ao45 t311.length co45) : Value).ownBlock ∧ some k_ ≠ (v12 : Value).ownBlock ∧ some k_ ≠ ((.slice Ao60 t341.length co60) : Value).ownBlock) (.slice Ao47 t330.length co47) t330) ∧ Aside0 (Kd.R (Kd.int .i64) 3 w' w.heap.size (fun k_ => some k_ ≠ (v322 : Value).ownBlock ∧ some k_ ≠ ((.slice Ao45 t311.length co45) : Value).ownBlock ∧ some k_ ≠ ((.slice Ao47 t330.length co47) : Value).ownBlock ∧ some k_ ≠ ((.slice Ao60 t341.length co60) : Value).ownBlock) v12 x12_4) ∧ Aside0 (Kd.R (Kd.int .i64) 3 w' w.heap.size (fun k_ => some k_ ≠ (v322 : Value).ownBlock ∧ some k_ ≠ ((.slice Ao45 t311.length co45) : Value).ownBlock ∧ some k_ ≠ ((.slice Ao47 t330.length co47) : Value).ownBlock ∧ some k_ ≠ (v12 : Value).ownBlock) (.slice Ao60 t341.length co60) t341) ∧ Aside0 (Below w.heap.size w w'))
           case atStart => exact ⟨(y338), (0), sD, H', ⟨Nat.le_refl _⟩, ⟨by (with_reducible repeat (first | apply Kd.R_alloc | apply Kd.R_drewN | apply Kd.R_drew)); exact Kd.R_mono HO_5.out (fun _ hk => ⟨hk.1.1.1, ⟨hk.1.1.2.1, ⟨hk.1.2, hk.2⟩⟩⟩)⟩, ⟨by (with_reducible repeat (first | apply Kd.R_alloc | apply Kd.R_drewN | apply Kd.R_drew)); exact Kd.R_mono HO_6.out (fun _ hk => ⟨hk.1.1.1, ⟨hk.1.1.2.1, ⟨hk.1.2, hk.2⟩⟩⟩)⟩, ⟨by (with_reducible repeat (first | apply Kd.R_alloc | apply Kd.R_drewN | apply Kd.R_drew)); exact Kd.R_mono HO_11.out (fun _ hk => ⟨hk.1.1.1, ⟨hk.1.1.2, ⟨hk.1.2, hk.2⟩⟩⟩)⟩, ⟨by (with_reducible repeat (first | apply Kd.R_alloc | apply Kd.R_drewN | apply Kd.R_drew)); exact Kd.R_mono HO340.out (fun _ hk => ⟨hk.1.1, ⟨hk.1.2.1, ⟨hk.1.2.2.1, hk.2⟩⟩⟩)⟩, ⟨by (with_reducible repeat (first | apply Kd.R_alloc | apply Kd.R_drewN | apply Kd.R_drew)); exact Kd.R_mono HO343.out (fun _ hk => ⟨hk.1.1.1.1.2, ⟨hk.1.1.1.2, ⟨hk.1.1.2, hk.2⟩⟩⟩)⟩, ⟨uB⟩⟩
           case round =>
            clear H'
            try clear c1
            try clear c2
            try clear p2
            try clear q2
            try clear hx2
            try clear hf2
            try clear c3
            try clear p3
            try clear q3
            try clear hx3
            try clear hf3
            try clear c4
            try clear c5
            try clear c5b0
            try clear p6
            try clear c7
            try clear c12
            try clear c13
            try clear c13b0
            try clear c13b1
            try clear c14
            try clear c14b0
            try clear c14b1
            try clear c18
            try clear c18b0
            try clear c19
            try clear c19b0
            try clear c20
            try clear c20b0
            try clear c21
            try clear c21b0
            try clear c21b1
            try clear c22
            try clear c22b0
            try clear c23
            try clear c23b0
            try clear p24
            try clear q24
            try clear hx24
            try clear hf24
            try clear c28
            try clear c28b0
            try clear c29
            try clear c29b0
            try clear c31
            try clear c32
            try clear c32b0
            try clear p32
            try clear q32
            try clear hx32
            try clear c33
            try clear c33b0
            try clear p33
            try clear q33
            try clear hx33
            try clear p34
            try clear q34
            try clear hx34
            try clear hf34
            try clear c37
            try clear c37b0
            try clear c38
            try clear c38b0
            try clear p39
            try clear q39
            try clear hx39
            try clear hf39
            try clear c42
            try clear c42b0
            try clear c42b1
            try clear c48
            try clear c48b0
            try clear c49
            try clear c49b0
            try clear c50
            try clear c50b0
            try clear c51
            try clear c51b0
            try clear c52
            try clear c52b0
            try clear c53
            try clear c56
            try clear hx24_0
            try clear hx324_0
            try clear hx326_0
            try clear hx333_0
            try clear hx334_0
            try clear hx34_0
            try clear hx39_0
            try clear p2
            try clear p24
            try clear p3
            try clear p32
            try clear p324
            try clear p326
            try clear p333
            try clear p334
            try clear p34
            try clear p39
            try clear p6
            try clear q2
            try clear q24
            try clear q3
            try clear q32
            try clear q324
            try clear q326
            try clear q333
            try clear q334
            try clear q34
            try clear q39
            obtain ⟨x12_4, x100_4, rfl, HA, HK4, HO_5, HO_6, HO_11, HO_12, HO_98, HB⟩ := hrel
            cases gk with
            | zero => exact absurd HA.out (by simp [skew_ranked.l3])
            | succ k4 =>
             have H := HA.out
             clear HA
             simp only [skew_ranked.l3] at H
             rcases ifC H with ⟨c61b0, H⟩ | ⟨c61b0, H⟩
             ·obtain ⟨c62b0, c63b0, H⟩ := ifD2 H
              obtain ⟨c64b0, c65b0, H⟩ := ifD2 H
              obtain ⟨c66, H⟩ := ifP H
              have LMc66 := Aside0.mk c66
              clear c66
              generalize hy346 : (x12_4 ++ [rd x5_2 (rd t341 x100_4)] : List Int) = y346 at H
              try simp only [Option.bind_some] at H
              have Ny346 := Aside0.mk hy346.symm
              clear hy346
              have H' := Aside0.mk H
              clear H
              obtain ⟨ad344, e344, hx344_0, p344, q344⟩ := rI (Kd.R_reads' HO_98.out).2.2 x100_4
              cases e344
              obtain ⟨Ao67, co67, eo67⟩ := Kd.R_slice HO_5.out
              subst eo67
              obtain ⟨ad345, e345, hx345_0, p345, q345⟩ := rI (Kd.R_reads' HO_5.out).2.2 (rd t341 x100_4)
              cases e345
              go_wp2_with (first | ((with_reducible refine gate_builtin (b := .append) (xs := #[.tmp 104, .tmp 109]) rfl ?_); at_builtin; refine Kd.R_append (Kd.int .i64) (w0 := w) w.heap.size rfl (.tmp 104) (.tmp 109) 29 3 (.int .i64 0) 8 rfl Tryz.underlying29 info3 rfl (by decide) (by omega) u12 x12_4 (rd x5_2 (rd t341 x100_4)) [.int .i64 (rd x5_2 (rd t341 x100_4))] (fun k_ => some k_ ≠ (.slice (some ad345) x5_2.length co67 : Value).ownBlock ∧ some k_ ≠ (.slice Ao45 t311.length co45 : Value).ownBlock ∧ some k_ ≠ (.slice Ao47 t330.length co47 : Value).ownBlock ∧ some k_ ≠ (.slice (some ad344) t341.length co60 : Value).ownBlock) (fun _ => False) rfl rfl ?aP (fun _ hk => hk.elim) ?aF ?aO ?aB ?aS ?aL ?_; (case aP => exact rfl); (case aB => exact uB); (case aF => exact (fun k_ hk => ⟨Kd.fresh' (Kd.R_lt (uR HO_5.out)) k_ hk, Kd.fresh' (Kd.R_lt (uR HO_6.out)) k_ hk, Kd.fresh' (Kd.R_lt (uR HO_11.out)) k_ hk, Kd.fresh' (Kd.R_lt (uR HO_98.out)) k_ hk⟩)); (case aO => exact (uR HO_12.out)); (case aS => exact (below_size uB)); (case aL => have := LMc66.out; omega); intro v347 w68 ho hb hg hat; rw [← Ny346.out] at ho; have n0_ := Aside0.mk (Kd.R_after (ok := (fun k_ => some k_ ≠ (.slice Ao45 t311.length co45 : Value).ownBlock ∧ some k_ ≠ (.slice Ao47 t330.length co47 : Value).ownBlock ∧ some k_ ≠ (.slice (some ad344) t341.length co60 : Value).ownBlock)) (by (with_reducible repeat (first | apply Kd.R_alloc | apply Kd.R_drewN | apply Kd.R_drew)); exact Kd.R_mono HO_5.out (fun _ hk => ⟨⟨hk.1, ⟨hk.2.1, hk.2.2.2⟩⟩, hk.2.2.1⟩)) hg hat); have n1_ := Aside0.mk (Kd.R_after (ok := (fun k_ => some k_ ≠ (.slice (some ad345) x5_2.length co67 : Value).ownBlock ∧ some k_ ≠ (.slice Ao47 t330.length co47 : Value).ownBlock ∧ some k_ ≠ (.slice (some ad344) t341.length co60 : Value).ownBlock)) (by (with_reducible repeat (first | apply Kd.R_alloc | apply Kd.R_drewN | apply Kd.R_drew)); exact Kd.R_mono HO_6.out (fun _ hk => ⟨⟨hk.1, ⟨hk.2.1, hk.2.2.2⟩⟩, hk.2.2.1⟩)) hg hat); have n2_ := Aside0.mk (Kd.R_after (ok := (fun k_ => some k_ ≠ (.slice (some ad345) x5_2.length co67 : Value).ownBlock ∧ some k_ ≠ (.slice Ao45 t311.length co45 : Value).ownBlock ∧ some k_ ≠ (.slice (some ad344) t341.length co60 : Value).ownBlock)) (by (with_reducible repeat (first | apply Kd.R_alloc | apply Kd.R_drewN | apply Kd.R_drew)); exact Kd.R_mono HO_11.out (fun _ hk => ⟨⟨hk.1, ⟨hk.2.1, hk.2.2.2⟩⟩, hk.2.2.1⟩)) hg hat); have n3_ := Aside0.mk (Kd.R_after (ok := (fun k_ => some k_ ≠ (.slice (some ad345) x5_2.length co67 : Value).ownBlock ∧ some k_ ≠ (.slice Ao45 t311.length co45 : Value).ownBlock ∧ some k_ ≠ (.slice Ao47 t330.length co47 : Value).ownBlock)) (by (with_reducible repeat (first | apply Kd.R_alloc | apply Kd.R_drewN | apply Kd.R_drew)); exact Kd.R_mono HO_98.out (fun _ hk => ⟨⟨hk.1, ⟨hk.2.1, hk.2.2.1⟩⟩, hk.2.2.2⟩)) hg hat); have n4_ := Aside0.mk (hb); have n5_ := Aside0.mk (ho); clear HO_5; clear HO_6; clear HO_11; clear HO_98; clear HB; clear HO_12; have HO_5 := n0_; have HO_6 := n1_; have HO_11 := n2_; have HO_98 := n3_; have HB := n4_; have HO348 := n5_; clear n0_ n1_ n2_ n3_ n4_ n5_; clear ho hb hg hat))
              go_roundg k4
              case measure => have := HK1.out; have := HK2.out; have := HK3.out; have := HK4.out; omega
              case rel => exact ⟨(y346), (wrap64 (x100_4 + 1)), sD, H', ⟨by have := HK1.out; have := HK2.out; have := HK3.out; have := HK4.out; omega⟩, ⟨by (with_reducible repeat (first | apply Kd.R_alloc | apply Kd.R_drewN | apply Kd.R_drew)); exact Kd.R_mono HO_5.out (fun _ hk => ⟨hk.1.1, ⟨hk.1.2.1, ⟨hk.2, hk.1.2.2⟩⟩⟩)⟩, ⟨by (with_reducible repeat (first | apply Kd.R_alloc | apply Kd.R_drewN | apply Kd.R_drew)); exact Kd.R_mono HO_6.out (fun _ hk => ⟨hk.1.1, ⟨hk.1.2.1, ⟨hk.2, hk.1.2.2⟩⟩⟩)⟩, ⟨by (with_reducible repeat (first | apply Kd.R_alloc | apply Kd.R_drewN | apply Kd.R_drew)); exact Kd.R_mono HO_11.out (fun _ hk => ⟨hk.1.1, ⟨hk.1.2.1, ⟨hk.2, hk.1.2.2⟩⟩⟩)⟩, ⟨uR HO348.out⟩, ⟨by (with_reducible repeat (first | apply Kd.R_alloc | apply Kd.R_drewN | apply Kd.R_drew)); exact Kd.R_mono HO_98.out (fun _ hk => ⟨hk.1.1, ⟨hk.1.2.1, ⟨hk.1.2.2, hk.2⟩⟩⟩)⟩, ⟨uB⟩⟩
             ·obtain ⟨t349, A69, H⟩ := bdS H
              try dsimp only at H
              have H' := Aside0.mk H
              clear H
              obtain ⟨Ao70, co70, eo70⟩ := Kd.R_slice HO_12.out
              subst eo70
              go_wp2_with (first | ((with_reducible refine gate_callee (f := 107) rfl ?_); refine goesL_ (some 115) rfl rfl Tryz.func107 (by kernel_rfl) rfl #[.slice Ao70 x12_4.length co70, .int .i64 (wrap64 (x8_2 + 1))] rfl aE ?_; (with_reducible refine (hsf _ _ x12_4 (wrap64 (x8_2 + 1)) t349 _ ?side1 ?side2 A69.out).mono ?_); (case side1 => exact uC (Kd.R_reads' HO_12.out).2.2); (case side2 => exact (Kd.R_reads' HO_12.out).2.1); rintro e w71 ⟨v350, rfl, ho0, hb⟩; refine ⟨_, rfl, ?_⟩; have n0_ := Aside0.mk (Kd.R_elder' (uR HO_5.out) (Kd.R_base ho0) hb); have n1_ := Aside0.mk (Kd.R_elder' (uR HO_6.out) (Kd.R_base ho0) hb); have n2_ := Aside0.mk (Kd.R_elder' (uR HO_11.out) (Kd.R_base ho0) hb); have n3_ := Aside0.mk (Kd.R_elder' (uR HO_12.out) (Kd.R_base ho0) hb); have n4_ := Aside0.mk (Kd.R_elder' (uR HO_98.out) (Kd.R_base ho0) hb); have n5_ := Aside0.mk (Kd.R_lower (Kd.R_new' (Kd.R_new' (Kd.R_new' (Kd.R_new' (Kd.R_new' ho0 (Kd.R_lt (uR HO_5.out))) (Kd.R_lt (uR HO_6.out))) (Kd.R_lt (uR HO_11.out))) (Kd.R_lt (uR HO_12.out))) (Kd.R_lt (uR HO_98.out))) (below_size uB)); have n6_ := Aside0.mk (below_step uB hb); clear HO_5; clear HO_6; clear HO_11; clear HO_12; clear HO_98; clear HB; have HO_5 := n0_; have HO_6 := n1_; have HO_11 := n2_; have HO_12 := n3_; have HO_98 := n4_; have HO351 := n5_; have HB := n6_; clear n0_ n1_ n2_ n3_ n4_ n5_ n6_; (try clear hb); (try clear hb2); (try clear hk); (try clear hi); (try clear ho0); obtain ⟨Ao72, co72, eo72⟩ := Kd.R_slice HO351.out; subst eo72))
              go_loopg [4, 117] k4 (fun kq v4 v117 w' => ∃ (x4_5 : List Int) (x117_5 : Int), v117 = .int .i64 x117_5 ∧ Aside0 (skew_ranked.l4 sf kq x4_5 x5_2 t311 t330 t349 (t349.length : Int) x117_5 = some (r1, r2)) ∧ Aside0 (kq ≤ k4) ∧ Aside0 (Kd.R (Kd.int .i64) 3 w' w.heap.size (fun k_ => some k_ ≠ (v322 : Value).ownBlock ∧ some k_ ≠ ((.slice Ao45 t311.length co45) : Value).ownBlock ∧ some k_ ≠ ((.slice Ao47 t330.length co47) : Value).ownBlock ∧ some k_ ≠ ((.slice Ao72 t349.length co72) : Value).ownBlock) v4 x4_5) ∧ Aside0 (Kd.R (Kd.int .i64) 3 w' w.heap.size (fun k_ => some k_ ≠ (v4 : Value).ownBlock ∧ some k_ ≠ ((.slice Ao45 t311.length co45) : Value).ownBlock ∧ some k_ ≠ ((.slice Ao47 t330.length co47) : Value).ownBlock ∧ some k_ ≠ ((.slice Ao72 t349.length co72) : Value).ownBlock) v322 x5_2) ∧ Aside0 (Kd.R (Kd.int .i64) 3 w' w.heap.size (fun k_ => some k_ ≠ (v4 : Value).ownBlock ∧ some k_ ≠ (v322 : Value).ownBlock ∧ some k_ ≠ ((.slice Ao47 t330.length co47) : Value).ownBlock ∧ some k_ ≠ ((.slice Ao72 t349.length co72) : Value).ownBlock) (.slice Ao45 t311.length co45) t311) ∧ Aside0 (Kd.R (Kd.int .i64) 3 w' w.heap.size (fun k_ => some k_ ≠ (v4 : Value).ownBlock ∧ some k_ ≠ (v322 : Value).ownBlock ∧ some k_ ≠ ((.slice Ao45 t311.length co45) : Value).ownBlock ∧ some k_ ≠ ((.slice Ao72 t349.length co72) : Value).ownBlock) (.slice Ao47 t330.length co47) t330) ∧ Aside0 (Kd.R (Kd.int .i64) 3 w' w.heap.size (fun k_ => some k_ ≠ (v4 : Value).ownBlock ∧ some k_ ≠ (v322 : Value).ownBlock ∧ some k_ ≠ ((.slice Ao45 t311.length co45) : Value).ownBlock ∧ some k_ ≠ ((.slice Ao47 t330.length co47) : Value).ownBlock) (.slice Ao72 t349.length co72) t349) ∧ Aside0 (Below w.heap.size w w'))
              case atStart => exact ⟨(([] : List Int)), (0), sD, H', ⟨Nat.le_refl _⟩, ⟨nL⟩, ⟨by (with_reducible repeat (first | apply Kd.R_alloc | apply Kd.R_drewN | apply Kd.R_drew)); exact Kd.R_mono HO_5.out (fun _ hk => ⟨(by simp [Value.ownBlock]), ⟨hk.1.1, ⟨hk.1.2.1, hk.2⟩⟩⟩)⟩, ⟨by (with_reducible repeat (first | apply Kd.R_alloc | apply Kd.R_drewN | apply Kd.R_drew)); exact Kd.R_mono HO_6.out (fun _ hk => ⟨(by simp [Value.ownBlock]), ⟨hk.1.1, ⟨hk.1.2.1, hk.2⟩⟩⟩)⟩, ⟨by (with_reducible repeat (first | apply Kd.R_alloc | apply Kd.R_drewN | apply Kd.R_drew)); exact Kd.R_mono HO_11.out (fun _ hk => ⟨(by simp [Value.ownBlock]), ⟨hk.1.1, ⟨hk.1.2.1, hk.2⟩⟩⟩)⟩, ⟨by (with_reducible repeat (first | apply Kd.R_alloc | apply Kd.R_drewN | apply Kd.R_drew)); exact Kd.R_mono HO351.out (fun _ hk => ⟨(by simp [Value.ownBlock]), ⟨hk.1.1.1.1.2, ⟨hk.1.1.1.2, hk.1.1.2⟩⟩⟩)⟩, ⟨uB⟩⟩
              case round =>
               clear H'
               try clear c1
               try clear c2
               try clear p2
               try clear q2
               try clear hx2
               try clear hf2
               try clear c3
               try clear p3
               try clear q3
               try clear hx3
               try clear hf3
               try clear c4
               try clear c5
               try clear c5b0
               try clear c6
               try clear p6
               try clear c7
               try clear c10
               try clear c12
               try clear c13
               try clear c13b0
               try clear c13b1
               try clear c14
               try clear c14b0
               try clear c14b1
               try clear c18
               try clear c18b0
               try clear c19
               try clear c19b0
               try clear c20
               try clear c20b0
               try clear c21
               try clear c21b0
               try clear c21b1
               try clear c22
               try clear c22b0
               try clear c23
               try clear c23b0
               try clear p24
               try clear q24
               try clear hx24
               try clear hf24
               try clear c28
               try clear c28b0
               try clear c29
               try clear c29b0
               try clear c31
               try clear c32
               try clear c32b0
               try clear p32
               try clear q32
               try clear hx32
               try clear c33
               try clear c33b0
               try clear p33
               try clear q33
               try clear hx33
               try clear p34
               try clear q34
               try clear hx34
               try clear hf34
               try clear c37
               try clear c37b0
               try clear c38
               try clear c38b0
               try clear p39
               try clear q39
               try clear hx39
               try clear hf39
               try clear c42
               try clear c42b0
               try clear c42b1
               try clear c48
               try clear c48b0
               try clear c49
               try clear c49b0
               try clear c50
               try clear c50b0
               try clear c51
               try clear c51b0
               try clear c52
               try clear c52b0
               try clear c53
               try clear c56
               try clear c61
               try clear c61b0
               try clear c62
               try clear c62b0
               try clear c63
               try clear c63b0
               try clear c64
               try clear c64b0
               try clear p64
               try clear c65
               try clear c65b0
               try clear c66
               try clear hx24_0
               try clear hx324_0
               try clear hx326_0
               try clear hx333_0
               try clear hx334_0
               try clear hx344_0
               try clear hx345_0
               try clear hx34_0
               try clear hx39_0
               try clear p2
               try clear p24
               try clear p3
               try clear p32
               try clear p324
               try clear p326
               try clear p33
               try clear p333
               try clear p334
               try clear p34
               try clear p344
               try clear p345
               try clear p39
               try clear p6
               try clear q2
               try clear q24
               try clear q3
               try clear q32
               try clear q324
               try clear q326
               try clear q33
               try clear q333
               try clear q334
               try clear q34
               try clear q344
               try clear q345
               try clear q39
               obtain ⟨x4_5, x117_5, rfl, HA, HK5, HO_4, HO_5, HO_6, HO_11, HO_115, HB⟩ := hrel
               cases gk with
               | zero => exact absurd HA.out (by simp [skew_ranked.l4])
               | succ k5 =>
                have H := HA.out
                clear HA
                simp only [skew_ranked.l4] at H
                rcases ifC H with ⟨c73b0, H⟩ | ⟨c73b0, H⟩
                ·obtain ⟨c74b0, c75b0, H⟩ := ifD2 H
                 rcases ifC H with ⟨c76b0, H⟩ | ⟨c76b0, H⟩
                 ·obtain ⟨c77b0, H⟩ := ifD H
                  obtain ⟨c78, H⟩ := ifP H
                  have LMc78 := Aside0.mk c78
                  clear c78
                  generalize hy354 : (x4_5 ++ [rd t330 (rd t349 x117_5)] : List Int) = y354 at H
                  try simp only [Option.bind_some] at H
                  have Ny354 := Aside0.mk hy354.symm
                  clear hy354
                  have H' := Aside0.mk H
                  clear H
                  obtain ⟨ad352, e352, hx352_0, p352, q352⟩ := rI (Kd.R_reads' HO_115.out).2.2 x117_5
                  cases e352
                  obtain ⟨ad353, e353, hx353_0, p353, q353⟩ := rI (Kd.R_reads' HO_11.out).2.2 (rd t349 x117_5)
                  cases e353
                  go_wp2_with (first | ((with_reducible refine gate_builtin (b := .append) (xs := #[.tmp 126, .tmp 131]) rfl ?_); at_builtin; refine Kd.R_append (Kd.int .i64) (w0 := w) w.heap.size rfl (.tmp 126) (.tmp 131) 29 3 (.int .i64 0) 8 rfl Tryz.underlying29 info3 rfl (by decide) (by omega) u4 x4_5 (rd t330 (rd t349 x117_5)) [.int .i64 (rd t330 (rd t349 x117_5))] (fun k_ => some k_ ≠ (v322 : Value).ownBlock ∧ some k_ ≠ (.slice Ao45 t311.length co45 : Value).ownBlock ∧ some k_ ≠ (.slice (some ad353) t330.length co47 : Value).ownBlock ∧ some k_ ≠ (.slice (some ad352) t349.length co72 : Value).ownBlock) (fun _ => False) rfl rfl ?aP (fun _ hk => hk.elim) ?aF ?aO ?aB ?aS ?aL ?_; (case aP => exact rfl); (case aB => exact uB); (case aF => exact (fun k_ hk => ⟨Kd.fresh' (Kd.R_lt (uR HO_5.out)) k_ hk, Kd.fresh' (Kd.R_lt (uR HO_6.out)) k_ hk, Kd.fresh' (Kd.R_lt (uR HO_11.out)) k_ hk, Kd.fresh' (Kd.R_lt (uR HO_115.out)) k_ hk⟩)); (case aO => exact (uR HO_4.out)); (case aS => exact (below_size uB)); (case aL => have := LMc78.out; omega); intro v355 w79 ho hb hg hat; rw [← Ny354.out] at ho; have n0_ := Aside0.mk (Kd.R_after (ok := (fun k_ => some k_ ≠ (.slice Ao45 t311.length co45 : Value).ownBlock ∧ some k_ ≠ (.slice (some ad353) t330.length co47 : Value).ownBlock ∧ some k_ ≠ (.slice (some ad352) t349.length co72 : Value).ownBlock)) (by (with_reducible repeat (first | apply Kd.R_alloc | apply Kd.R_drewN | apply Kd.R_drew)); exact Kd.R_mono HO_5.out (fun _ hk => ⟨⟨hk.2.1, ⟨hk.2.2.1, hk.2.2.2⟩⟩, hk.1⟩)) hg hat); have n1_ := Aside0.mk (Kd.R_after (ok := (fun k_ => some k_ ≠ (v322 : Value).ownBlock ∧ some k_ ≠ (.slice (some ad353) t330.length co47 : Value).ownBlock ∧ some k_ ≠ (.slice (some ad352) t349.length co72 : Value).ownBlock)) (by (with_reducible repeat (first | apply Kd.R_alloc | apply Kd.R_drewN | apply Kd.R_drew)); exact Kd.R_mono HO_6.out (fun _ hk => ⟨⟨hk.2.1, ⟨hk.2.2.1, hk.2.2.2⟩⟩, hk.1⟩)) hg hat); have n2_ := Aside0.mk (Kd.R_after (ok := (fun k_ => some k_ ≠ (v322 : Value).ownBlock ∧ some k_ ≠ (.slice Ao45 t311.length co45 : Value).ownBlock ∧ some k_ ≠ (.slice (some ad352) t349.length co72 : Value).ownBlock)) (by (with_reducible repeat (first | apply Kd.R_alloc | apply Kd.R_drewN | apply Kd.R_drew)); exact Kd.R_mono HO_11.out (fun _ hk => ⟨⟨hk.2.1, ⟨hk.2.2.1, hk.2.2.2⟩⟩, hk.1⟩)) hg hat); have n3_ := Aside0.mk (Kd.R_after (ok := (fun k_ => some k_ ≠ (v322 : Value).ownBlock ∧ some k_ ≠ (.slice Ao45 t311.length co45 : Value).ownBlock ∧ some k_ ≠ (.slice (some ad353) t330.length co47 : Value).ownBlock)) (by (with_reducible repeat (first | apply Kd.R_alloc | apply Kd.R_drewN | apply Kd.R_drew)); exact Kd.R_mono HO_115.out (fun _ hk => ⟨⟨hk.2.1, ⟨hk.2.2.1, hk.2.2.2⟩⟩, hk.1⟩)) hg hat); have n4_ := Aside0.mk (hb); have n5_ := Aside0.mk (ho); clear HO_5; clear HO_6; clear HO_11; clear HO_115; clear HB; clear HO_4; have HO_5 := n0_; have HO_6 := n1_; have HO_11 := n2_; have HO_115 := n3_; have HB := n4_; have HO356 := n5_; clear n0_ n1_ n2_ n3_ n4_ n5_; clear ho hb hg hat))
                  go_roundg k5
                  case measure => have := HK1.out; have := HK2.out; have := HK3.out; have := HK4.out; have := HK5.out; omega
                  case rel => exact ⟨(y354), (wrap64 (x117_5 + 1)), sD, H', ⟨by have := HK1.out; have := HK2.out; have := HK3.out; have := HK4.out; have := HK5.out; omega⟩, ⟨uR HO356.out⟩, ⟨by (with_reducible repeat (first | apply Kd.R_alloc | apply Kd.R_drewN | apply Kd.R_drew)); exact Kd.R_mono HO_5.out (fun _ hk => ⟨hk.2, ⟨hk.1.1, ⟨hk.1.2.1, hk.1.2.2⟩⟩⟩)⟩, ⟨by (with_reducible repeat (first | apply Kd.R_alloc | apply Kd.R_drewN | apply Kd.R_drew)); exact Kd.R_mono HO_6.out (fun _ hk => ⟨hk.2, ⟨hk.1.1, ⟨hk.1.2.1, hk.1.2.2⟩⟩⟩)⟩, ⟨by (with_reducible repeat (first | apply Kd.R_alloc | apply Kd.R_drewN | apply Kd.R_drew)); exact Kd.R_mono HO_11.out (fun _ hk => ⟨hk.2, ⟨hk.1.1, ⟨hk.1.2.1, hk.1.2.2⟩⟩⟩)⟩, ⟨by (with_reducible repeat (first | apply Kd.R_alloc | apply Kd.R_drewN | apply Kd.R_drew)); exact Kd.R_mono HO_115.out (fun _ hk => ⟨hk.2, ⟨hk.1.1, ⟨hk.1.2.1, hk.1.2.2⟩⟩⟩)⟩, ⟨uB⟩⟩
                 ·rcases ifK H with ⟨c80b0, H⟩ | ⟨c80b0, H⟩
                  ·obtain ⟨ji81, hji81⟩ : ∃ j_ : Int, (wrap64 ((rd t349 x117_5) - 1)) = j_ := ⟨_, rfl⟩
                   first | rw [hji81] at H | simp only [hji81] at H
                   have hji81w : (IntKind.i64.wrap ((rd t349 x117_5) - 1)) = ji81 := (i64_w _).trans hji81
                   obtain ⟨c82b0, c83b0, H⟩ := ifD2 H
                   obtain ⟨c84, H⟩ := ifP H
                   have LMc84 := Aside0.mk c84
                   clear c84
                   generalize hy358 : (x4_5 ++ [rd t311 (ji81)] : List Int) = y358 at H
                   try simp only [Option.bind_some] at H
                   have Ny358 := Aside0.mk hy358.symm
                   clear hy358
                   have H' := Aside0.mk H
                   clear H
                   obtain ⟨ad352, e352, hx352_0, p352, q352⟩ := rI (Kd.R_reads' HO_115.out).2.2 x117_5
                   cases e352
                   obtain ⟨ad357, e357, hx357_0, p357, q357⟩ := rI (Kd.R_reads' HO_6.out).2.2 (ji81)
                   cases e357
                   go_wp2_with (first | ((with_reducible refine gate_builtin (b := .append) (xs := #[.tmp 138, .tmp 144]) rfl ?_); at_builtin; refine Kd.R_append (Kd.int .i64) (w0 := w) w.heap.size rfl (.tmp 138) (.tmp 144) 29 3 (.int .i64 0) 8 rfl Tryz.underlying29 info3 rfl (by decide) (by omega) u4 x4_5 (rd t311 (ji81)) [.int .i64 (rd t311 (ji81))] (fun k_ => some k_ ≠ (v322 : Value).ownBlock ∧ some k_ ≠ (.slice (some ad357) t311.length co45 : Value).ownBlock ∧ some k_ ≠ (.slice Ao47 t330.length co47 : Value).ownBlock ∧ some k_ ≠ (.slice (some ad352) t349.length co72 : Value).ownBlock) (fun _ => False) rfl rfl ?aP (fun _ hk => hk.elim) ?aF ?aO ?aB ?aS ?aL ?_; (case aP => exact rfl); (case aB => exact uB); (case aF => exact (fun k_ hk => ⟨Kd.fresh' (Kd.R_lt (uR HO_5.out)) k_ hk, Kd.fresh' (Kd.R_lt (uR HO_6.out)) k_ hk, Kd.fresh' (Kd.R_lt (uR HO_11.out)) k_ hk, Kd.fresh' (Kd.R_lt (uR HO_115.out)) k_ hk⟩)); (case aO => exact (uR HO_4.out)); (case aS => exact (below_size uB)); (case aL => have := LMc84.out; omega); intro v359 w85 ho hb hg hat; rw [← Ny358.out] at ho; have n0_ := Aside0.mk (Kd.R_after (ok := (fun k_ => some k_ ≠ (.slice (some ad357) t311.length co45 : Value).ownBlock ∧ some k_ ≠ (.slice Ao47 t330.length co47 : Value).ownBlock ∧ some k_ ≠ (.slice (some ad352) t349.length co72 : Value).ownBlock)) (by (with_reducible repeat (first | apply Kd.R_alloc | apply Kd.R_drewN | apply Kd.R_drew)); exact Kd.R_mono HO_5.out (fun _ hk => ⟨⟨hk.2.1, ⟨hk.2.2.1, hk.2.2.2⟩⟩, hk.1⟩)) hg hat); have n1_ := Aside0.mk (Kd.R_after (ok := (fun k_ => some k_ ≠ (v322 : Value).ownBlock ∧ some k_ ≠ (.slice Ao47 t330.length co47 : Value).ownBlock ∧ some k_ ≠ (.slice (some ad352) t349.length co72 : Value).ownBlock)) (by (with_reducible repeat (first | apply Kd.R_alloc | apply Kd.R_drewN | apply Kd.R_drew)); exact Kd.R_mono HO_6.out (fun _ hk => ⟨⟨hk.2.1, ⟨hk.2.2.1, hk.2.2.2⟩⟩, hk.1⟩)) hg hat); have n2_ := Aside0.mk (Kd.R_after (ok := (fun k_ => some k_ ≠ (v322 : Value).ownBlock ∧ some k_ ≠ (.slice (some ad357) t311.length co45 : Value).ownBlock ∧ some k_ ≠ (.slice (some ad352) t349.length co72 : Value).ownBlock)) (by (with_reducible repeat (first | apply Kd.R_alloc | apply Kd.R_drewN | apply Kd.R_drew)); exact Kd.R_mono HO_11.out (fun _ hk => ⟨⟨hk.2.1, ⟨hk.2.2.1, hk.2.2.2⟩⟩, hk.1⟩)) hg hat); have n3_ := Aside0.mk (Kd.R_after (ok := (fun k_ => some k_ ≠ (v322 : Value).ownBlock ∧ some k_ ≠ (.slice (some ad357) t311.length co45 : Value).ownBlock ∧ some k_ ≠ (.slice Ao47 t330.length co47 : Value).ownBlock)) (by (with_reducible repeat (first | apply Kd.R_alloc | apply Kd.R_drewN | apply Kd.R_drew)); exact Kd.R_mono HO_115.out (fun _ hk => ⟨⟨hk.2.1, ⟨hk.2.2.1, hk.2.2.2⟩⟩, hk.1⟩)) hg hat); have n4_ := Aside0.mk (hb); have n5_ := Aside0.mk (ho); clear HO_5; clear HO_6; clear HO_11; clear HO_115; clear HB; clear HO_4; have HO_5 := n0_; have HO_6 := n1_; have HO_11 := n2_; have HO_115 := n3_; have HB := n4_; have HO360 := n5_; clear n0_ n1_ n2_ n3_ n4_ n5_; clear ho hb hg hat))
                   go_roundg k5
                   case measure => have := HK1.out; have := HK2.out; have := HK3.out; have := HK4.out; have := HK5.out; omega
                   case rel => exact ⟨(y358), (wrap64 (x117_5 + 1)), sD, H', ⟨by have := HK1.out; have := HK2.out; have := HK3.out; have := HK4.out; have := HK5.out; omega⟩, ⟨uR HO360.out⟩, ⟨by (with_reducible repeat (first | apply Kd.R_alloc | apply Kd.R_drewN | apply Kd.R_drew)); exact Kd.R_mono HO_5.out (fun _ hk => ⟨hk.2, ⟨hk.1.1, ⟨hk.1.2.1, hk.1.2.2⟩⟩⟩)⟩, ⟨by (with_reducible repeat (first | apply Kd.R_alloc | apply Kd.R_drewN | apply Kd.R_drew)); exact Kd.R_mono HO_6.out (fun _ hk => ⟨hk.2, ⟨hk.1.1, ⟨hk.1.2.1, hk.1.2.2⟩⟩⟩)⟩, ⟨by (with_reducible repeat (first | apply Kd.R_alloc | apply Kd.R_drewN | apply Kd.R_drew)); exact Kd.R_mono HO_11.out (fun _ hk => ⟨hk.2, ⟨hk.1.1, ⟨hk.1.2.1, hk.1.2.2⟩⟩⟩)⟩, ⟨by (with_reducible repeat (first | apply Kd.R_alloc | apply Kd.R_drewN | apply Kd.R_drew)); exact Kd.R_mono HO_115.out (fun _ hk => ⟨hk.2, ⟨hk.1.1, ⟨hk.1.2.1, hk.1.2.2⟩⟩⟩)⟩, ⟨uB⟩⟩
                  ·have H' := Aside0.mk H
                   clear H
                   obtain ⟨ad352, e352, hx352_0, p352, q352⟩ := rI (Kd.R_reads' HO_115.out).2.2 x117_5
                   cases e352
                   go_wp2
                   go_roundg k5
                   case measure => have := HK1.out; have := HK2.out; have := HK3.out; have := HK4.out; have := HK5.out; omega
                   case rel => exact ⟨(x4_5), (wrap64 (x117_5 + 1)), sD, H', ⟨by have := HK1.out; have := HK2.out; have := HK3.out; have := HK4.out; have := HK5.out; omega⟩, ⟨uR HO_4.out⟩, ⟨uR HO_5.out⟩, ⟨uR HO_6.out⟩, ⟨uR HO_11.out⟩, ⟨uR HO_115.out⟩, ⟨uB⟩⟩
                ·have H' := Aside0.mk H
                 clear H
                 obtain ⟨Ao86, co86, eo86⟩ := Kd.R_slice HO_4.out
                 subst eo86
                 go_wp2
                 go_loopg [149] k5 (fun kq v149 w' => ∃ (x5_6 : List Int) (x149_6 : Int), v149 = .int .i64 x149_6 ∧ Aside0 (skew_ranked.l5 sf kq x4_5 x5_6 x4_5 (x4_5.length : Int) x149_6 = some (r1, r2)) ∧ Aside0 (kq ≤ k5) ∧ Aside0 (Kd.R (Kd.int .i64) 3 w' w.heap.size (fun k_ => some k_ ≠ (v322 : Value).ownBlock) (.slice Ao86 x4_5.length co86) x4_5) ∧ Aside0 (Kd.R (Kd.int .i64) 3 w' w.heap.size (fun k_ => some k_ ≠ ((.slice Ao86 x4_5.length co86) : Value).ownBlock ∧ some k_ ≠ ((.slice Ao86 x4_5.length co86) : Value).ownBlock) v322 x5_6) ∧ Aside0 (Kd.R (Kd.int .i64) 3 w' w.heap.size (fun k_ => some k_ ≠ (v322 : Value).ownBlock) (.slice Ao86 x4_5.length co86) x4_5) ∧ Aside0 (Below w.heap.size w w'))
                 case atStart => exact ⟨(x5_2), (0), sD, H', ⟨Nat.le_refl _⟩, ⟨by (with_reducible repeat (first | apply Kd.R_alloc | apply Kd.R_drewN | apply Kd.R_drew)); exact Kd.R_mono HO_4.out (fun _ hk => hk.1)⟩, ⟨by (with_reducible repeat (first | apply Kd.R_alloc | apply Kd.R_drewN | apply Kd.R_drew)); exact Kd.R_mono HO_5.out (fun _ hk => ⟨hk.1, hk.1⟩)⟩, ⟨by (with_reducible repeat (first | apply Kd.R_alloc | apply Kd.R_drewN | apply Kd.R_drew)); exact Kd.R_mono HO_4.out (fun _ hk => hk.1)⟩, ⟨uB⟩⟩
                 case round =>
                  clear H'
                  try clear c1
                  try clear c2
                  try clear p2
                  try clear q2
                  try clear hx2
                  try clear hf2
                  try clear c3
                  try clear p3
                  try clear q3
                  try clear hx3
                  try clear hf3
                  try clear c4
                  try clear c5
                  try clear c5b0
                  try clear c6
                  try clear p6
                  try clear c7
                  try clear c8
                  try clear c10
                  try clear c12
                  try clear c13
                  try clear c13b0
                  try clear c13b1
                  try clear c14
                  try clear c14b0
                  try clear c14b1
                  try clear c18
                  try clear c18b0
                  try clear c19
                  try clear c19b0
                  try clear c20
                  try clear c20b0
                  try clear c21
                  try clear c21b0
                  try clear c21b1
                  try clear c22
                  try clear c22b0
                  try clear c23
                  try clear c23b0
                  try clear p24
                  try clear q24
                  try clear hx24
                  try clear hf24
                  try clear c28
                  try clear c28b0
                  try clear c29
                  try clear c29b0
                  try clear c31
                  try clear c32
                  try clear c32b0
                  try clear p32
                  try clear q32
                  try clear hx32
                  try clear c33
                  try clear c33b0
                  try clear p33
                  try clear q33
                  try clear hx33
                  try clear p34
                  try clear q34
                  try clear hx34
                  try clear hf34
                  try clear p35
                  try clear q35
                  try clear hx35
                  try clear c37
                  try clear c37b0
                  try clear c38
                  try clear c38b0
                  try clear p39
                  try clear q39
                  try clear hx39
                  try clear hf39
                  try clear c42
                  try clear c42b0
                  try clear c42b1
                  try clear c48
                  try clear c48b0
                  try clear c49
                  try clear c49b0
                  try clear c50
                  try clear c50b0
                  try clear c51
                  try clear c51b0
                  try clear c52
                  try clear c52b0
                  try clear c53
                  try clear c56
                  try clear c61
                  try clear c61b0
                  try clear c62
                  try clear c62b0
                  try clear c63
                  try clear c63b0
                  try clear c64
                  try clear c64b0
                  try clear p64
                  try clear c65
                  try clear c65b0
                  try clear c66
                  try clear c73
                  try clear c73b0
                  try clear c74
                  try clear c74b0
                  try clear c75
                  try clear c75b0
                  try clear c76
                  try clear c76b0
                  try clear c77
                  try clear c77b0
                  try clear c78
                  try clear c80
                  try clear c80b0
                  try clear c82
                  try clear c82b0
                  try clear c83
                  try clear c83b0
                  try clear c84
                  try clear hx24_0
                  try clear hx324_0
                  try clear hx326_0
                  try clear hx333_0
                  try clear hx334_0
                  try clear hx344_0
                  try clear hx345_0
                  try clear hx34_0
                  try clear hx352_0
                  try clear hx353_0
                  try clear hx357_0
                  try clear hx39_0
                  try clear p2
                  try clear p24
                  try clear p3
                  try clear p32
                  try clear p324
                  try clear p326
                  try clear p33
                  try clear p333
                  try clear p334
                  try clear p34
                  try clear p344
                  try clear p345
                  try clear p352
                  try clear p353
                  try clear p357
                  try clear p39
                  try clear p6
                  try clear p64
                  try clear q2
                  try clear q24
                  try clear q3
                  try clear q32
                  try clear q324
                  try clear q326
                  try clear q33
                  try clear q333
                  try clear q334
                  try clear q34
                  try clear q344
                  try clear q345
                  try clear q352
                  try clear q353
                  try clear q357
                  try clear q39
                  obtain ⟨x5_6, x149_6, rfl, HA, HK6, HO_4, HO_5, HO_147, HB⟩ := hrel
                  cases gk with
                  | zero => exact absurd HA.out (by simp [skew_ranked.l5])
                  | succ k6 =>
                   have H := HA.out
                   clear HA
                   simp only [skew_ranked.l5] at H
                   rcases ifC H with ⟨c87b0, H⟩ | ⟨c87b0, H⟩
                   ·obtain ⟨c88b0, c89b0, H⟩ := ifD2 H
                    obtain ⟨c90b0, c91b0, H⟩ := ifD2 H
                    generalize hy362 : (x5_6.set ((rd x4_5 x149_6) : Int).toNat (wrap64 (x149_6 + 1)) : List Int) = y362 at H
                    try simp only [Option.bind_some] at H
                    have Ny362 := Aside0.mk hy362.symm
                    clear hy362
                    have H' := Aside0.mk H
                    clear H
                    obtain ⟨ad361, e361, hx361_0, p361, q361⟩ := rI (Kd.R_reads' HO_147.out).2.2 x149_6
                    cases e361
                    have p92 : 0 ≤ ((rd x4_5 x149_6) : Int) := dT
                    have q92 : ((rd x4_5 x149_6) : Int) < ((x5_6.length : Int) : Int) := dT
                    obtain ⟨go92, co92, eo92, gb92, gl92, cl92, HG92⟩ := Kd.R_form HO_5.out (by omega)
                    (first | cases eo92 | (injection eo92 with ea_ en_ ec_; (first | subst ea_ | (injection ea_ with ea_; subst ea_)); subst ec_; clear en_))
                    have GB92 := Aside0.mk gb92
                    have GG92 := Aside0.mk HG92
                    clear gb92 gl92 HG92
                    obtain ⟨hx92_0, hf92_0⟩ := Kd.R_celln 0 HO_5.out ((rd x4_5 x149_6) : Int) p92 q92
                    replace p92 := eq_true p92
                    replace q92 := eq_true q92
                    have HP93 := Kd.R_putg HO_5.out ((rd x4_5 x149_6) : Int) (wrap64 (x149_6 + 1))
                    go_wp2_with (first | ((with_reducible refine gate_store (t := 3) (p := 158) rfl ?_); refine store_event (t := 3) (p := 158) (v := ?vo_w94) (w1 := (wr.setCell ⟨go92, ((rd x4_5 x149_6) : Int).toNat, none⟩ (.int .i64 (wrap64 (x149_6 + 1))))) ?hg ?ho ?hn ?hr ?_; (case ho => rfl); (case hg => rfl); (case hn => rfl); (case hr => first | (go_simp; done) | (go_simp; rfl)); intro w94 hw; have hg : wr.grownBy w94 (some go92) := (by rw [hw]; exact HP93.2); have hp_ : Kd.R (Kd.int .i64) 3 w94 w.heap.size (fun k_ => some k_ ≠ (.slice (some ad361) x4_5.length co86 : Value).ownBlock ∧ some k_ ≠ (.slice (some ad361) x4_5.length co86 : Value).ownBlock) (.slice (some ⟨go92, 0, none⟩) x5_6.length co92) y362 := (by rw [hw, Ny362.out]; first | exact HP93.1 | exact Kd.R_mono (d := Kd.int .i64) HP93.1 (fun _ hk => ⟨hk.1, ⟨hk.2.2, hk.2.1⟩⟩)); clear HP93; have n0_ := Aside0.mk (Kd.R_after (v := (.slice (some ⟨go92, 0, none⟩) x5_6.length co92)) (v1 := (.slice (some ⟨go92, 0, none⟩) x5_6.length co92)) (ok := (fun _ => True)) (by (with_reducible repeat (first | apply Kd.R_alloc | apply Kd.R_drewN | apply Kd.R_drew)); exact Kd.R_mono HO_4.out (fun _ hk => ⟨trivial, hk⟩)) hg (.inl rfl)); have n1_ := Aside0.mk (hp_); have n2_ := Aside0.mk (Kd.R_after (v := (.slice (some ⟨go92, 0, none⟩) x5_6.length co92)) (v1 := (.slice (some ⟨go92, 0, none⟩) x5_6.length co92)) (ok := (fun _ => True)) (by (with_reducible repeat (first | apply Kd.R_alloc | apply Kd.R_drewN | apply Kd.R_drew)); exact Kd.R_mono HO_147.out (fun _ hk => ⟨trivial, hk⟩)) hg (.inl rfl)); have n3_ := Aside0.mk ((by rw [hw]; exact below_set (HB.out) GB92.out : Below w.heap.size w w94)); clear HO_4; clear HO_5; clear HO_147; clear HB; have HO_4 := n0_; have HO_5 := n1_; have HO_147 := n2_; have HB := n3_; clear n0_ n1_ n2_ n3_; clear hg hw hp_))
                    go_roundg k6
                    case measure => have := HK1.out; have := HK2.out; have := HK3.out; have := HK4.out; have := HK5.out; have := HK6.out; omega
                    case rel => exact ⟨(y362), (wrap64 (x149_6 + 1)), sD, H', ⟨by have := HK1.out; have := HK2.out; have := HK3.out; have := HK4.out; have := HK5.out; have := HK6.out; omega⟩, ⟨by (with_reducible repeat (first | apply Kd.R_alloc | apply Kd.R_drewN | apply Kd.R_drew)); exact Kd.R_mono HO_4.out (fun _ hk => hk.2)⟩, ⟨uR HO_5.out⟩, ⟨by (with_reducible repeat (first | apply Kd.R_alloc | apply Kd.R_drewN | apply Kd.R_drew)); exact Kd.R_mono HO_147.out (fun _ hk => hk.2)⟩, ⟨uB⟩⟩
                   ·simp only [Option.some.injEq, Prod.mk.injEq] at H
                    obtain ⟨rfl, rfl⟩ := H
                    go_wp2
                    go_ret2
                    exact ⟨_, _, by first | rfl | (simp [errW_none, errW_some] <;> rfl) | (simp only [← hji12]; first | rfl | (simp [errW_none, errW_some] <;> rfl)) | (simp [*, errW_none, errW_some] <;> rfl), uR HO_4.out, by (with_reducible repeat (first | apply Kd.R_alloc | apply Kd.R_drewN | apply Kd.R_drew)); exact Kd.R_mono HO_5.out (fun _ hk => hk.1), uB⟩
end Go.Proofs.YtbbpplnnegdenaaGreat.PTopPipe
end
section
namespace Go.Proofs.YtbbpplnnegdenaaGreat.PTopPipe
open Go.RowKit Go.Proofs.YtbbpplnnegdenaaGreatW.PrintWords Go.Proofs.YtbbpplnnegdenaaGreatW.PrintLast Go.Proofs.YtbbpplnnegdenaaGreatW.PrintMore
attribute [local go_sem] max2_int min2_int max_two min_two max_three min_three max_four min_four
set_option linter.unusedVariables false
set_option linter.unusedSimpArgs false
def skew_less.l0 : Nat → List Int → List Int → Int → Int → Option (Bool)
  | 0, _, _, _, _ => none
  | k + 1, x0, x1, x2, x3 => (skew_key.f x0 x2).bind fun t363 => ((skew_key.f x0 x3).bind fun t364 => (if t363 = t364 then (if (Int.tmod (wrap64 (x2 + 1)) 3) = 0 then (skew_less.l0 k x0 x1 (wrap64 (x2 + 1)) (wrap64 (x3 + 1))) else (if (Int.tmod (wrap64 (x3 + 1)) 3) = 0 then (skew_less.l0 k x0 x1 (wrap64 (x2 + 1)) (wrap64 (x3 + 1))) else (if 0 ≤ (mn (wrap64 (x2 + 1)) (x0.length : Int)) then (if (mn (wrap64 (x2 + 1)) (x0.length : Int)) < (x1.length : Int) then (if 0 ≤ (mn (wrap64 (x3 + 1)) (x0.length : Int)) then (if (mn (wrap64 (x3 + 1)) (x0.length : Int)) < (x1.length : Int) then (some (decide ((rd x1 (mn (wrap64 (x2 + 1)) (x0.length : Int))) < (rd x1 (mn (wrap64 (x3 + 1)) (x0.length : Int)))))) else (none)) else (none)) else (none)) else (none)))) else (some (decide (t363 < t364)))))
def skew_less.f (k : Nat) (l0 : List Int) (l1 : List Int) (a2 : Int) (a3 : Int) : Option (Bool) := skew_less.l0 k l0 l1 a2 a3
theorem skew_less.mono_l : ∀ k, (∀ y0 y1 y2 y3, LeO (skew_less.l0 k y0 y1 y2 y3) (skew_less.l0 (k + 1) y0 y1 y2 y3))
  | 0 => fun _ _ _ _ r h => by simp [skew_less.l0] at h
  | k + 1 => by
    have ih0 := skew_less.mono_l k
    · intro y0 y1 y2 y3
      unfold skew_less.l0
      exact mB
theorem skew_less.mono : ∀ a0 a1 a2 a3 k, LeO (skew_less.f k a0 a1 a2 a3) (skew_less.f (k + 1) a0 a1 a2 a3) := by
  intro a0 a1 a2 a3 k
  have ih0 := skew_less.mono_l k
  unfold skew_less.f
  exact mB
set_option maxHeartbeats 8000000 in
set_option maxRecDepth 100000 in
theorem skew_less.calls (k : Nat) (A0 : Option Addr) (c0 : Nat) (l0 : List Int) (A1 : Option Addr) (c1 : Nat) (l1 : List Int) (a2 : Int) (a3 : Int) (r : Bool) (w : World) (hr0 : Kd.C (Kd.int .i64) w A0 l0.length l0) (hc0 : l0.length ≤ c0) (hr1 : Kd.C (Kd.int .i64) w A1 l1.length l1) (hc1 : l1.length ≤ c1) (h : skew_less.f k l0 l1 a2 a3 = some r) :
    Calls Tryz.prog 132 #[.slice A0 l0.length c0, .slice A1 l1.length c1, .int .i64 a2, .int .i64 a3] w fun e w' => e = .returned (.bool r) ∧ Below w.heap.size w w' := by
 have HR0 := Aside0.mk hr0
 have HC0 := Aside0.mk hc0
 clear hr0 hc0
 have HR1 := Aside0.mk hr1
 have HC1 := Aside0.mk hc1
 clear hr1 hc1
 have HB := Aside0.mk (Below.refl w.heap.size w)
 have H := h
 clear h
 unfold skew_less.f at H
 have H' := Aside0.mk H
 clear H
 go_enter Tryz.func132, Tryz.ntmps132
 go_wp2
 repeat (go_quiet (fail); try go_wp2)
 go_loopg [2, 3] k (fun kq v2 v3 w' => ∃ (x2_1 : Int) (x3_1 : Int), v2 = .int .i64 x2_1 ∧ v3 = .int .i64 x3_1 ∧ Aside0 (skew_less.l0 kq l0 l1 x2_1 x3_1 = some r) ∧ Aside0 (kq ≤ k) ∧ Aside0 (Below w.heap.size w w'))
 case atStart => exact ⟨(a2), (a3), sD, sD, H', ⟨Nat.le_refl _⟩, ⟨uB⟩⟩
 case round =>
  clear H'
  try clear c1
  try clear p2
  obtain ⟨x2_1, x3_1, rfl, rfl, HA, HK1, HB⟩ := hrel
  cases gk with
  | zero => exact absurd HA.out (by simp [skew_less.l0])
  | succ k1 =>
   have H := HA.out
   clear HA
   simp only [skew_less.l0] at H
   obtain ⟨t363, A5, H⟩ := bdS H
   try dsimp only at H
   obtain ⟨t364, A6, H⟩ := bdS H
   try dsimp only at H
   by_cases c7 : t363 = t364
   ·rw [if_pos c7] at H
    have c7b0 : (t363 == t364) = true := beq_iff_eq.mpr c7
    have c7b1 : (t363 != t364) = false := bne_eq_false_iff_eq.mpr c7
    clear c7
    by_cases c8 : (Int.tmod (wrap64 (x2_1 + 1)) 3) = 0
    ·rw [if_pos c8] at H
     have c8b0 : ((Int.tmod (wrap64 (x2_1 + 1)) 3) == 0) = true := beq_iff_eq.mpr c8
     have c8b1 : ((Int.tmod (wrap64 (x2_1 + 1)) 3) != 0) = false := bne_eq_false_iff_eq.mpr c8
     clear c8
     have H' := Aside0.mk H
     clear H
     go_wp2_with (first | (go_at_call 147; (with_reducible refine (skew_key.calls _ _ l0 x2_1 t363 _ ?side1 ?side2 A5.out).mono ?_); (case side1 => exact uC (Kd.C_below HR0.out HB.out)); (case side2 => exact HC0.out); rintro e w' ⟨rfl, ⟨nd, rfl⟩⟩; (try first | exact ⟨rfl, _, World.drewN_drewN _ _ _⟩ | exact ⟨rfl, _, Eq.trans (World.drewN_drewN _ _ _) (congrArg (World.drewN _) (Nat.add_assoc _ _ _))⟩)) | (go_at_call 147; (with_reducible refine (skew_key.calls _ _ l0 x3_1 t364 _ ?side1 ?side2 A6.out).mono ?_); (case side1 => repeat (first | exact (Kd.C_below HR0.out uB) | (with_reducible refine Kd.C_alloc ?_ _) | (with_reducible refine Kd.C_drewN ?_ _) | (with_reducible refine Kd.C_drew ?_))); (case side2 => exact HC0.out); rintro e w' ⟨rfl, ⟨nd, rfl⟩⟩; (try first | exact ⟨rfl, _, World.drewN_drewN _ _ _⟩ | exact ⟨rfl, _, Eq.trans (World.drewN_drewN _ _ _) (congrArg (World.drewN _) (Nat.add_assoc _ _ _))⟩)))
     repeat (go_quiet (first | (go_at_call 147; (with_reducible refine (skew_key.calls _ _ l0 x2_1 t363 _ ?side1 ?side2 A5.out).mono ?_); (case side1 => exact uC (Kd.C_below HR0.out HB.out)); (case side2 => exact HC0.out); rintro e w' ⟨rfl, ⟨nd, rfl⟩⟩; (try first | exact ⟨rfl, _, World.drewN_drewN _ _ _⟩ | exact ⟨rfl, _, Eq.trans (World.drewN_drewN _ _ _) (congrArg (World.drewN _) (Nat.add_assoc _ _ _))⟩)) | (go_at_call 147; (with_reducible refine (skew_key.calls _ _ l0 x3_1 t364 _ ?side1 ?side2 A6.out).mono ?_); (case side1 => repeat (first | exact (Kd.C_below HR0.out uB) | (with_reducible refine Kd.C_alloc ?_ _) | (with_reducible refine Kd.C_drewN ?_ _) | (with_reducible refine Kd.C_drew ?_))); (case side2 => exact HC0.out); rintro e w' ⟨rfl, ⟨nd, rfl⟩⟩; (try first | exact ⟨rfl, _, World.drewN_drewN _ _ _⟩ | exact ⟨rfl, _, Eq.trans (World.drewN_drewN _ _ _) (congrArg (World.drewN _) (Nat.add_assoc _ _ _))⟩))); try go_wp2_with (first | (go_at_call 147; (with_reducible refine (skew_key.calls _ _ l0 x2_1 t363 _ ?side1 ?side2 A5.out).mono ?_); (case side1 => exact uC (Kd.C_below HR0.out HB.out)); (case side2 => exact HC0.out); rintro e w' ⟨rfl, ⟨nd, rfl⟩⟩; (try first | exact ⟨rfl, _, World.drewN_drewN _ _ _⟩ | exact ⟨rfl, _, Eq.trans (World.drewN_drewN _ _ _) (congrArg (World.drewN _) (Nat.add_assoc _ _ _))⟩)) | (go_at_call 147; (with_reducible refine (skew_key.calls _ _ l0 x3_1 t364 _ ?side1 ?side2 A6.out).mono ?_); (case side1 => repeat (first | exact (Kd.C_below HR0.out uB) | (with_reducible refine Kd.C_alloc ?_ _) | (with_reducible refine Kd.C_drewN ?_ _) | (with_reducible refine Kd.C_drew ?_))); (case side2 => exact HC0.out); rintro e w' ⟨rfl, ⟨nd, rfl⟩⟩; (try first | exact ⟨rfl, _, World.drewN_drewN _ _ _⟩ | exact ⟨rfl, _, Eq.trans (World.drewN_drewN _ _ _) (congrArg (World.drewN _) (Nat.add_assoc _ _ _))⟩))))
     go_roundg k1
     case measure => have := HK1.out; omega
     case rel => exact ⟨(wrap64 (x2_1 + 1)), (wrap64 (x3_1 + 1)), sD, sD, H', ⟨by have := HK1.out; omega⟩, ⟨uB⟩⟩
    ·rw [if_neg c8] at H
     have c8b0 : ((Int.tmod (wrap64 (x2_1 + 1)) 3) == 0) = false := beq_eq_false_iff_ne.mpr c8
     have c8b1 : ((Int.tmod (wrap64 (x2_1 + 1)) 3) != 0) = true := bne_iff_ne.mpr c8
     by_cases c9 : (Int.tmod (wrap64 (x3_1 + 1)) 3) = 0
     ·rw [if_pos c9] at H
      have c9b0 : ((Int.tmod (wrap64 (x3_1 + 1)) 3) == 0) = true := beq_iff_eq.mpr c9
      have c9b1 : ((Int.tmod (wrap64 (x3_1 + 1)) 3) != 0) = false := bne_eq_false_iff_eq.mpr c9
      clear c9
      have H' := Aside0.mk H
      clear H
      go_wp2_with (first | (go_at_call 147; (with_reducible refine (skew_key.calls _ _ l0 x2_1 t363 _ ?side1 ?side2 A5.out).mono ?_); (case side1 => exact uC (Kd.C_below HR0.out HB.out)); (case side2 => exact HC0.out); rintro e w' ⟨rfl, ⟨nd, rfl⟩⟩; (try first | exact ⟨rfl, _, World.drewN_drewN _ _ _⟩ | exact ⟨rfl, _, Eq.trans (World.drewN_drewN _ _ _) (congrArg (World.drewN _) (Nat.add_assoc _ _ _))⟩)) | (go_at_call 147; (with_reducible refine (skew_key.calls _ _ l0 x3_1 t364 _ ?side1 ?side2 A6.out).mono ?_); (case side1 => repeat (first | exact (Kd.C_below HR0.out uB) | (with_reducible refine Kd.C_alloc ?_ _) | (with_reducible refine Kd.C_drewN ?_ _) | (with_reducible refine Kd.C_drew ?_))); (case side2 => exact HC0.out); rintro e w' ⟨rfl, ⟨nd, rfl⟩⟩; (try first | exact ⟨rfl, _, World.drewN_drewN _ _ _⟩ | exact ⟨rfl, _, Eq.trans (World.drewN_drewN _ _ _) (congrArg (World.drewN _) (Nat.add_assoc _ _ _))⟩)))
      repeat (go_quiet (first | (go_at_call 147; (with_reducible refine (skew_key.calls _ _ l0 x2_1 t363 _ ?side1 ?side2 A5.out).mono ?_); (case side1 => exact uC (Kd.C_below HR0.out HB.out)); (case side2 => exact HC0.out); rintro e w' ⟨rfl, ⟨nd, rfl⟩⟩; (try first | exact ⟨rfl, _, World.drewN_drewN _ _ _⟩ | exact ⟨rfl, _, Eq.trans (World.drewN_drewN _ _ _) (congrArg (World.drewN _) (Nat.add_assoc _ _ _))⟩)) | (go_at_call 147; (with_reducible refine (skew_key.calls _ _ l0 x3_1 t364 _ ?side1 ?side2 A6.out).mono ?_); (case side1 => repeat (first | exact (Kd.C_below HR0.out uB) | (with_reducible refine Kd.C_alloc ?_ _) | (with_reducible refine Kd.C_drewN ?_ _) | (with_reducible refine Kd.C_drew ?_))); (case side2 => exact HC0.out); rintro e w' ⟨rfl, ⟨nd, rfl⟩⟩; (try first | exact ⟨rfl, _, World.drewN_drewN _ _ _⟩ | exact ⟨rfl, _, Eq.trans (World.drewN_drewN _ _ _) (congrArg (World.drewN _) (Nat.add_assoc _ _ _))⟩))); try go_wp2_with (first | (go_at_call 147; (with_reducible refine (skew_key.calls _ _ l0 x2_1 t363 _ ?side1 ?side2 A5.out).mono ?_); (case side1 => exact uC (Kd.C_below HR0.out HB.out)); (case side2 => exact HC0.out); rintro e w' ⟨rfl, ⟨nd, rfl⟩⟩; (try first | exact ⟨rfl, _, World.drewN_drewN _ _ _⟩ | exact ⟨rfl, _, Eq.trans (World.drewN_drewN _ _ _) (congrArg (World.drewN _) (Nat.add_assoc _ _ _))⟩)) | (go_at_call 147; (with_reducible refine (skew_key.calls _ _ l0 x3_1 t364 _ ?side1 ?side2 A6.out).mono ?_); (case side1 => repeat (first | exact (Kd.C_below HR0.out uB) | (with_reducible refine Kd.C_alloc ?_ _) | (with_reducible refine Kd.C_drewN ?_ _) | (with_reducible refine Kd.C_drew ?_))); (case side2 => exact HC0.out); rintro e w' ⟨rfl, ⟨nd, rfl⟩⟩; (try first | exact ⟨rfl, _, World.drewN_drewN _ _ _⟩ | exact ⟨rfl, _, Eq.trans (World.drewN_drewN _ _ _) (congrArg (World.drewN _) (Nat.add_assoc _ _ _))⟩))))
      go_roundg k1
      case measure => have := HK1.out; omega
      case rel => exact ⟨(wrap64 (x2_1 + 1)), (wrap64 (x3_1 + 1)), sD, sD, H', ⟨by have := HK1.out; omega⟩, ⟨uB⟩⟩
     ·rw [if_neg c9] at H
      have c9b0 : ((Int.tmod (wrap64 (x3_1 + 1)) 3) == 0) = false := beq_eq_false_iff_ne.mpr c9
      have c9b1 : ((Int.tmod (wrap64 (x3_1 + 1)) 3) != 0) = true := bne_iff_ne.mpr c9
      obtain ⟨ji10, hji10⟩ : ∃ j_ : Int, (mn (wrap64 (x2_1 + 1)) (l0.length : Int)) = j_ := ⟨_, rfl⟩
      first | rw [hji10] at H | simp only [hji10] at H
      (try rw [hji10] at A5)
      (try rw [hji10] at A6)
      have hji10_ : (if (l0.length : Int) < (wrap64 (x2_1 + 1)) then (l0.length : Int) else (wrap64 (x2_1 + 1))) = ji10 := hji10
      obtain ⟨c11b0, c12b0, H⟩ := ifD2 H
      obtain ⟨ji13, hji13⟩ : ∃ j_ : Int, (mn (wrap64 (x3_1 + 1)) (l0.length : Int)) = j_ := ⟨_, rfl⟩
      first | rw [hji13] at H | simp only [hji13] at H
      (try rw [hji13] at A5)
      (try rw [hji13] at A6)
      have hji13_ : (if (l0.length : Int) < (wrap64 (x3_1 + 1)) then (l0.length : Int) else (wrap64 (x3_1 + 1))) = ji13 := hji13
      obtain ⟨c14b0, c15b0, H⟩ := ifD2 H
      obtain rfl := Option.some.inj H
      go_wp2_with (first | (go_at_call 147; (with_reducible refine (skew_key.calls _ _ l0 x2_1 t363 _ ?side1 ?side2 A5.out).mono ?_); (case side1 => exact uC (Kd.C_below HR0.out HB.out)); (case side2 => exact HC0.out); rintro e w' ⟨rfl, ⟨nd, rfl⟩⟩; (try first | exact ⟨rfl, _, World.drewN_drewN _ _ _⟩ | exact ⟨rfl, _, Eq.trans (World.drewN_drewN _ _ _) (congrArg (World.drewN _) (Nat.add_assoc _ _ _))⟩)) | (go_at_call 147; (with_reducible refine (skew_key.calls _ _ l0 x3_1 t364 _ ?side1 ?side2 A6.out).mono ?_); (case side1 => repeat (first | exact (Kd.C_below HR0.out uB) | (with_reducible refine Kd.C_alloc ?_ _) | (with_reducible refine Kd.C_drewN ?_ _) | (with_reducible refine Kd.C_drew ?_))); (case side2 => exact HC0.out); rintro e w' ⟨rfl, ⟨nd, rfl⟩⟩; (try first | exact ⟨rfl, _, World.drewN_drewN _ _ _⟩ | exact ⟨rfl, _, Eq.trans (World.drewN_drewN _ _ _) (congrArg (World.drewN _) (Nat.add_assoc _ _ _))⟩); have p365 : 0 ≤ ((ji10) : Int) := dT; have q365 : (ji10) < (l1.length : Int) := dT; obtain ⟨ad365, e365, hx365_0⟩ := Kd.at_int HR1.out (ji10) p365 q365; cases e365; replace hx365_0 := (HB.out.cell (World.block_lt_of_cell? w _ hx365_0)).trans hx365_0; replace p365 := eq_true p365; replace q365 := eq_true q365; have p366 : 0 ≤ ((ji13) : Int) := dT; have q366 : (ji13) < (l1.length : Int) := dT; obtain ⟨ad366, e366, hx366_0⟩ := Kd.at_int HR1.out (ji13) p366 q366; obtain rfl : ad365 = ad366 := (by injection e366); replace hx366_0 := (HB.out.cell (World.block_lt_of_cell? w _ hx366_0)).trans hx366_0; replace p366 := eq_true p366; replace q366 := eq_true q366))
      repeat (go_quiet (first | (go_at_call 147; (with_reducible refine (skew_key.calls _ _ l0 x2_1 t363 _ ?side1 ?side2 A5.out).mono ?_); (case side1 => exact uC (Kd.C_below HR0.out HB.out)); (case side2 => exact HC0.out); rintro e w' ⟨rfl, ⟨nd, rfl⟩⟩; (try first | exact ⟨rfl, _, World.drewN_drewN _ _ _⟩ | exact ⟨rfl, _, Eq.trans (World.drewN_drewN _ _ _) (congrArg (World.drewN _) (Nat.add_assoc _ _ _))⟩)) | (go_at_call 147; (with_reducible refine (skew_key.calls _ _ l0 x3_1 t364 _ ?side1 ?side2 A6.out).mono ?_); (case side1 => repeat (first | exact (Kd.C_below HR0.out uB) | (with_reducible refine Kd.C_alloc ?_ _) | (with_reducible refine Kd.C_drewN ?_ _) | (with_reducible refine Kd.C_drew ?_))); (case side2 => exact HC0.out); rintro e w' ⟨rfl, ⟨nd, rfl⟩⟩; (try first | exact ⟨rfl, _, World.drewN_drewN _ _ _⟩ | exact ⟨rfl, _, Eq.trans (World.drewN_drewN _ _ _) (congrArg (World.drewN _) (Nat.add_assoc _ _ _))⟩); have p365 : 0 ≤ ((ji10) : Int) := dT; have q365 : (ji10) < (l1.length : Int) := dT; obtain ⟨ad365, e365, hx365_0⟩ := Kd.at_int HR1.out (ji10) p365 q365; cases e365; replace hx365_0 := (HB.out.cell (World.block_lt_of_cell? w _ hx365_0)).trans hx365_0; replace p365 := eq_true p365; replace q365 := eq_true q365; have p366 : 0 ≤ ((ji13) : Int) := dT; have q366 : (ji13) < (l1.length : Int) := dT; obtain ⟨ad366, e366, hx366_0⟩ := Kd.at_int HR1.out (ji13) p366 q366; obtain rfl : ad365 = ad366 := (by injection e366); replace hx366_0 := (HB.out.cell (World.block_lt_of_cell? w _ hx366_0)).trans hx366_0; replace p366 := eq_true p366; replace q366 := eq_true q366)); try go_wp2_with (first | (go_at_call 147; (with_reducible refine (skew_key.calls _ _ l0 x2_1 t363 _ ?side1 ?side2 A5.out).mono ?_); (case side1 => exact uC (Kd.C_below HR0.out HB.out)); (case side2 => exact HC0.out); rintro e w' ⟨rfl, ⟨nd, rfl⟩⟩; (try first | exact ⟨rfl, _, World.drewN_drewN _ _ _⟩ | exact ⟨rfl, _, Eq.trans (World.drewN_drewN _ _ _) (congrArg (World.drewN _) (Nat.add_assoc _ _ _))⟩)) | (go_at_call 147; (with_reducible refine (skew_key.calls _ _ l0 x3_1 t364 _ ?side1 ?side2 A6.out).mono ?_); (case side1 => repeat (first | exact (Kd.C_below HR0.out uB) | (with_reducible refine Kd.C_alloc ?_ _) | (with_reducible refine Kd.C_drewN ?_ _) | (with_reducible refine Kd.C_drew ?_))); (case side2 => exact HC0.out); rintro e w' ⟨rfl, ⟨nd, rfl⟩⟩; (try first | exact ⟨rfl, _, World.drewN_drewN _ _ _⟩ | exact ⟨rfl, _, Eq.trans (World.drewN_drewN _ _ _) (congrArg (World.drewN _) (Nat.add_assoc _ _ _))⟩); have p365 : 0 ≤ ((ji10) : Int) := dT; have q365 : (ji10) < (l1.length : Int) := dT; obtain ⟨ad365, e365, hx365_0⟩ := Kd.at_int HR1.out (ji10) p365 q365; cases e365; replace hx365_0 := (HB.out.cell (World.block_lt_of_cell? w _ hx365_0)).trans hx365_0; replace p365 := eq_true p365; replace q365 := eq_true q365; have p366 : 0 ≤ ((ji13) : Int) := dT; have q366 : (ji13) < (l1.length : Int) := dT; obtain ⟨ad366, e366, hx366_0⟩ := Kd.at_int HR1.out (ji13) p366 q366; obtain rfl : ad365 = ad366 := (by injection e366); replace hx366_0 := (HB.out.cell (World.block_lt_of_cell? w _ hx366_0)).trans hx366_0; replace p366 := eq_true p366; replace q366 := eq_true q366)))
      go_ret
      exact ⟨by first | rfl | (simp [errW_none, errW_some] <;> rfl) | (simp only [← hji10, ← hji13]; first | rfl | (simp [errW_none, errW_some] <;> rfl)) | (simp [*, errW_none, errW_some] <;> rfl), uB⟩
   ·rw [if_neg c7] at H
    have c7b0 : (t363 == t364) = false := beq_eq_false_iff_ne.mpr c7
    have c7b1 : (t363 != t364) = true := bne_iff_ne.mpr c7
    obtain rfl := Option.some.inj H
    go_wp2_with (first | (go_at_call 147; (with_reducible refine (skew_key.calls _ _ l0 x2_1 t363 _ ?side1 ?side2 A5.out).mono ?_); (case side1 => exact uC (Kd.C_below HR0.out HB.out)); (case side2 => exact HC0.out); rintro e w' ⟨rfl, ⟨nd, rfl⟩⟩; (try first | exact ⟨rfl, _, World.drewN_drewN _ _ _⟩ | exact ⟨rfl, _, Eq.trans (World.drewN_drewN _ _ _) (congrArg (World.drewN _) (Nat.add_assoc _ _ _))⟩)) | (go_at_call 147; (with_reducible refine (skew_key.calls _ _ l0 x3_1 t364 _ ?side1 ?side2 A6.out).mono ?_); (case side1 => repeat (first | exact (Kd.C_below HR0.out uB) | (with_reducible refine Kd.C_alloc ?_ _) | (with_reducible refine Kd.C_drewN ?_ _) | (with_reducible refine Kd.C_drew ?_))); (case side2 => exact HC0.out); rintro e w' ⟨rfl, ⟨nd, rfl⟩⟩; (try first | exact ⟨rfl, _, World.drewN_drewN _ _ _⟩ | exact ⟨rfl, _, Eq.trans (World.drewN_drewN _ _ _) (congrArg (World.drewN _) (Nat.add_assoc _ _ _))⟩)))
    repeat (go_quiet (first | (go_at_call 147; (with_reducible refine (skew_key.calls _ _ l0 x2_1 t363 _ ?side1 ?side2 A5.out).mono ?_); (case side1 => exact uC (Kd.C_below HR0.out HB.out)); (case side2 => exact HC0.out); rintro e w' ⟨rfl, ⟨nd, rfl⟩⟩; (try first | exact ⟨rfl, _, World.drewN_drewN _ _ _⟩ | exact ⟨rfl, _, Eq.trans (World.drewN_drewN _ _ _) (congrArg (World.drewN _) (Nat.add_assoc _ _ _))⟩)) | (go_at_call 147; (with_reducible refine (skew_key.calls _ _ l0 x3_1 t364 _ ?side1 ?side2 A6.out).mono ?_); (case side1 => repeat (first | exact (Kd.C_below HR0.out uB) | (with_reducible refine Kd.C_alloc ?_ _) | (with_reducible refine Kd.C_drewN ?_ _) | (with_reducible refine Kd.C_drew ?_))); (case side2 => exact HC0.out); rintro e w' ⟨rfl, ⟨nd, rfl⟩⟩; (try first | exact ⟨rfl, _, World.drewN_drewN _ _ _⟩ | exact ⟨rfl, _, Eq.trans (World.drewN_drewN _ _ _) (congrArg (World.drewN _) (Nat.add_assoc _ _ _))⟩))); try go_wp2_with (first | (go_at_call 147; (with_reducible refine (skew_key.calls _ _ l0 x2_1 t363 _ ?side1 ?side2 A5.out).mono ?_); (case side1 => exact uC (Kd.C_below HR0.out HB.out)); (case side2 => exact HC0.out); rintro e w' ⟨rfl, ⟨nd, rfl⟩⟩; (try first | exact ⟨rfl, _, World.drewN_drewN _ _ _⟩ | exact ⟨rfl, _, Eq.trans (World.drewN_drewN _ _ _) (congrArg (World.drewN _) (Nat.add_assoc _ _ _))⟩)) | (go_at_call 147; (with_reducible refine (skew_key.calls _ _ l0 x3_1 t364 _ ?side1 ?side2 A6.out).mono ?_); (case side1 => repeat (first | exact (Kd.C_below HR0.out uB) | (with_reducible refine Kd.C_alloc ?_ _) | (with_reducible refine Kd.C_drewN ?_ _) | (with_reducible refine Kd.C_drew ?_))); (case side2 => exact HC0.out); rintro e w' ⟨rfl, ⟨nd, rfl⟩⟩; (try first | exact ⟨rfl, _, World.drewN_drewN _ _ _⟩ | exact ⟨rfl, _, Eq.trans (World.drewN_drewN _ _ _) (congrArg (World.drewN _) (Nat.add_assoc _ _ _))⟩))))
    go_ret
    exact ⟨eR, uB⟩
end Go.Proofs.YtbbpplnnegdenaaGreat.PTopPipe
end
section
namespace Go.Proofs.YtbbpplnnegdenaaGreat.PTopPipe
open Go.RowKit Go.Proofs.YtbbpplnnegdenaaGreatW.PrintWords Go.Proofs.YtbbpplnnegdenaaGreatW.PrintLast Go.Proofs.YtbbpplnnegdenaaGreatW.PrintMore
attribute [local go_sem] max2_int min2_int max_two min_two max_three min_three max_four min_four
set_option linter.unusedVariables false
set_option linter.unusedSimpArgs false
mutual
def skew_sorted.l0 : Nat → List Int → Int → List Int → List Int → List Int → List Int → Int → Int → Option (List Int)
  | 0, _, _, _, _, _, _, _, _ => none
  | k + 1, x0, x1, x5, x6, x7, x8, x35, x36 => if x36 < x35 then (if 0 ≤ (wrap64 (x36 + 1)) then (if (wrap64 (x36 + 1)) < (x6.length : Int) then (if 0 ≤ x36 then (if x36 < (x8.length : Int) then (skew_sorted.l0 k x0 x1 x5 x6 x7 (x8.set (x36 : Int).toNat (rd x6 (wrap64 (x36 + 1)))) x35 (wrap64 (x36 + 1))) else (none)) else (none)) else (none)) else (none)) else ((bucket_Pass.f k x7 x8 (wrap64 ((x0.length : Int) + 1))).bind fun bt387 => ((skew_keys.f k x0 0).bind fun t391 => ((bucket_Pass.f k bt387.1 t391 (wrap64 (x1 + 1))).bind fun bt394 => (skew_sorted.l1 k x0 x5 x6 ([] : List Int) bt394.1 (bt394.1.length : Int) 0))))
def skew_sorted.l1 : Nat → List Int → List Int → List Int → List Int → List Int → Int → Int → Option (List Int)
  | 0, _, _, _, _, _, _, _ => none
  | k + 1, x0, x5, x6, x10, x66, x67, x68 => if x68 < x67 then (if 0 ≤ x68 then (if x68 < (x66.length : Int) then (skew_sorted.l2 k x0 x5 x6 x10 (rd x66 x68) x66 x67 x68) else (none)) else (none)) else (if x10.length + x5.length < 17592186044416 then (some (x10 ++ x5)) else (none))
def skew_sorted.l2 : Nat → List Int → List Int → List Int → List Int → Int → List Int → Int → Int → Option (List Int)
  | 0, _, _, _, _, _, _, _, _ => none
  | k + 1, x0, x5, x6, x10, x12, x66, x67, x68 => if (x5.length : Int) > 0 then (if 0 < (x5.length : Int) then ((skew_less.f k x0 x6 (rd x5 0) x12).bind fun t403 => (if t403 = true then (if x10.length < 17592186044416 then (if 1 ≤ (x5.length : Int) then (skew_sorted.l2 k x0 (x5.drop (1 : Int).toNat) x6 (x10 ++ [rd x5 0]) x12 x66 x67 x68) else (none)) else (none)) else (if x10.length < 17592186044416 then (skew_sorted.l1 k x0 x5 x6 (x10 ++ [x12]) x66 x67 (wrap64 (x68 + 1))) else (none)))) else (none)) else (if x10.length < 17592186044416 then (skew_sorted.l1 k x0 x5 x6 (x10 ++ [x12]) x66 x67 (wrap64 (x68 + 1))) else (none))
def skew_sorted.f : Nat → List Int → Int → Option (List Int)
  | 0, _, _ => none
  | k + 1, l0, a1 => if (l0.length : Int) < 2 then ((skew_places.f k (l0.length : Int) 0).bind fun t367 => (if 0 ≤ (l0.length : Int) then (if (l0.length : Int) ≤ (t367.length : Int) then (some (t367.take ((l0.length : Int) : Int).toNat)) else (none)) else (none))) else ((skew_ranked.f (skew_sorted.f k) k l0 a1).bind fun bt373 => ((skew_places.f k (l0.length : Int) 0).bind fun t379 => (if 0 ≤ (l0.length : Int) then (if ((l0.length : Int) : Int).toNat ≤ 35184372088832 then ((some (List.replicate ((l0.length : Int) : Int).toNat 0 : List Int)).bind fun y382 => (skew_sorted.l0 k l0 a1 bt373.1 bt373.2 t379 y382 (y382.length : Int) 0)) else (none)) else (none))))
end
theorem skew_sorted.mono_l : ∀ k, (∀ y0 y1, LeO (skew_sorted.f k y0 y1) (skew_sorted.f (k + 1) y0 y1)) ∧ (∀ y0 y1 y2 y3 y4 y5 y6 y7, LeO (skew_sorted.l0 k y0 y1 y2 y3 y4 y5 y6 y7) (skew_sorted.l0 (k + 1) y0 y1 y2 y3 y4 y5 y6 y7)) ∧ (∀ y0 y1 y2 y3 y4 y5 y6, LeO (skew_sorted.l1 k y0 y1 y2 y3 y4 y5 y6) (skew_sorted.l1 (k + 1) y0 y1 y2 y3 y4 y5 y6)) ∧ (∀ y0 y1 y2 y3 y4 y5 y6 y7, LeO (skew_sorted.l2 k y0 y1 y2 y3 y4 y5 y6 y7) (skew_sorted.l2 (k + 1) y0 y1 y2 y3 y4 y5 y6 y7))
  | 0 => ⟨fun _ _ r h => by simp [skew_sorted.f] at h, fun _ _ _ _ _ _ _ _ r h => by simp [skew_sorted.l0] at h, fun _ _ _ _ _ _ _ r h => by simp [skew_sorted.l1] at h, fun _ _ _ _ _ _ _ _ r h => by simp [skew_sorted.l2] at h⟩
  | k + 1 => by
    obtain ⟨ih0, ih1, ih2, ih3⟩ := skew_sorted.mono_l k
    refine ⟨?_, ?_, ?_, ?_⟩
    · intro y0 y1
      unfold skew_sorted.f
      have m0 := @bucket_Pass.mono
      have m1 := @skew_keys.mono
      have m2 := @skew_less.mono
      have m3 := @skew_places.mono
      have m4 := @skew_ranked.mono
      exact mB
    · intro y0 y1 y2 y3 y4 y5 y6 y7
      unfold skew_sorted.l0
      have m0 := @bucket_Pass.mono
      have m1 := @skew_keys.mono
      have m2 := @skew_less.mono
      have m3 := @skew_places.mono
      have m4 := @skew_ranked.mono
      exact mB
    · intro y0 y1 y2 y3 y4 y5 y6
      unfold skew_sorted.l1
      have m0 := @bucket_Pass.mono
      have m1 := @skew_keys.mono
      have m2 := @skew_less.mono
      have m3 := @skew_places.mono
      have m4 := @skew_ranked.mono
      exact mB
    · intro y0 y1 y2 y3 y4 y5 y6 y7
      unfold skew_sorted.l2
      have m0 := @bucket_Pass.mono
      have m1 := @skew_keys.mono
      have m2 := @skew_less.mono
      have m3 := @skew_places.mono
      have m4 := @skew_ranked.mono
      exact mB
theorem skew_sorted.mono : ∀ a0 a1 k, LeO (skew_sorted.f k a0 a1) (skew_sorted.f (k + 1) a0 a1) := by
  intro a0 a1 k
  obtain ⟨ih0, ih1, ih2, ih3⟩ := skew_sorted.mono_l k
  exact ih0 a0 a1
def skew_sorted.T18 : Bool × List (List Nat × List Nat) := (true, [([], []), ([], []), ([1], [1]), ([2], [2]), ([3], [3]), ([0, 4], [0, 4]), ([], []), ([6], [6]), ([5, 5, 0, 1, 2, 3, 4, 5], [0, 5]), ([7, 8, 0, 1, 2, 3, 4, 5, 6, 7, 8], [1, 6, 7])])
def skew_sorted.B18 : List Nat := [0, 0, 2, 6, 14, 31, 0, 64, 63, 511]
theorem skew_sorted.tab18 : rtab .any (opsOf Tryz.f107 18) = skew_sorted.T18 := by kernel_rfl
theorem skew_sorted.bits18 : waitsOk skew_sorted.T18.2 skew_sorted.B18 = true := by kernel_rfl
set_option maxHeartbeats 8000000 in
set_option maxRecDepth 100000 in
theorem skew_sorted.calls (k : Nat) : ∀ (A0 : Option Addr) (c0 : Nat) (l0 : List Int) (a1 : Int) (r : List Int) (w : World) (hr0 : Kd.C (Kd.int .i64) w A0 l0.length l0) (hc0 : l0.length ≤ c0) (h : skew_sorted.f k l0 a1 = some r),
    Calls Tryz.prog 107 #[.slice A0 l0.length c0, .int .i64 a1] w fun e w' => ∃ v0_ : Value, e = .returned (v0_) ∧ Kd.R (Kd.int .i64) 3 w' w.heap.size (fun _ => True) v0_ r ∧ Below w.heap.size w w' := by
 induction k using Nat.strongRecOn with
 | _ k ih =>
 intro A0 c0 l0 a1 r w hr0 hc0 h
 cases k with
 | zero => exact absurd h (by simp [skew_sorted.f])
 | succ k =>
 simp only [skew_sorted.f] at h
 have HR0 := Aside0.mk hr0
 have HC0 := Aside0.mk hc0
 clear hr0 hc0
 have HB := Aside0.mk (Below.refl w.heap.size w)
 have H := h
 clear h
 unfold skew_sorted.f at H
 by_cases c3 : (l0.length : Int) < 2
 ·rw [if_pos c3] at H
  have c3b0 : decide ((l0.length : Int) < 2) = true := decide_eq_true c3
  have c3b1 : decide (l0.length < 2) = true := decide_eq_true (by omega)
  clear c3
  obtain ⟨t367, A4, H⟩ := bdS H
  try dsimp only at H
  obtain ⟨c5b0, c5b1, H⟩ := ifE H
  obtain ⟨c6b0, c6b1, H⟩ := ifE H
  generalize hy370 : (t367.take ((l0.length : Int) : Int).toNat : List Int) = y370 at H
  try simp only [Option.bind_some] at H
  have Ny370 := Aside0.mk hy370.symm
  clear hy370
  obtain rfl := Option.some.inj H
  go_enter Tryz.func107, Tryz.ntmps107
  go_wp2_with (first | ((with_reducible refine gate_callee (f := 129) rfl ?_); refine goesL_ (some 18) rfl rfl Tryz.func129 (by kernel_rfl) rfl #[.int .i64 (l0.length : Int), .int .i64 0] rfl aE ?_; (with_reducible refine (skew_places.calls k (l0.length : Int) 0 t367 _ A4.out).mono ?_); rintro e w7 ⟨v368, rfl, ho0, hb⟩; refine ⟨_, rfl, ?_⟩; have n0_ := Aside0.mk (Kd.R_lower ho0 (below_size uB)); have n1_ := Aside0.mk (below_step uB hb); clear HB; have HO369 := n0_; have HB := n1_; clear n0_ n1_; (try clear hb); (try clear hb2); (try clear hk); (try clear hi); (try clear ho0); obtain ⟨Ao8, co8, eo8⟩ := Kd.R_slice HO369.out; subst eo8; have q9 : ((l0.length : Int) : Int) ≤ ((t367.length : Int) : Int) := dT; obtain ⟨i09, hi09, _, hsz9, _⟩ := info_parts info3; have hcut9 := cut_to (P := Tryz.prog) 29 3 .i64 Tryz.underlying29 hi09 Ao8 t367.length co8 (l0.length : Int) dT q9 (Kd.R_reads' HO369.out).2.1; have hr9 := Kd.R_take (m := ((l0.length : Int) : Int).toNat) HO369.out (by omega); have hy9 : y370.length = ((l0.length : Int) : Int).toNat := (by rw [Ny370.out, List.length_take]; omega); rw [← Ny370.out] at hr9; rw [← hy9] at hr9 hcut9; clear hy9 hi09 hsz9 HO369; have HO372 := Aside0.mk hr9; clear hr9; replace q9 := eq_true q9))
  go_ret
  exact ⟨_, eR, uR HO372.out, uB⟩
 ·rw [if_neg c3] at H
  have c3b0 : decide ((l0.length : Int) < 2) = false := decide_eq_false c3
  have c3b1 : decide (l0.length < 2) = false := decide_eq_false (by omega)
  clear c3
  obtain ⟨⟨t373, t374⟩, A10, H⟩ := bdS H
  try dsimp only at H
  obtain ⟨t379, A11, H⟩ := bdS H
  try dsimp only at H
  obtain ⟨c12b0, c12b1, H⟩ := ifE H
  obtain ⟨c13b0, c13b1, H⟩ := ifE H
  generalize hy382 : (List.replicate ((l0.length : Int) : Int).toNat 0 : List Int) = y382 at H
  try simp only [Option.bind_some] at H
  have Ny382 := Aside0.mk hy382.symm
  clear hy382
  have H' := Aside0.mk H
  clear H
  go_enter Tryz.func107, Tryz.ntmps107
  go_wp2_with (first | ((with_reducible refine gate_callee (f := 130) rfl ?_); refine goesL_ (some 25) rfl rfl Tryz.func130 (by kernel_rfl) rfl #[.slice A0 l0.length c0, .int .i64 a1] rfl aE ?_; (with_reducible refine (skew_ranked.calls (skew_sorted.f k) (fun A0 c0 l0 a1 r w hr0 hc0 h => ih k (by omega) A0 c0 l0 a1 r w hr0 hc0 h) k _ _ l0 a1 t373 t374 _ ?side1 ?side2 A10.out).mono ?_); (case side1 => exact uC HR0.out); (case side2 => exact HC0.out); rintro e w14 ⟨v375, v377, rfl, ho0, ho1, hb⟩; refine ⟨_, rfl, ?_⟩; have n0_ := Aside0.mk (Kd.R_lower ho0 (below_size uB)); have n1_ := Aside0.mk (Kd.R_lower ho1 (below_size uB)); have n2_ := Aside0.mk (below_step uB hb); clear HB; have HO376 := n0_; have HO378 := n1_; have HB := n2_; clear n0_ n1_ n2_; (try clear hb); (try clear hb2); (try clear hk); (try clear hi); (try clear ho0); (try clear ho1)) | ((with_reducible refine gate_callee (f := 129) rfl ?_); refine goesL_ (some 30) rfl rfl Tryz.func129 (by kernel_rfl) rfl #[.int .i64 (l0.length : Int), .int .i64 0] rfl aE ?_; (with_reducible refine (skew_places.calls k (l0.length : Int) 0 t379 _ A11.out).mono ?_); rintro e w15 ⟨v380, rfl, ho0, hb⟩; refine ⟨_, rfl, ?_⟩; have n0_ := Aside0.mk (Kd.R_elder' (uR HO376.out) (Kd.R_base ho0) hb); have n1_ := Aside0.mk (Kd.R_elder' (uR HO378.out) (Kd.R_base ho0) hb); have n2_ := Aside0.mk (Kd.R_lower (Kd.R_new' (Kd.R_new' ho0 (Kd.R_lt (uR HO376.out))) (Kd.R_lt (uR HO378.out))) (below_size uB)); have n3_ := Aside0.mk (below_step uB hb); clear HO376; clear HO378; clear HB; have HO376 := n0_; have HO378 := n1_; have HO381 := n2_; have HB := n3_; clear n0_ n1_ n2_ n3_; (try clear hb); (try clear hb2); (try clear hk); (try clear hi); (try clear ho0)) | ((with_reducible refine gate_dst (N := 33) rfl ?_); refine Kd.R_make (Kd.int .i64) _ 3 rfl (N := 33) rfl 29 _ _ rfl (l0.length : Int) rfl rfl Tryz.underlying29 (.int .i64 0) 8 info3 rfl (by decide) (by omega) 0 (ok := fun _ => True) (okp := fun _ => True) rfl (fun _ hk => hk) trivial dT (Nat.le_trans (Nat.mul_le_mul_right _ (dT : (l0.length : Int).toNat ≤ 35184372088832)) (by omega)) (Below.refl _ _) (Nat.le_refl _) ?_; intro v383 w16 ho17 hb hg_ hnew_; clear hg_ hnew_; (first | rw [← Ny382.out] at ho17 | (simp only [Int.reduceToNat] at ho17; rw [← Ny382.out] at ho17)); have n0_ := Aside0.mk (Kd.R_elder' (uR HO376.out) (Kd.R_base ho17) hb); have n1_ := Aside0.mk (Kd.R_elder' (uR HO378.out) (Kd.R_base ho17) hb); have n2_ := Aside0.mk (Kd.R_elder' (uR HO381.out) (Kd.R_base ho17) hb); have n3_ := Aside0.mk (Kd.R_lower (Kd.R_new' (Kd.R_new' (Kd.R_new' ho17 (Kd.R_lt (uR HO376.out))) (Kd.R_lt (uR HO378.out))) (Kd.R_lt (uR HO381.out))) (below_size uB)); have n4_ := Aside0.mk (below_step uB hb); clear HO376; clear HO378; clear HO381; clear HB; have HO376 := n0_; have HO378 := n1_; have HO381 := n2_; have HO384 := n3_; have HB := n4_; clear n0_ n1_ n2_ n3_ n4_; clear hb ho17; obtain ⟨Ao18, co18, eo18⟩ := Kd.R_slice HO384.out; subst eo18))
  go_loopg [36] k (fun kq v36 w' => ∃ (x8_1 : List Int) (x36_1 : Int), v36 = .int .i64 x36_1 ∧ Aside0 (skew_sorted.l0 kq l0 a1 t373 t374 t379 x8_1 (y382.length : Int) x36_1 = some r) ∧ Aside0 (kq ≤ k) ∧ Aside0 (Kd.Q (Kd.int .i64) 3 w' w.heap.size (fun k_ => some k_ ≠ (v377 : Value).ownBlock ∧ some k_ ≠ (v380 : Value).ownBlock ∧ some k_ ≠ ((.slice Ao18 y382.length co18) : Value).ownBlock) v375 t373) ∧ Aside0 (Kd.R (Kd.int .i64) 3 w' w.heap.size (fun k_ => some k_ ≠ (v375 : Value).ownBlock ∧ some k_ ≠ (v380 : Value).ownBlock ∧ some k_ ≠ ((.slice Ao18 y382.length co18) : Value).ownBlock) v377 t374) ∧ Aside0 (Kd.R (Kd.int .i64) 3 w' w.heap.size (fun k_ => some k_ ≠ (v375 : Value).ownBlock ∧ some k_ ≠ (v377 : Value).ownBlock ∧ some k_ ≠ ((.slice Ao18 y382.length co18) : Value).ownBlock) v380 t379) ∧ Aside0 (Kd.R (Kd.int .i64) 3 w' w.heap.size (fun k_ => some k_ ≠ (v375 : Value).ownBlock ∧ some k_ ≠ (v377 : Value).ownBlock ∧ some k_ ≠ (v380 : Value).ownBlock) (.slice Ao18 y382.length co18) x8_1) ∧ Aside0 (Below w.heap.size w w'))
  case atStart => exact ⟨(y382), (0), sD, H', ⟨Nat.le_refl _⟩, ⟨Kd.Q_of_R (by (with_reducible repeat (first | apply Kd.R_alloc | apply Kd.R_drewN | apply Kd.R_drew)); exact Kd.R_mono HO376.out (fun _ hk => ⟨hk.1.1, ⟨hk.1.2, hk.2⟩⟩))⟩, ⟨by (with_reducible repeat (first | apply Kd.R_alloc | apply Kd.R_drewN | apply Kd.R_drew)); exact Kd.R_mono HO378.out (fun _ hk => ⟨hk.1.1, ⟨hk.1.2, hk.2⟩⟩)⟩, ⟨by (with_reducible repeat (first | apply Kd.R_alloc | apply Kd.R_drewN | apply Kd.R_drew)); exact Kd.R_mono HO381.out (fun _ hk => ⟨hk.1.1.2, ⟨hk.1.2, hk.2⟩⟩)⟩, ⟨by (with_reducible repeat (first | apply Kd.R_alloc | apply Kd.R_drewN | apply Kd.R_drew)); exact Kd.R_mono HO384.out (fun _ hk => ⟨hk.1.1.2, ⟨hk.1.2, hk.2⟩⟩)⟩, ⟨uB⟩⟩
  case round =>
   clear H'
   try clear c1
   try clear p2
   try clear c3
   try clear c3b0
   try clear c3b1
   try clear c5
   try clear c5b0
   try clear c5b1
   try clear c6
   try clear c6b0
   try clear c6b1
   try clear q9
   try clear c10
   try clear c12
   try clear c12b0
   try clear c12b1
   try clear c13
   try clear c13b0
   try clear c13b1
   try clear q9
   obtain ⟨x8_1, x36_1, rfl, HA, HK1, HO_5, HO_6, HO_7, HO_8, HB⟩ := hrel
   have hl8_1 := (Kd.R_reads' HO_8.out).1
   rw [hl8_1] at HO_8
   (try simp only [hl8_1])
   (try simp only [hl8_1] at HO_5)
   (try simp only [hl8_1] at HO_6)
   (try simp only [hl8_1] at HO_7)
   cases gk with
   | zero => exact absurd HA.out (by simp [skew_sorted.l0])
   | succ k1 =>
    have H := HA.out
    clear HA
    simp only [skew_sorted.l0] at H
    by_cases c19 : x36_1 < (y382.length : Int)
    ·rw [if_pos c19] at H
     have c19b0 : decide (x36_1 < (y382.length : Int)) = true := decide_eq_true c19
     clear c19
     obtain ⟨ji20, hji20⟩ : ∃ j_ : Int, (wrap64 (x36_1 + 1)) = j_ := ⟨_, rfl⟩
     first | rw [hji20] at H | simp only [hji20] at H
     have hji20w : (IntKind.i64.wrap (x36_1 + 1)) = ji20 := (i64_w _).trans hji20
     obtain ⟨c21b0, c22b0, H⟩ := ifD2 H
     obtain ⟨c23b0, c24b0, H⟩ := ifD2 H
     generalize hy386 : (x8_1.set (x36_1 : Int).toNat (rd t374 (ji20)) : List Int) = y386 at H
     try simp only [Option.bind_some] at H
     have Ny386 := Aside0.mk hy386.symm
     clear hy386
     have H' := Aside0.mk H
     clear H
     obtain ⟨Ao26, co26, eo26⟩ := Kd.R_slice HO_6.out
     subst eo26
     obtain ⟨ad385, e385, hx385_0, p385, q385⟩ := rI (Kd.R_reads' HO_6.out).2.2 (ji20)
     cases e385
     have p25 : 0 ≤ (x36_1 : Int) := dT
     have q25 : (x36_1 : Int) < ((x8_1.length : Int) : Int) := dT
     obtain ⟨go25, co25, eo25, gb25, gl25, cl25, HG25⟩ := Kd.R_form HO_8.out (by omega)
     (first | cases eo25 | (injection eo25 with ea_ en_ ec_; (first | subst ea_ | (injection ea_ with ea_; subst ea_)); subst ec_; clear en_))
     have GB25 := Aside0.mk gb25
     have GG25 := Aside0.mk HG25
     clear gb25 gl25 HG25
     obtain ⟨hx25_0, hf25_0⟩ := Kd.R_celln 0 HO_8.out (x36_1 : Int) p25 q25
     replace p25 := eq_true p25
     replace q25 := eq_true q25
     have HP27 := Kd.R_putg HO_8.out (x36_1 : Int) (rd t374 (ji20))
     go_wp2_with (first | ((with_reducible refine gate_store (t := 3) (p := 46) rfl ?_); refine store_event (t := 3) (p := 46) (v := ?vo_w28) (w1 := (wr.setCell ⟨go25, (x36_1 : Int).toNat, none⟩ (.int .i64 (rd t374 (ji20))))) ?hg ?ho ?hn ?hr ?_; (case ho => rfl); (case hg => rfl); (case hn => rfl); (case hr => first | (go_simp; done) | (go_simp; rfl)); intro w28 hw; have hg : wr.grownBy w28 (some go25) := (by rw [hw]; exact HP27.2); have hp_ : Kd.R (Kd.int .i64) 3 w28 w.heap.size (fun k_ => some k_ ≠ (v375 : Value).ownBlock ∧ some k_ ≠ (.slice (some ad385) t374.length co26 : Value).ownBlock ∧ some k_ ≠ (v380 : Value).ownBlock) (.slice (some ⟨go25, 0, none⟩) x8_1.length co18) y386 := (by rw [hw, Ny386.out]; exact HP27.1); clear HP27; have n0_ := Aside0.mk (Kd.Q_after (v := (.slice (some ⟨go25, 0, none⟩) x8_1.length co18)) (v1 := (.slice (some ⟨go25, 0, none⟩) x8_1.length co18)) (ok := (fun k_ => some k_ ≠ (.slice (some ad385) t374.length co26 : Value).ownBlock ∧ some k_ ≠ (v380 : Value).ownBlock)) (by (with_reducible repeat (first | apply Kd.Q_alloc | apply Kd.Q_drewN | apply Kd.Q_drew)); exact Kd.Q_mono HO_5.out (fun _ hk => ⟨⟨hk.1, hk.2.1⟩, hk.2.2⟩)) hg (.inl rfl)); have n1_ := Aside0.mk (Kd.R_after (v := (.slice (some ⟨go25, 0, none⟩) x8_1.length co18)) (v1 := (.slice (some ⟨go25, 0, none⟩) x8_1.length co18)) (ok := (fun k_ => some k_ ≠ (v375 : Value).ownBlock ∧ some k_ ≠ (v380 : Value).ownBlock)) (by (with_reducible repeat (first | apply Kd.R_alloc | apply Kd.R_drewN | apply Kd.R_drew)); exact Kd.R_mono HO_6.out (fun _ hk => ⟨⟨hk.1, hk.2.1⟩, hk.2.2⟩)) hg (.inl rfl)); have n2_ := Aside0.mk (Kd.R_after (v := (.slice (some ⟨go25, 0, none⟩) x8_1.length co18)) (v1 := (.slice (some ⟨go25, 0, none⟩) x8_1.length co18)) (ok := (fun k_ => some k_ ≠ (v375 : Value).ownBlock ∧ some k_ ≠ (.slice (some ad385) t374.length co26 : Value).ownBlock)) (by (with_reducible repeat (first | apply Kd.R_alloc | apply Kd.R_drewN | apply Kd.R_drew)); exact Kd.R_mono HO_7.out (fun _ hk => ⟨⟨hk.1, hk.2.1⟩, hk.2.2⟩)) hg (.inl rfl)); have n3_ := Aside0.mk (hp_); have n4_ := Aside0.mk ((by rw [hw]; exact below_set (HB.out) GB25.out : Below w.heap.size w w28)); clear HO_5; clear HO_6; clear HO_7; clear HO_8; clear HB; have HO_5 := n0_; have HO_6 := n1_; have HO_7 := n2_; have HO_8 := n3_; have HB := n4_; clear n0_ n1_ n2_ n3_ n4_; clear hg hw hp_))
     (try simp only [← hl8_1])
     go_roundg k1
     case measure => have := HK1.out; omega
     case rel => exact ⟨(y386), (ji20), (by first | rfl | (simp; done) | (simp only [← hji20] <;> (first | rfl | simp)) | (simp [*]; done)), H', ⟨by have := HK1.out; omega⟩, ⟨by (try simp only [hl8_1]); (with_reducible repeat (first | apply Kd.Q_alloc | apply Kd.Q_drewN | apply Kd.Q_drew)); exact Kd.Q_mono HO_5.out (fun _ hk => ⟨hk.1.1, ⟨hk.1.2, hk.2⟩⟩)⟩, ⟨by (try simp only [hl8_1]); (with_reducible repeat (first | apply Kd.R_alloc | apply Kd.R_drewN | apply Kd.R_drew)); exact Kd.R_mono HO_6.out (fun _ hk => ⟨hk.1.1, ⟨hk.1.2, hk.2⟩⟩)⟩, ⟨by (try simp only [hl8_1]); (with_reducible repeat (first | apply Kd.R_alloc | apply Kd.R_drewN | apply Kd.R_drew)); exact Kd.R_mono HO_7.out (fun _ hk => ⟨hk.1.1, ⟨hk.1.2, hk.2⟩⟩)⟩, ⟨by (try simp only [hl8_1]); (with_reducible repeat (first | apply Kd.R_alloc | apply Kd.R_drewN | apply Kd.R_drew)); exact HO_8.out⟩, ⟨uB⟩⟩
    ·rw [if_neg c19] at H
     have c19b0 : decide (x36_1 < (y382.length : Int)) = false := decide_eq_false c19
     (try simp only [hl8_1] at c19b0)
     clear c19
     obtain ⟨⟨t387, t388⟩, A29, H⟩ := bdS H
     try dsimp only at H
     obtain ⟨t391, A30, H⟩ := bdS H
     try dsimp only at H
     obtain ⟨⟨t394, t395⟩, A31, H⟩ := bdS H
     try dsimp only at H
     have H' := Aside0.mk H
     clear H
     obtain ⟨Ao32, co32, eo32⟩ := Kd.R_slice HO_7.out
     subst eo32
     go_wp2_with (first | ((with_reducible refine gate_callee (f := 71) rfl ?_); refine goesL_ (some 54) rfl rfl Tryz.func71 (by kernel_rfl) rfl #[.slice Ao32 t379.length co32, .slice Ao18 x8_1.length co18, .int .i64 (wrap64 ((l0.length : Int) + 1))] rfl aE ?_; (with_reducible refine (bucket_Pass.calls k1 _ _ t379 _ _ x8_1 (wrap64 ((l0.length : Int) + 1)) t387 t388 _ ?side1 ?side2 ?side3 ?side4 A29.out).mono ?_); (case side1 => exact uC (Kd.R_reads' HO_7.out).2.2); (case side2 => exact (Kd.R_reads' HO_7.out).2.1); (case side3 => exact uC (Kd.R_reads' HO_8.out).2.2); (case side4 => exact (Kd.R_reads' HO_8.out).2.1); rintro e w33 ⟨v389, rfl, ho0, hb⟩; refine ⟨_, rfl, ?_⟩; have n0_ := Aside0.mk (Kd.Q_elder' (by (with_reducible repeat (first | apply Kd.Q_alloc | apply Kd.Q_drewN | apply Kd.Q_drew)); exact HO_5.out) (Kd.R_base ho0) hb); have n1_ := Aside0.mk (Kd.R_elder' (uR HO_6.out) (Kd.R_base ho0) hb); have n2_ := Aside0.mk (Kd.R_elder' (uR HO_7.out) (Kd.R_base ho0) hb); have n3_ := Aside0.mk (Kd.R_elder' (uR HO_8.out) (Kd.R_base ho0) hb); have n4_ := Aside0.mk (Kd.R_lower (Kd.R_new' (Kd.R_new' (Kd.R_new' (Kd.R_new' ho0 (Kd.Q_lt (by (with_reducible repeat (first | apply Kd.Q_alloc | apply Kd.Q_drewN | apply Kd.Q_drew)); exact HO_5.out))) (Kd.R_lt (uR HO_6.out))) (Kd.R_lt (uR HO_7.out))) (Kd.R_lt (uR HO_8.out))) (below_size uB)); have n5_ := Aside0.mk (below_step uB hb); clear HO_5; clear HO_6; clear HO_7; clear HO_8; clear HB; have HO_5 := n0_; have HO_6 := n1_; have HO_7 := n2_; have HO_8 := n3_; have HO390 := n4_; have HB := n5_; clear n0_ n1_ n2_ n3_ n4_ n5_; (try clear hb); (try clear hb2); (try clear hk); (try clear hi); (try clear ho0)) | ((with_reducible refine gate_callee (f := 131) rfl ?_); refine goesL_ (some 60) rfl rfl Tryz.func131 (by kernel_rfl) rfl #[.slice A0 l0.length c0, .int .i64 0] rfl aE ?_; (with_reducible refine (skew_keys.calls k1 _ _ l0 0 t391 _ ?side1 ?side2 A30.out).mono ?_); (case side1 => exact uC (Kd.C_below HR0.out HB.out)); (case side2 => exact HC0.out); rintro e w34 ⟨v392, rfl, ho0, hb⟩; refine ⟨_, rfl, ?_⟩; have n0_ := Aside0.mk (Kd.Q_elder' (by (with_reducible repeat (first | apply Kd.Q_alloc | apply Kd.Q_drewN | apply Kd.Q_drew)); exact HO_5.out) (Kd.R_base ho0) hb); have n1_ := Aside0.mk (Kd.R_elder' (uR HO_6.out) (Kd.R_base ho0) hb); have n2_ := Aside0.mk (Kd.R_elder' (uR HO_7.out) (Kd.R_base ho0) hb); have n3_ := Aside0.mk (Kd.R_elder' (uR HO_8.out) (Kd.R_base ho0) hb); have n4_ := Aside0.mk (Kd.R_elder' (uR HO390.out) (Kd.R_base ho0) hb); have n5_ := Aside0.mk (Kd.R_lower (Kd.R_new' (Kd.R_new' (Kd.R_new' (Kd.R_new' (Kd.R_new' ho0 (Kd.Q_lt (by (with_reducible repeat (first | apply Kd.Q_alloc | apply Kd.Q_drewN | apply Kd.Q_drew)); exact HO_5.out))) (Kd.R_lt (uR HO_6.out))) (Kd.R_lt (uR HO_7.out))) (Kd.R_lt (uR HO_8.out))) (Kd.R_lt (uR HO390.out))) (below_size uB)); have n6_ := Aside0.mk (below_step uB hb); clear HO_5; clear HO_6; clear HO_7; clear HO_8; clear HO390; clear HB; have HO_5 := n0_; have HO_6 := n1_; have HO_7 := n2_; have HO_8 := n3_; have HO390 := n4_; have HO393 := n5_; have HB := n6_; clear n0_ n1_ n2_ n3_ n4_ n5_ n6_; (try clear hb); (try clear hb2); (try clear hk); (try clear hi); (try clear ho0); obtain ⟨Ao35, co35, eo35⟩ := Kd.R_slice HO390.out; subst eo35; obtain ⟨Ao36, co36, eo36⟩ := Kd.R_slice HO393.out; subst eo36) | ((with_reducible refine gate_callee (f := 71) rfl ?_); refine goesL_ (some 63) rfl rfl Tryz.func71 (by kernel_rfl) rfl #[.slice Ao35 t387.length co35, .slice Ao36 t391.length co36, .int .i64 (wrap64 (a1 + 1))] rfl aE ?_; (with_reducible refine (bucket_Pass.calls k1 _ _ t387 _ _ t391 (wrap64 (a1 + 1)) t394 t395 _ ?side1 ?side2 ?side3 ?side4 A31.out).mono ?_); (case side1 => exact uC (Kd.R_reads' HO390.out).2.2); (case side2 => exact (Kd.R_reads' HO390.out).2.1); (case side3 => exact uC (Kd.R_reads' HO393.out).2.2); (case side4 => exact (Kd.R_reads' HO393.out).2.1); rintro e w37 ⟨v396, rfl, ho0, hb⟩; refine ⟨_, rfl, ?_⟩; have n0_ := Aside0.mk (Kd.Q_elder' (by (with_reducible repeat (first | apply Kd.Q_alloc | apply Kd.Q_drewN | apply Kd.Q_drew)); exact HO_5.out) (Kd.R_base ho0) hb); have n1_ := Aside0.mk (Kd.R_elder' (uR HO_6.out) (Kd.R_base ho0) hb); have n2_ := Aside0.mk (Kd.R_elder' (uR HO_7.out) (Kd.R_base ho0) hb); have n3_ := Aside0.mk (Kd.R_elder' (uR HO_8.out) (Kd.R_base ho0) hb); have n4_ := Aside0.mk (Kd.R_elder' (uR HO390.out) (Kd.R_base ho0) hb); have n5_ := Aside0.mk (Kd.R_elder' (uR HO393.out) (Kd.R_base ho0) hb); have n6_ := Aside0.mk (Kd.R_lower (Kd.R_new' (Kd.R_new' (Kd.R_new' (Kd.R_new' (Kd.R_new' (Kd.R_new' ho0 (Kd.Q_lt (by (with_reducible repeat (first | apply Kd.Q_alloc | apply Kd.Q_drewN | apply Kd.Q_drew)); exact HO_5.out))) (Kd.R_lt (uR HO_6.out))) (Kd.R_lt (uR HO_7.out))) (Kd.R_lt (uR HO_8.out))) (Kd.R_lt (uR HO390.out))) (Kd.R_lt (uR HO393.out))) (below_size uB)); have n7_ := Aside0.mk (below_step uB hb); clear HO_5; clear HO_6; clear HO_7; clear HO_8; clear HO390; clear HO393; clear HB; have HO_5 := n0_; have HO_6 := n1_; have HO_7 := n2_; have HO_8 := n3_; have HO390 := n4_; have HO393 := n5_; have HO397 := n6_; have HB := n7_; clear n0_ n1_ n2_ n3_ n4_ n5_ n6_ n7_; (try clear hb); (try clear hb2); (try clear hk); (try clear hi); (try clear ho0); obtain ⟨Ao38, co38, eo38⟩ := Kd.R_slice HO397.out; subst eo38))
     go_loopg [5, 10, 68] k1 (fun kq v5 v10 v68 w' => ∃ (x5_2 : List Int) (x10_2 : List Int) (x68_2 : Int), v68 = .int .i64 x68_2 ∧ Aside0 (skew_sorted.l1 kq l0 x5_2 t374 x10_2 t394 (t394.length : Int) x68_2 = some r) ∧ Aside0 (kq ≤ k1) ∧ Aside0 (Kd.Q (Kd.int .i64) 3 w' w.heap.size (fun k_ => some k_ ≠ (v377 : Value).ownBlock ∧ some k_ ≠ (v10 : Value).ownBlock ∧ some k_ ≠ ((.slice Ao38 t394.length co38) : Value).ownBlock) v5 x5_2) ∧ Aside0 (Kd.R (Kd.int .i64) 3 w' w.heap.size (fun k_ => some k_ ≠ (v5 : Value).ownBlock ∧ some k_ ≠ (v10 : Value).ownBlock ∧ some k_ ≠ ((.slice Ao38 t394.length co38) : Value).ownBlock) v377 t374) ∧ Aside0 (Kd.R (Kd.int .i64) 3 w' w.heap.size (fun k_ => some k_ ≠ (v5 : Value).ownBlock ∧ some k_ ≠ (v377 : Value).ownBlock ∧ some k_ ≠ ((.slice Ao38 t394.length co38) : Value).ownBlock) v10 x10_2) ∧ Aside0 (Kd.R (Kd.int .i64) 3 w' w.heap.size (fun k_ => some k_ ≠ (v5 : Value).ownBlock ∧ some k_ ≠ (v377 : Value).ownBlock ∧ some k_ ≠ (v10 : Value).ownBlock) (.slice Ao38 t394.length co38) t394) ∧ Aside0 (Below w.heap.size w w'))
     case atStart => exact ⟨(t373), (([] : List Int)), (0), sD, H', ⟨Nat.le_refl _⟩, ⟨by (try simp only [hl8_1]); (with_reducible repeat (first | apply Kd.Q_alloc | apply Kd.Q_drewN | apply Kd.Q_drew)); exact Kd.Q_mono HO_5.out (fun _ hk => ⟨hk.1.1.1.1, ⟨(by simp [Value.ownBlock]), hk.2⟩⟩)⟩, ⟨by (try simp only [hl8_1]); (with_reducible repeat (first | apply Kd.R_alloc | apply Kd.R_drewN | apply Kd.R_drew)); exact Kd.R_mono HO_6.out (fun _ hk => ⟨hk.1.1.1.1, ⟨(by simp [Value.ownBlock]), hk.2⟩⟩)⟩, ⟨by (try simp only [hl8_1]); first | exact Kd.R_nil _ _ _ _ _ | exact Kd.N_nil _ _ _ _ _ | exact Kd.V_nil _ _ _ _ _ | exact Kd.Q_nil _ _ _ _ _ | exact Kd.S_nil _ _ _ _ _⟩, ⟨by (try simp only [hl8_1]); (with_reducible repeat (first | apply Kd.R_alloc | apply Kd.R_drewN | apply Kd.R_drew)); exact Kd.R_mono HO397.out (fun _ hk => ⟨hk.1.1.1.1.1.2, ⟨hk.1.1.1.1.2, (by simp [Value.ownBlock])⟩⟩)⟩, ⟨uB⟩⟩
     case round =>
      clear H'
      try clear c1
      try clear c2
      try clear p2
      try clear q2
      try clear hx2
      try clear hf2
      try clear c3
      try clear c3b0
      try clear c3b1
      try clear p3
      try clear q3
      try clear hx3
      try clear c5
      try clear c5b0
      try clear c5b1
      try clear c6
      try clear c6b0
      try clear c6b1
      try clear p6
      try clear c7
      try clear q9
      try clear c10
      try clear c12
      try clear c12b0
      try clear c12b1
      try clear c13
      try clear c13b0
      try clear c13b1
      try clear c19
      try clear c19b0
      try clear c21
      try clear c21b0
      try clear c22
      try clear c22b0
      try clear c23
      try clear c23b0
      try clear c24
      try clear c24b0
      try clear p25
      try clear q25
      try clear hx25
      try clear hf25
      try clear p38
      try clear q38
      try clear hx38
      try clear hx25_0
      try clear hx385_0
      try clear p2
      try clear p25
      try clear p385
      try clear q25
      try clear q385
      try clear q9
      obtain ⟨x5_2, x10_2, x68_2, rfl, HA, HK2, HO_5, HO_6, HO_10, HO_66, HB⟩ := hrel
      cases gk with
      | zero => exact absurd HA.out (by simp [skew_sorted.l1])
      | succ k2 =>
       have H := HA.out
       clear HA
       simp only [skew_sorted.l1] at H
       by_cases c39 : x68_2 < (t394.length : Int)
       ·rw [if_pos c39] at H
        have c39b0 : decide (x68_2 < (t394.length : Int)) = true := decide_eq_true c39
        clear c39
        obtain ⟨c40b0, c41b0, H⟩ := ifD2 H
        have H' := Aside0.mk H
        clear H
        obtain ⟨ad401, e401, hx401_0, p401, q401⟩ := rI (Kd.R_reads' HO_66.out).2.2 x68_2
        cases e401
        go_wp2
        go_loopg [5, 10] k2 (fun kq v5 v10 w' => ∃ (x5_3 : List Int) (x10_3 : List Int), Aside0 (skew_sorted.l2 kq l0 x5_3 t374 x10_3 (rd t394 x68_2) t394 (t394.length : Int) x68_2 = some r) ∧ Aside0 (kq ≤ k2) ∧ Aside0 (Kd.Q (Kd.int .i64) 3 w' w.heap.size (fun k_ => some k_ ≠ (v377 : Value).ownBlock ∧ some k_ ≠ (v10 : Value).ownBlock ∧ some k_ ≠ ((.slice (some ad401) t394.length co38) : Value).ownBlock) v5 x5_3) ∧ Aside0 (Kd.R (Kd.int .i64) 3 w' w.heap.size (fun k_ => some k_ ≠ (v5 : Value).ownBlock ∧ some k_ ≠ (v10 : Value).ownBlock ∧ some k_ ≠ ((.slice (some ad401) t394.length co38) : Value).ownBlock) v377 t374) ∧ Aside0 (Kd.R (Kd.int .i64) 3 w' w.heap.size (fun k_ => some k_ ≠ (v5 : Value).ownBlock ∧ some k_ ≠ (v377 : Value).ownBlock ∧ some k_ ≠ ((.slice (some ad401) t394.length co38) : Value).ownBlock) v10 x10_3) ∧ Aside0 (Kd.R (Kd.int .i64) 3 w' w.heap.size (fun k_ => some k_ ≠ (v5 : Value).ownBlock ∧ some k_ ≠ (v377 : Value).ownBlock ∧ some k_ ≠ (v10 : Value).ownBlock) (.slice (some ad401) t394.length co38) t394) ∧ Aside0 (Below w.heap.size w w'))
        case atStart => exact ⟨(x5_2), (x10_2), H', ⟨Nat.le_refl _⟩, ⟨by (try simp only [hl8_1]); (with_reducible repeat (first | apply Kd.Q_alloc | apply Kd.Q_drewN | apply Kd.Q_drew)); exact HO_5.out⟩, ⟨by (try simp only [hl8_1]); (with_reducible repeat (first | apply Kd.R_alloc | apply Kd.R_drewN | apply Kd.R_drew)); exact HO_6.out⟩, ⟨by (try simp only [hl8_1]); (with_reducible repeat (first | apply Kd.R_alloc | apply Kd.R_drewN | apply Kd.R_drew)); exact HO_10.out⟩, ⟨by (try simp only [hl8_1]); (with_reducible repeat (first | apply Kd.R_alloc | apply Kd.R_drewN | apply Kd.R_drew)); exact HO_66.out⟩, ⟨uB⟩⟩
        case round =>
         clear H'
         try clear c1
         try clear c2
         try clear p2
         try clear q2
         try clear hx2
         try clear hf2
         try clear c3
         try clear c3b0
         try clear c3b1
         try clear p3
         try clear q3
         try clear hx3
         try clear c4
         try clear p4
         try clear q4
         try clear hx4
         try clear c5
         try clear c5b0
         try clear c5b1
         try clear c6
         try clear c6b0
         try clear c6b1
         try clear p6
         try clear c7
         try clear q9
         try clear c10
         try clear c12
         try clear c12b0
         try clear c12b1
         try clear c13
         try clear c13b0
         try clear c13b1
         try clear c19
         try clear c19b0
         try clear c21
         try clear c21b0
         try clear c22
         try clear c22b0
         try clear c23
         try clear c23b0
         try clear c24
         try clear c24b0
         try clear p25
         try clear q25
         try clear hx25
         try clear hf25
         try clear p38
         try clear q38
         try clear hx38
         try clear c39
         try clear c39b0
         try clear c40
         try clear c40b0
         try clear p40
         try clear q40
         try clear hx40
         try clear c41
         try clear c41b0
         try clear hx25_0
         try clear hx385_0
         try clear hx401_0
         try clear p2
         try clear p25
         try clear p3
         try clear p38
         try clear p385
         try clear p401
         try clear p6
         try clear q2
         try clear q25
         try clear q3
         try clear q38
         try clear q385
         try clear q401
         try clear q9
         obtain ⟨x5_3, x10_3, HA, HK3, HO_5, HO_6, HO_10, HO_66, HB⟩ := hrel
         cases gk with
         | zero => exact absurd HA.out (by simp [skew_sorted.l2])
         | succ k3 =>
          have H := HA.out
          clear HA
          simp only [skew_sorted.l2] at H
          by_cases c42 : (x5_3.length : Int) > 0
          ·rw [if_pos c42] at H
           have c42b0 : decide (0 < (x5_3.length : Int)) = true := decide_eq_true c42
           have c42b1 : decide (0 < x5_3.length) = true := decide_eq_true (by omega)
           clear c42
           obtain ⟨c43, H⟩ := ifP H
           have c43b0 : decide (0 < (x5_3.length : Int)) = true := decide_eq_true c43
           have c43b1 : decide (0 < x5_3.length) = true := decide_eq_true (by omega)
           clear c43
           obtain ⟨t403, A44, H⟩ := bdS H
           try dsimp only at H
           by_cases c45 : t403 = true
           ·subst c45
            rw [if_pos rfl] at H
            obtain ⟨c46, H⟩ := ifP H
            have LMc46 := Aside0.mk c46
            clear c46
            generalize hy405 : (x10_3 ++ [rd x5_3 0] : List Int) = y405 at H
            try simp only [Option.bind_some] at H
            have Ny405 := Aside0.mk hy405.symm
            clear hy405
            obtain ⟨c47b0, c47b1, H⟩ := ifE H
            generalize hy408 : (x5_3.drop (1 : Int).toNat : List Int) = y408 at H
            try simp only [Option.bind_some] at H
            have Ny408 := Aside0.mk hy408.symm
            clear hy408
            have H' := Aside0.mk H
            clear H
            obtain ⟨Ao48, co48, eo48, _⟩ := Kd.Q_slice HO_5.out
            subst eo48
            have p402 : 0 ≤ (0 : Int) := (by omega)
            have q402 : 0 < (x5_3.length : Int) := dT
            obtain ⟨ad402, e402, hx402_0⟩ := Kd.at_int (Kd.Q_reads' HO_5.out).2.2 0 p402 q402
            cases e402
            have qi402 : (0 < x5_3.length) = True := eq_true (by omega)
            (try rw [show ((0 : Int)).toNat = 0 from rfl] at hx402_0)
            (try rw [Addr.add_zero'] at hx402_0)
            replace p402 := eq_true p402
            replace q402 := eq_true q402
            obtain ⟨Ao49, co49, eo49⟩ := Kd.R_slice HO_6.out
            subst eo49
            try go_wp2_with (first | (go_at_call 132; (with_reducible refine (skew_less.calls k3 _ _ l0 _ _ t374 (rd x5_3 0) (rd t394 x68_2) true _ ?side1 ?side2 ?side3 ?side4 A44.out).mono ?_); (case side1 => exact uC (Kd.C_below HR0.out HB.out)); (case side2 => exact HC0.out); (case side3 => exact uC (Kd.R_reads' HO_6.out).2.2); (case side4 => exact (Kd.R_reads' HO_6.out).2.1); rintro e w50 ⟨rfl, hb⟩; have n0_ := Aside0.mk (Kd.Q_below (by (with_reducible repeat (first | apply Kd.Q_alloc | apply Kd.Q_drewN | apply Kd.Q_drew)); exact HO_5.out) hb); have n1_ := Aside0.mk (Kd.R_below (uR HO_6.out) hb); have n2_ := Aside0.mk (Kd.R_below (uR HO_10.out) hb); have n3_ := Aside0.mk (Kd.R_below (uR HO_66.out) hb); have n4_ := Aside0.mk (below_step uB hb); clear HO_5; clear HO_6; clear HO_10; clear HO_66; clear HB; have HO_5 := n0_; have HO_6 := n1_; have HO_10 := n2_; have HO_66 := n3_; have HB := n4_; clear n0_ n1_ n2_ n3_ n4_; (try clear hb); (try clear hb2); (try clear hk); (try clear hi)))
            have n0_ := Aside0.mk (Kd.Q_drew HO_5.out)
            have n1_ := Aside0.mk (Kd.R_drew HO_6.out)
            have n2_ := Aside0.mk (Kd.R_drew HO_10.out)
            have n3_ := Aside0.mk (Kd.R_drew HO_66.out)
            have n4_ := Aside0.mk (below_drew1 HB.out)
            clear HO_5
            clear HO_6
            clear HO_10
            clear HO_66
            clear HB
            have HO_5 := n0_
            have HO_6 := n1_
            have HO_10 := n2_
            have HO_66 := n3_
            have HB := n4_
            clear n0_ n1_ n2_ n3_ n4_
            have p404 : 0 ≤ (0 : Int) := (by omega)
            have q404 : 0 < (x5_3.length : Int) := dT
            obtain ⟨ad404, e404, hx404_0⟩ := Kd.at_int (Kd.Q_reads' HO_5.out).2.2 0 p404 q404
            obtain rfl : ad402 = ad404 := (by injection e404)
            have qi404 : (0 < x5_3.length) = True := eq_true (by omega)
            (try rw [show ((0 : Int)).toNat = 0 from rfl] at hx404_0)
            (try rw [Addr.add_zero'] at hx404_0)
            replace p404 := eq_true p404
            replace q404 := eq_true q404
            have q52 : (1 : Int) ≤ ((x5_3.length : Int) : Int) := dT
            obtain ⟨i052, hi052, _, hsz52, _⟩ := info_parts info3
            have hcut52 := cut_from (P := Tryz.prog) 29 3 .i64 Tryz.underlying29 hi052 1 hsz52 (some ad402) x5_3.length co48 1 (by omega) q52
            have hr52 := Kd.Q_drop (k := (1 : Int).toNat) HO_5.out (by omega)
            obtain ⟨A52, hA52⟩ : ∃ A1, A1 = (if co48 = (1 : Int).toNat then (some ad402) else ((some ad402) : Option Addr).map (·.add ((1 : Int).toNat * 1))) := ⟨_, rfl⟩
            obtain ⟨c52, hc52⟩ : ∃ c1, c1 = co48 - (1 : Int).toNat := ⟨_, rfl⟩
            have hy52 : y408.length = x5_3.length - (1 : Int).toNat := (by rw [Ny408.out, List.length_drop])
            rw [← Ny408.out] at hr52
            rw [← hy52, ← hA52, ← hc52] at hcut52
            replace hr52 : Kd.Q (Kd.int .i64) 3 (w50.drew) w.heap.size (fun k_ => some k_ ≠ (.slice Ao49 t374.length co49 : Value).ownBlock ∧ some k_ ≠ (u10 : Value).ownBlock ∧ some k_ ≠ (.slice (some ad401) t394.length co38 : Value).ownBlock) (.slice A52 y408.length c52) y408 := (by rw [hA52, hc52, hy52]; exact hr52)
            have HE52 : Aside0 ((Value.slice A52 y408.length c52).ownBlock = (.slice (some ad402) x5_3.length co48 : Value).ownBlock) := ⟨by rw [hA52]; split <;> (cases ((some ad402) : Option Addr) <;> rfl)⟩
            clear hy52 hi052 hsz52 HO_5 hA52 hc52
            have HO410 := Aside0.mk hr52
            clear hr52
            replace q52 := eq_true q52
            have n_ := Aside0.mk (Kd.R_mono (ok' := fun k_ => (some k_ ≠ (.slice A52 y408.length c52 : Value).ownBlock ∧ (some k_ ≠ (u10 : Value).ownBlock ∧ some k_ ≠ (.slice (some ad401) t394.length co38 : Value).ownBlock))) HO_6.out (fun k_ hk => ⟨(by rw [HE52.out]; exact hk.1), ⟨hk.2.1, hk.2.2⟩⟩))
            clear HO_6
            have HO_6 := n_
            clear n_
            have n_ := Aside0.mk (Kd.R_mono (ok' := fun k_ => (some k_ ≠ (.slice A52 y408.length c52 : Value).ownBlock ∧ (some k_ ≠ (.slice Ao49 t374.length co49 : Value).ownBlock ∧ some k_ ≠ (.slice (some ad401) t394.length co38 : Value).ownBlock))) HO_10.out (fun k_ hk => ⟨(by rw [HE52.out]; exact hk.1), ⟨hk.2.1, hk.2.2⟩⟩))
            clear HO_10
            have HO_10 := n_
            clear n_
            have n_ := Aside0.mk (Kd.R_mono (ok' := fun k_ => (some k_ ≠ (.slice A52 y408.length c52 : Value).ownBlock ∧ (some k_ ≠ (.slice Ao49 t374.length co49 : Value).ownBlock ∧ some k_ ≠ (u10 : Value).ownBlock))) HO_66.out (fun k_ hk => ⟨(by rw [HE52.out]; exact hk.1), ⟨hk.2.1, hk.2.2⟩⟩))
            clear HO_66
            have HO_66 := n_
            clear n_
            refine start_ (n := 10) (S := fun w' => w'.cell? ad402 = some (.int .i64 (rd x5_3 0))) (ds := [4, 5]) #[false, false, false, false, false, false, false, false, false, false] (by kernel_rfl) rfl rfl (hx404_0) (fun hHeld => ?_); refine with_tabW skew_sorted.tab18 skew_sorted.bits18 (fun HT_ HW_ => ?_)
            generalize w50.drew = w51 at HO_5 HO_6 HO_10 HO_66 HB HO410 hx404_0 hHeld ⊢
            refine pY (i := 0) (N := some 84) (bs 0 10) ?_
            refine pY (i := 1) (N := some 85) (bs 1 10) ?_
            refine pY (i := 2) (N := some 86) (bs 2 10) ?_
            refine pY (i := 6) (N := some 90) #[true, true, true, false, false, false, true, false, false, false] ?_
            refine pY (i := 7) (N := some 91) #[true, true, true, false, false, false, true, true, false, false] ?_
            refine take_ (i := 3) (N := some 87) (v := ?_) (a' := ?_) #[true, true, true, true, false, false, true, true, false, false] rfl rfl (take_ofW HT_.out HW_.out (by kernel_rfl)) (fun _ _ _ h => h) (Or.inl ⟨by rfl, ?_⟩) hHeld ?_ ?_
            rotate_left
            ·intro w' s0
             go_simp
             with_reducible rfl
            rotate_left
            ·simp only [Act.put, List.setIfInBounds_toArray, List.set_cons_zero, List.set_cons_succ, i64_w, i32_w]
             rfl
            refine last_ (i := 4) (N := some 88) #[true, true, true, true, true, false, true, true, false, false] rfl rfl (one_of HT_.out (by kernel_rfl)) (by decide) (fun K hK => ?_)
            refine value_ (w1 := ?_) (v := ?_) (by rfl) rfl ?_ ?_
            rotate_left 2
            ·go_simp
             constructor
             ·rfl
             ·rfl
            refine hK.out _ _ ?_
            clear hK K
            refine norm_ (a' := ?_) ?_ ?_
            rotate_left
            ·show Act.put _ (some 88) _ = _
             simp only [Act.put, List.setIfInBounds_toArray, List.set_cons_zero, List.set_cons_succ, i64_w, i32_w]
             rfl
            refine last_ (i := 5) (N := some 89) (bs 7 10) rfl rfl (one_of HT_.out (by kernel_rfl)) (by decide) (fun K hK => ?_)
            refine Kd.R_append_step (Kd.int .i64) (w0 := w) w.heap.size (by rfl) (.tmp 84) (.tmp 88) 29 3 (.int .i64 0) 8 rfl Tryz.underlying29 info3 rfl (by decide) (by omega) u10 x10_3 (rd x5_3 0) [.int .i64 (rd x5_3 0)] (fun k_ => some k_ ≠ (.slice A52 y408.length c52 : Value).ownBlock ∧ some k_ ≠ (.slice Ao49 t374.length co49 : Value).ownBlock ∧ some k_ ≠ (.slice (some ad401) t394.length co38 : Value).ownBlock) (fun _ => False) rfl rfl ?aP (fun _ hk => hk.elim) ?aF ?aO ?aB ?aS ?aL ?_
            (case aP => exact rfl)
            (case aB => exact uB)
            (case aF => exact (fun k_ hk => ⟨Kd.fresh' (Kd.Q_lt (by (with_reducible repeat (first | apply Kd.Q_alloc | apply Kd.Q_drewN | apply Kd.Q_drew)); exact HO410.out)) k_ hk, Kd.fresh' (Kd.R_lt (uR HO_6.out)) k_ hk, Kd.fresh' (Kd.R_lt (uR HO_66.out)) k_ hk⟩))
            (case aO => exact (uR HO_10.out))
            (case aS => exact (below_size uB))
            (case aL => have := LMc46.out; omega)
            intro v406 w53 ho hb hg hat
            rw [← Ny405.out] at ho
            have n0_ := Aside0.mk (Kd.Q_after (ok := (fun k_ => some k_ ≠ (.slice Ao49 t374.length co49 : Value).ownBlock ∧ some k_ ≠ (.slice (some ad401) t394.length co38 : Value).ownBlock)) (by (with_reducible repeat (first | apply Kd.Q_alloc | apply Kd.Q_drewN | apply Kd.Q_drew)); exact Kd.Q_mono HO410.out (fun _ hk => ⟨⟨hk.1, hk.2.2⟩, hk.2.1⟩)) hg hat)
            have n1_ := Aside0.mk (Kd.R_after (ok := (fun k_ => some k_ ≠ (.slice A52 y408.length c52 : Value).ownBlock ∧ some k_ ≠ (.slice (some ad401) t394.length co38 : Value).ownBlock)) (by (with_reducible repeat (first | apply Kd.R_alloc | apply Kd.R_drewN | apply Kd.R_drew)); exact Kd.R_mono HO_6.out (fun _ hk => ⟨⟨hk.1, hk.2.2⟩, hk.2.1⟩)) hg hat)
            have n2_ := Aside0.mk (Kd.R_after (ok := (fun k_ => some k_ ≠ (.slice A52 y408.length c52 : Value).ownBlock ∧ some k_ ≠ (.slice Ao49 t374.length co49 : Value).ownBlock)) (by (with_reducible repeat (first | apply Kd.R_alloc | apply Kd.R_drewN | apply Kd.R_drew)); exact Kd.R_mono HO_66.out (fun _ hk => ⟨⟨hk.1, hk.2.1⟩, hk.2.2⟩)) hg hat)
            have n3_ := Aside0.mk (hb)
            have n4_ := Aside0.mk (ho)
            clear HO410
            clear HO_6
            clear HO_66
            clear HB
            clear HO_10
            have HO410 := n0_
            have HO_6 := n1_
            have HO_66 := n2_
            have HB := n3_
            have HO407 := n4_
            clear n0_ n1_ n2_ n3_ n4_
            clear ho hb hg hat
            refine hK.out _ _ ?_
            clear hK K
            refine norm_ (a' := ?_) ?_ ?_
            rotate_left
            ·show Act.put _ (some 89) _ = _
             simp only [Act.put, List.setIfInBounds_toArray, List.set_cons_zero, List.set_cons_succ, i64_w, i32_w]
             rfl
            refine pY (i := 8) (N := some 10) (bs 8 10) ?_
            refine pY (i := 9) (N := some 5) (bs 9 10) ?_
            refine done_ (done_of HT_.out (by kernel_rfl)) ?_
            try go_wp2
            go_roundg k3
            case measure => have := HK1.out; have := HK2.out; have := HK3.out; omega
            case rel => exact ⟨(y408), (y405), H', ⟨by have := HK1.out; have := HK2.out; have := HK3.out; omega⟩, ⟨by (try simp only [hl8_1]); (with_reducible repeat (first | apply Kd.Q_alloc | apply Kd.Q_drewN | apply Kd.Q_drew)); exact Kd.Q_mono HO410.out (fun _ hk => ⟨hk.1.1, ⟨hk.2, hk.1.2⟩⟩)⟩, ⟨by (try simp only [hl8_1]); (with_reducible repeat (first | apply Kd.R_alloc | apply Kd.R_drewN | apply Kd.R_drew)); exact Kd.R_mono HO_6.out (fun _ hk => ⟨hk.1.1, ⟨hk.2, hk.1.2⟩⟩)⟩, ⟨by (try simp only [hl8_1]); (with_reducible repeat (first | apply Kd.R_alloc | apply Kd.R_drewN | apply Kd.R_drew)); exact HO407.out⟩, ⟨by (try simp only [hl8_1]); (with_reducible repeat (first | apply Kd.R_alloc | apply Kd.R_drewN | apply Kd.R_drew)); exact Kd.R_mono HO_66.out (fun _ hk => ⟨hk.1.1, ⟨hk.1.2, hk.2⟩⟩)⟩, ⟨uB⟩⟩
           ·replace c45 := Bool.eq_false_iff.mpr c45
            subst c45
            rw [if_neg (by decide)] at H
            obtain ⟨c54, H⟩ := ifP H
            have LMc54 := Aside0.mk c54
            clear c54
            generalize hy411 : (x10_3 ++ [(rd t394 x68_2)] : List Int) = y411 at H
            try simp only [Option.bind_some] at H
            have Ny411 := Aside0.mk hy411.symm
            clear hy411
            have H' := Aside0.mk H
            clear H
            obtain ⟨Ao55, co55, eo55, _⟩ := Kd.Q_slice HO_5.out
            subst eo55
            have p402 : 0 ≤ (0 : Int) := (by omega)
            have q402 : 0 < (x5_3.length : Int) := dT
            obtain ⟨ad402, e402, hx402_0⟩ := Kd.at_int (Kd.Q_reads' HO_5.out).2.2 0 p402 q402
            cases e402
            have qi402 : (0 < x5_3.length) = True := eq_true (by omega)
            (try rw [show ((0 : Int)).toNat = 0 from rfl] at hx402_0)
            (try rw [Addr.add_zero'] at hx402_0)
            replace p402 := eq_true p402
            replace q402 := eq_true q402
            obtain ⟨Ao56, co56, eo56⟩ := Kd.R_slice HO_6.out
            subst eo56
            go_wp2_with (first | (go_at_call 132; (with_reducible refine (skew_less.calls k3 _ _ l0 _ _ t374 (rd x5_3 0) (rd t394 x68_2) false _ ?side1 ?side2 ?side3 ?side4 A44.out).mono ?_); (case side1 => exact uC (Kd.C_below HR0.out HB.out)); (case side2 => exact HC0.out); (case side3 => exact uC (Kd.R_reads' HO_6.out).2.2); (case side4 => exact (Kd.R_reads' HO_6.out).2.1); rintro e w57 ⟨rfl, hb⟩; have n0_ := Aside0.mk (Kd.Q_below (by (with_reducible repeat (first | apply Kd.Q_alloc | apply Kd.Q_drewN | apply Kd.Q_drew)); exact HO_5.out) hb); have n1_ := Aside0.mk (Kd.R_below (uR HO_6.out) hb); have n2_ := Aside0.mk (Kd.R_below (uR HO_10.out) hb); have n3_ := Aside0.mk (Kd.R_below (uR HO_66.out) hb); have n4_ := Aside0.mk (below_step uB hb); clear HO_5; clear HO_6; clear HO_10; clear HO_66; clear HB; have HO_5 := n0_; have HO_6 := n1_; have HO_10 := n2_; have HO_66 := n3_; have HB := n4_; clear n0_ n1_ n2_ n3_ n4_; (try clear hb); (try clear hb2); (try clear hk); (try clear hi)) | ((with_reducible refine gate_builtin (b := .append) (xs := #[.tmp 92, .tmp 94]) rfl ?_); at_builtin; refine Kd.R_append (Kd.int .i64) (w0 := w) w.heap.size rfl (.tmp 92) (.tmp 94) 29 3 (.int .i64 0) 8 rfl Tryz.underlying29 info3 rfl (by decide) (by omega) u10 x10_3 (rd t394 x68_2) [.int .i64 (rd t394 x68_2)] (fun k_ => some k_ ≠ (.slice (some ad402) x5_3.length co55 : Value).ownBlock ∧ some k_ ≠ (.slice Ao56 t374.length co56 : Value).ownBlock ∧ some k_ ≠ (.slice (some ad401) t394.length co38 : Value).ownBlock) (fun _ => False) rfl rfl ?aP (fun _ hk => hk.elim) ?aF ?aO ?aB ?aS ?aL ?_; (case aP => exact rfl); (case aB => exact uB); (case aF => exact (fun k_ hk => ⟨Kd.fresh' (Kd.Q_lt (by (with_reducible repeat (first | apply Kd.Q_alloc | apply Kd.Q_drewN | apply Kd.Q_drew)); exact HO_5.out)) k_ hk, Kd.fresh' (Kd.R_lt (uR HO_6.out)) k_ hk, Kd.fresh' (Kd.R_lt (uR HO_66.out)) k_ hk⟩)); (case aO => exact (uR HO_10.out)); (case aS => exact (below_size uB)); (case aL => have := LMc54.out; omega); intro v412 w58 ho hb hg hat; rw [← Ny411.out] at ho; have n0_ := Aside0.mk (Kd.Q_after (ok := (fun k_ => some k_ ≠ (.slice Ao56 t374.length co56 : Value).ownBlock ∧ some k_ ≠ (.slice (some ad401) t394.length co38 : Value).ownBlock)) (by (with_reducible repeat (first | apply Kd.Q_alloc | apply Kd.Q_drewN | apply Kd.Q_drew)); exact Kd.Q_mono HO_5.out (fun _ hk => ⟨⟨hk.1, hk.2.2⟩, hk.2.1⟩)) hg hat); have n1_ := Aside0.mk (Kd.R_after (ok := (fun k_ => some k_ ≠ (.slice (some ad402) x5_3.length co55 : Value).ownBlock ∧ some k_ ≠ (.slice (some ad401) t394.length co38 : Value).ownBlock)) (by (with_reducible repeat (first | apply Kd.R_alloc | apply Kd.R_drewN | apply Kd.R_drew)); exact Kd.R_mono HO_6.out (fun _ hk => ⟨⟨hk.1, hk.2.2⟩, hk.2.1⟩)) hg hat); have n2_ := Aside0.mk (Kd.R_after (ok := (fun k_ => some k_ ≠ (.slice (some ad402) x5_3.length co55 : Value).ownBlock ∧ some k_ ≠ (.slice Ao56 t374.length co56 : Value).ownBlock)) (by (with_reducible repeat (first | apply Kd.R_alloc | apply Kd.R_drewN | apply Kd.R_drew)); exact Kd.R_mono HO_66.out (fun _ hk => ⟨⟨hk.1, hk.2.1⟩, hk.2.2⟩)) hg hat); have n3_ := Aside0.mk (hb); have n4_ := Aside0.mk (ho); clear HO_5; clear HO_6; clear HO_66; clear HB; clear HO_10; have HO_5 := n0_; have HO_6 := n1_; have HO_66 := n2_; have HB := n3_; have HO413 := n4_; clear n0_ n1_ n2_ n3_ n4_; clear ho hb hg hat))
            go_roundg k3
            case measure => have := HK1.out; have := HK2.out; have := HK3.out; omega
            case rel => exact ⟨(x5_3), (y411), (wrap64 (x68_2 + 1)), sD, H', ⟨by have := HK1.out; have := HK2.out; have := HK3.out; omega⟩, ⟨by (try simp only [hl8_1]); (with_reducible repeat (first | apply Kd.Q_alloc | apply Kd.Q_drewN | apply Kd.Q_drew)); exact Kd.Q_mono HO_5.out (fun _ hk => ⟨hk.1.1, ⟨hk.2, hk.1.2⟩⟩)⟩, ⟨by (try simp only [hl8_1]); (with_reducible repeat (first | apply Kd.R_alloc | apply Kd.R_drewN | apply Kd.R_drew)); exact Kd.R_mono HO_6.out (fun _ hk => ⟨hk.1.1, ⟨hk.2, hk.1.2⟩⟩)⟩, ⟨by (try simp only [hl8_1]); (with_reducible repeat (first | apply Kd.R_alloc | apply Kd.R_drewN | apply Kd.R_drew)); exact HO413.out⟩, ⟨by (try simp only [hl8_1]); (with_reducible repeat (first | apply Kd.R_alloc | apply Kd.R_drewN | apply Kd.R_drew)); exact Kd.R_mono HO_66.out (fun _ hk => ⟨hk.1.1, ⟨hk.1.2, hk.2⟩⟩)⟩, ⟨uB⟩⟩
          ·rw [if_neg c42] at H
           have c42b0 : decide (0 < (x5_3.length : Int)) = false := decide_eq_false c42
           (try simp only [hl8_1] at c42b0)
           have c42b1 : decide (0 < x5_3.length) = false := decide_eq_false (by omega)
           clear c42
           obtain ⟨c59, H⟩ := ifP H
           have LMc59 := Aside0.mk c59
           clear c59
           generalize hy414 : (x10_3 ++ [(rd t394 x68_2)] : List Int) = y414 at H
           try simp only [Option.bind_some] at H
           have Ny414 := Aside0.mk hy414.symm
           clear hy414
           have H' := Aside0.mk H
           clear H
           obtain ⟨Ao60, co60, eo60, _⟩ := Kd.Q_slice HO_5.out
           subst eo60
           go_wp2_with (first | ((with_reducible refine gate_builtin (b := .append) (xs := #[.tmp 92, .tmp 94]) rfl ?_); at_builtin; refine Kd.R_append (Kd.int .i64) (w0 := w) w.heap.size rfl (.tmp 92) (.tmp 94) 29 3 (.int .i64 0) 8 rfl Tryz.underlying29 info3 rfl (by decide) (by omega) u10 x10_3 (rd t394 x68_2) [.int .i64 (rd t394 x68_2)] (fun k_ => some k_ ≠ (.slice Ao60 x5_3.length co60 : Value).ownBlock ∧ some k_ ≠ (v377 : Value).ownBlock ∧ some k_ ≠ (.slice (some ad401) t394.length co38 : Value).ownBlock) (fun _ => False) rfl rfl ?aP (fun _ hk => hk.elim) ?aF ?aO ?aB ?aS ?aL ?_; (case aP => exact rfl); (case aB => exact uB); (case aF => exact (fun k_ hk => ⟨Kd.fresh' (Kd.Q_lt (by (with_reducible repeat (first | apply Kd.Q_alloc | apply Kd.Q_drewN | apply Kd.Q_drew)); exact HO_5.out)) k_ hk, Kd.fresh' (Kd.R_lt (uR HO_6.out)) k_ hk, Kd.fresh' (Kd.R_lt (uR HO_66.out)) k_ hk⟩)); (case aO => exact (uR HO_10.out)); (case aS => exact (below_size uB)); (case aL => have := LMc59.out; omega); intro v415 w61 ho hb hg hat; rw [← Ny414.out] at ho; have n0_ := Aside0.mk (Kd.Q_after (ok := (fun k_ => some k_ ≠ (v377 : Value).ownBlock ∧ some k_ ≠ (.slice (some ad401) t394.length co38 : Value).ownBlock)) (by (with_reducible repeat (first | apply Kd.Q_alloc | apply Kd.Q_drewN | apply Kd.Q_drew)); exact Kd.Q_mono HO_5.out (fun _ hk => ⟨⟨hk.1, hk.2.2⟩, hk.2.1⟩)) hg hat); have n1_ := Aside0.mk (Kd.R_after (ok := (fun k_ => some k_ ≠ (.slice Ao60 x5_3.length co60 : Value).ownBlock ∧ some k_ ≠ (.slice (some ad401) t394.length co38 : Value).ownBlock)) (by (with_reducible repeat (first | apply Kd.R_alloc | apply Kd.R_drewN | apply Kd.R_drew)); exact Kd.R_mono HO_6.out (fun _ hk => ⟨⟨hk.1, hk.2.2⟩, hk.2.1⟩)) hg hat); have n2_ := Aside0.mk (Kd.R_after (ok := (fun k_ => some k_ ≠ (.slice Ao60 x5_3.length co60 : Value).ownBlock ∧ some k_ ≠ (v377 : Value).ownBlock)) (by (with_reducible repeat (first | apply Kd.R_alloc | apply Kd.R_drewN | apply Kd.R_drew)); exact Kd.R_mono HO_66.out (fun _ hk => ⟨⟨hk.1, hk.2.1⟩, hk.2.2⟩)) hg hat); have n3_ := Aside0.mk (hb); have n4_ := Aside0.mk (ho); clear HO_5; clear HO_6; clear HO_66; clear HB; clear HO_10; have HO_5 := n0_; have HO_6 := n1_; have HO_66 := n2_; have HB := n3_; have HO416 := n4_; clear n0_ n1_ n2_ n3_ n4_; clear ho hb hg hat))
           go_roundg k3
           case measure => have := HK1.out; have := HK2.out; have := HK3.out; omega
           case rel => exact ⟨(x5_3), (y414), (wrap64 (x68_2 + 1)), sD, H', ⟨by have := HK1.out; have := HK2.out; have := HK3.out; omega⟩, ⟨by (try simp only [hl8_1]); (with_reducible repeat (first | apply Kd.Q_alloc | apply Kd.Q_drewN | apply Kd.Q_drew)); exact Kd.Q_mono HO_5.out (fun _ hk => ⟨hk.1.1, ⟨hk.2, hk.1.2⟩⟩)⟩, ⟨by (try simp only [hl8_1]); (with_reducible repeat (first | apply Kd.R_alloc | apply Kd.R_drewN | apply Kd.R_drew)); exact Kd.R_mono HO_6.out (fun _ hk => ⟨hk.1.1, ⟨hk.2, hk.1.2⟩⟩)⟩, ⟨by (try simp only [hl8_1]); (with_reducible repeat (first | apply Kd.R_alloc | apply Kd.R_drewN | apply Kd.R_drew)); exact HO416.out⟩, ⟨by (try simp only [hl8_1]); (with_reducible repeat (first | apply Kd.R_alloc | apply Kd.R_drewN | apply Kd.R_drew)); exact Kd.R_mono HO_66.out (fun _ hk => ⟨hk.1.1, ⟨hk.1.2, hk.2⟩⟩)⟩, ⟨uB⟩⟩
       ·rw [if_neg c39] at H
        have c39b0 : decide (x68_2 < (t394.length : Int)) = false := decide_eq_false c39
        (try simp only [hl8_1] at c39b0)
        clear c39
        obtain ⟨c62, H⟩ := ifP H
        have LMc62 := Aside0.mk c62
        clear c62
        generalize hy398 : (x10_2 ++ x5_2 : List Int) = y398 at H
        try simp only [Option.bind_some] at H
        have Ny398 := Aside0.mk hy398.symm
        clear hy398
        obtain rfl := Option.some.inj H
        obtain ⟨Ao64, co64, eo64, _⟩ := Kd.Q_slice HO_5.out
        subst eo64
        go_wp2_with (first | ((with_reducible refine gate_builtin (b := .append) (xs := #[.tmp 97, .tmp 98]) rfl ?_); at_builtin; refine Kd.R_append_rows (Kd.int .i64) (w0 := w) w.heap.size rfl (.tmp 97) (.tmp 98) 29 3 (.int .i64 0) 8 rfl Tryz.underlying29 info3 rfl (by decide) (by omega) u10 x10_2 x5_2 _ _ _ (fun k_ => some k_ ≠ (.slice Ao64 x5_2.length co64 : Value).ownBlock ∧ some k_ ≠ (v377 : Value).ownBlock ∧ some k_ ≠ (.slice Ao38 t394.length co38 : Value).ownBlock) (fun _ => False) rfl rfl ?aO ?aR (fun _ _ h => h) (fun _ h => h.elim) ?aF ?aB ?aS ?aL ?_; (case aR => repeat (first | exact (Kd.Q_reads' HO_5.out).2.2 | (with_reducible refine Kd.C_alloc ?_ _) | (with_reducible refine Kd.C_drewN ?_ _) | (with_reducible refine Kd.C_drew ?_))); (case aB => exact uB); (case aF => exact (fun k_ hk => ⟨Kd.fresh' (Kd.Q_lt (by (with_reducible repeat (first | apply Kd.Q_alloc | apply Kd.Q_drewN | apply Kd.Q_drew)); exact HO_5.out)) k_ hk, Kd.fresh' (Kd.R_lt (uR HO_6.out)) k_ hk, Kd.fresh' (Kd.R_lt (uR HO_66.out)) k_ hk⟩)); (case aO => exact (uR HO_10.out)); (case aS => exact (below_size uB)); (case aL => have := LMc62.out; omega); intro v399 w63 ho hb hg hat; rw [← Ny398.out] at ho; have n0_ := Aside0.mk (Kd.Q_after (ok := (fun k_ => some k_ ≠ (v377 : Value).ownBlock ∧ some k_ ≠ (.slice Ao38 t394.length co38 : Value).ownBlock)) (by (with_reducible repeat (first | apply Kd.Q_alloc | apply Kd.Q_drewN | apply Kd.Q_drew)); exact Kd.Q_mono HO_5.out (fun _ hk => ⟨⟨hk.1, hk.2.2⟩, hk.2.1⟩)) hg hat); have n1_ := Aside0.mk (Kd.R_after (ok := (fun k_ => some k_ ≠ (.slice Ao64 x5_2.length co64 : Value).ownBlock ∧ some k_ ≠ (.slice Ao38 t394.length co38 : Value).ownBlock)) (by (with_reducible repeat (first | apply Kd.R_alloc | apply Kd.R_drewN | apply Kd.R_drew)); exact Kd.R_mono HO_6.out (fun _ hk => ⟨⟨hk.1, hk.2.2⟩, hk.2.1⟩)) hg hat); have n2_ := Aside0.mk (Kd.R_after (ok := (fun k_ => some k_ ≠ (.slice Ao64 x5_2.length co64 : Value).ownBlock ∧ some k_ ≠ (v377 : Value).ownBlock)) (by (with_reducible repeat (first | apply Kd.R_alloc | apply Kd.R_drewN | apply Kd.R_drew)); exact Kd.R_mono HO_66.out (fun _ hk => ⟨⟨hk.1, hk.2.1⟩, hk.2.2⟩)) hg hat); have n3_ := Aside0.mk (hb); have n4_ := Aside0.mk (ho); clear HO_5; clear HO_6; clear HO_66; clear HB; clear HO_10; have HO_5 := n0_; have HO_6 := n1_; have HO_66 := n2_; have HB := n3_; have HO400 := n4_; clear n0_ n1_ n2_ n3_ n4_; clear ho hb hg hat))
        go_ret
        exact ⟨_, eR, by (with_reducible repeat (first | apply Kd.R_alloc | apply Kd.R_drewN | apply Kd.R_drew)); exact Kd.R_mono HO400.out (fun _ hk => trivial), uB⟩
end Go.Proofs.YtbbpplnnegdenaaGreat.PTopPipe
end
section
namespace Go.Proofs.YtbbpplnnegdenaaGreat.PTopPipe
open Go.RowKit Go.Proofs.YtbbpplnnegdenaaGreatW.PrintWords Go.Proofs.YtbbpplnnegdenaaGreatW.PrintLast Go.Proofs.YtbbpplnnegdenaaGreatW.PrintMore
attribute [local go_sem] max2_int min2_int max_two min_two max_three min_three max_four min_four
set_option linter.unusedVariables false
set_option linter.unusedSimpArgs false
mutual
def skew_squeezed.l0 : Nat → List Int → Int → List Int → Int → Int → Option (List Int)
  | 0, _, _, _, _, _ => none
  | k + 1, x0, x3, x13, x14, x15 => if x15 < x14 then (if 0 ≤ x15 then (if x15 < (x13.length : Int) then (skew_squeezed.l0 k x0 (mx x3 (rd x13 x15)) x13 x14 (wrap64 (x15 + 1))) else (none)) else (none)) else (if 0 ≤ (wrap64 (x3 + 1)) then (if (wrap64 (x3 + 1) : Int).toNat ≤ 35184372088832 then (skew_squeezed.l1 k x0 (List.replicate (wrap64 (x3 + 1) : Int).toNat 0) x0 (x0.length : Int) 0) else (none)) else (none))
def skew_squeezed.l1 : Nat → List Int → List Int → List Int → Int → Int → Option (List Int)
  | 0, _, _, _, _, _ => none
  | k + 1, x0, x6, x26, x27, x28 => if x28 < x27 then (if 0 ≤ x28 then (if x28 < (x26.length : Int) then (if 0 ≤ (rd x26 x28) then (if (rd x26 x28) < (x6.length : Int) then (skew_squeezed.l1 k x0 (x6.set ((rd x26 x28) : Int).toNat 1) x26 x27 (wrap64 (x28 + 1))) else (none)) else (none)) else (none)) else (none)) else ((bucket_Starts.f k x6).bind fun t423 => (if 0 ≤ (x0.length : Int) then (if ((x0.length : Int) : Int).toNat ≤ 35184372088832 then (skew_squeezed.l2 k t423 (List.replicate ((x0.length : Int) : Int).toNat 0) x0 (x0.length : Int) 0) else (none)) else (none)))
def skew_squeezed.l2 : Nat → List Int → List Int → List Int → Int → Int → Option (List Int)
  | 0, _, _, _, _, _ => none
  | k + 1, x9, x10, x41, x42, x43 => if x43 < x42 then (if 0 ≤ x43 then (if x43 < (x41.length : Int) then (if 0 ≤ (rd x41 x43) then (if (rd x41 x43) < (x9.length : Int) then (if x43 < (x10.length : Int) then (skew_squeezed.l2 k x9 (x10.set (x43 : Int).toNat (rd x9 (rd x41 x43))) x41 x42 (wrap64 (x43 + 1))) else (none)) else (none)) else (none)) else (none)) else (none)) else (some x10)
end
def skew_squeezed.f (k : Nat) (l0 : List Int) : Option (List Int) := skew_squeezed.l0 k l0 0 l0 (l0.length : Int) 0
theorem skew_squeezed.mono_l : ∀ k, (∀ y0 y1 y2 y3 y4, LeO (skew_squeezed.l0 k y0 y1 y2 y3 y4) (skew_squeezed.l0 (k + 1) y0 y1 y2 y3 y4)) ∧ (∀ y0 y1 y2 y3 y4, LeO (skew_squeezed.l1 k y0 y1 y2 y3 y4) (skew_squeezed.l1 (k + 1) y0 y1 y2 y3 y4)) ∧ (∀ y0 y1 y2 y3 y4, LeO (skew_squeezed.l2 k y0 y1 y2 y3 y4) (skew_squeezed.l2 (k + 1) y0 y1 y2 y3 y4))
  | 0 => ⟨fun _ _ _ _ _ r h => by simp [skew_squeezed.l0] at h, fun _ _ _ _ _ r h => by simp [skew_squeezed.l1] at h, fun _ _ _ _ _ r h => by simp [skew_squeezed.l2] at h⟩
  | k + 1 => by
    obtain ⟨ih0, ih1, ih2⟩ := skew_squeezed.mono_l k
    refine ⟨?_, ?_, ?_⟩
    · intro y0 y1 y2 y3 y4
      unfold skew_squeezed.l0
      have m0 := @bucket_Starts.mono
      exact mB
    · intro y0 y1 y2 y3 y4
      unfold skew_squeezed.l1
      have m0 := @bucket_Starts.mono
      exact mB
    · intro y0 y1 y2 y3 y4
      unfold skew_squeezed.l2
      have m0 := @bucket_Starts.mono
      exact mB
theorem skew_squeezed.mono : ∀ a0 k, LeO (skew_squeezed.f k a0) (skew_squeezed.f (k + 1) a0) := by
  intro a0 k
  obtain ⟨ih0, ih1, ih2⟩ := skew_squeezed.mono_l k
  unfold skew_squeezed.f
  have m0 := @bucket_Starts.mono
  exact mB
set_option maxHeartbeats 8000000 in
set_option maxRecDepth 100000 in
theorem skew_squeezed.calls (k : Nat) (A0 : Option Addr) (c0 : Nat) (l0 : List Int) (r : List Int) (w : World) (hr0 : Kd.C (Kd.int .i64) w A0 l0.length l0) (hc0 : l0.length ≤ c0) (h : skew_squeezed.f k l0 = some r) :
    Calls Tryz.prog 108 #[.slice A0 l0.length c0] w fun e w' => ∃ v0_ : Value, e = .returned (v0_) ∧ Kd.R (Kd.int .i64) 3 w' w.heap.size (fun _ => True) v0_ r ∧ Below w.heap.size w w' := by
 have HR0 := Aside0.mk hr0
 have HC0 := Aside0.mk hc0
 clear hr0 hc0
 have HB := Aside0.mk (Below.refl w.heap.size w)
 have H := h
 clear h
 unfold skew_squeezed.f at H
 have H' := Aside0.mk H
 clear H
 go_enter Tryz.func108, Tryz.ntmps108
 go_wp2
 go_loopg [3, 15] k (fun kq v3 v15 w' => ∃ (x3_1 : Int) (x15_1 : Int), v3 = .int .i64 x3_1 ∧ v15 = .int .i64 x15_1 ∧ Aside0 (skew_squeezed.l0 kq l0 x3_1 l0 (l0.length : Int) x15_1 = some r) ∧ Aside0 (kq ≤ k) ∧ Aside0 (Below w.heap.size w w'))
 case atStart => exact ⟨(0), (0), sD, sD, H', ⟨Nat.le_refl _⟩, ⟨uB⟩⟩
 case round =>
  clear H'
  try clear c1
  obtain ⟨x3_1, x15_1, rfl, rfl, HA, HK1, HB⟩ := hrel
  cases gk with
  | zero => exact absurd HA.out (by simp [skew_squeezed.l0])
  | succ k1 =>
   have H := HA.out
   clear HA
   simp only [skew_squeezed.l0] at H
   rcases ifC H with ⟨c2b0, H⟩ | ⟨c2b0, H⟩
   ·obtain ⟨c3b0, c4b0, H⟩ := ifD2 H
    obtain ⟨ji5, hji5⟩ : ∃ j_ : Int, (mx x3_1 (rd l0 x15_1)) = j_ := ⟨_, rfl⟩
    first | rw [hji5] at H | simp only [hji5] at H
    have hji5_ : (if x3_1 < (rd l0 x15_1) then (rd l0 x15_1) else x3_1) = ji5 := hji5
    have H' := Aside0.mk H
    clear H
    obtain ⟨ad417, e417, hx417_0, p417, q417⟩ := rIO HB.out HR0.out x15_1
    cases e417
    go_wp2
    go_roundg k1
    case measure => have := HK1.out; omega
    case rel => exact ⟨(ji5), (wrap64 (x15_1 + 1)), (by first | rfl | (simp; done) | (simp only [← hji5] <;> (first | rfl | simp)) | (simp [*]; done)), sD, H', ⟨by have := HK1.out; omega⟩, ⟨uB⟩⟩
   ·obtain ⟨ji6, hji6⟩ : ∃ j_ : Int, (wrap64 (x3_1 + 1)) = j_ := ⟨_, rfl⟩
    first | rw [hji6] at H | simp only [hji6] at H
    have hji6w : (IntKind.i64.wrap (x3_1 + 1)) = ji6 := (i64_w _).trans hji6
    obtain ⟨c7b0, c7b1, H⟩ := ifE H
    obtain ⟨c8b0, c8b1, H⟩ := ifE H
    generalize hy418 : (List.replicate (ji6 : Int).toNat 0 : List Int) = y418 at H
    try simp only [Option.bind_some] at H
    have Ny418 := Aside0.mk hy418.symm
    clear hy418
    have H' := Aside0.mk H
    clear H
    go_wp2_with (first | ((with_reducible refine gate_dst (N := 25) rfl ?_); refine Kd.R_make (Kd.int .i64) _ 3 rfl (N := 25) rfl 29 _ _ rfl ji6 rfl rfl Tryz.underlying29 (.int .i64 0) 8 info3 rfl (by decide) (by omega) 0 (ok := fun _ => True) (okp := fun _ => True) rfl (fun _ hk => hk) trivial dT (Nat.le_trans (Nat.mul_le_mul_right _ (dT : ji6.toNat ≤ 35184372088832)) (by omega)) (Below.refl _ _) (Nat.le_refl _) ?_; intro v419 w9 ho10 hb hg_ hnew_; clear hg_ hnew_; (first | rw [← Ny418.out] at ho10 | (simp only [Int.reduceToNat] at ho10; rw [← Ny418.out] at ho10)); have n0_ := Aside0.mk (Kd.R_lower ho10 (below_size uB)); have n1_ := Aside0.mk (below_step uB hb); clear HB; have HO420 := n0_; have HB := n1_; clear n0_ n1_; clear hb ho10))
    go_loopg [28] k1 (fun kq v28 w' => ∃ (x6_2 : List Int) (x28_2 : Int), v28 = .int .i64 x28_2 ∧ Aside0 (skew_squeezed.l1 kq l0 x6_2 l0 (l0.length : Int) x28_2 = some r) ∧ Aside0 (kq ≤ k1) ∧ Aside0 (Kd.R (Kd.int .i64) 3 w' w.heap.size (fun _ => True) v419 x6_2) ∧ Aside0 (Below w.heap.size w w'))
    case atStart => exact ⟨(y418), (0), sD, H', ⟨Nat.le_refl _⟩, ⟨uR HO420.out⟩, ⟨uB⟩⟩
    case round =>
     clear H'
     try clear c1
     try clear c2
     try clear c2b0
     try clear p2
     try clear c3
     try clear c3b0
     try clear c4
     try clear c4b0
     try clear p4
     try clear q4
     try clear hx4
     try clear p6
     try clear c7
     try clear c7b0
     try clear c7b1
     try clear c8
     try clear c8b0
     try clear c8b1
     try clear c10
     try clear hx417_0
     try clear p417
     try clear q417
     obtain ⟨x6_2, x28_2, rfl, HA, HK2, HO_6, HB⟩ := hrel
     cases gk with
     | zero => exact absurd HA.out (by simp [skew_squeezed.l1])
     | succ k2 =>
      have H := HA.out
      clear HA
      simp only [skew_squeezed.l1] at H
      rcases ifC H with ⟨c11b0, H⟩ | ⟨c11b0, H⟩
      ·obtain ⟨c12b0, c13b0, H⟩ := ifD2 H
       obtain ⟨c14b0, c15b0, H⟩ := ifD2 H
       generalize hy422 : (x6_2.set ((rd l0 x28_2) : Int).toNat 1 : List Int) = y422 at H
       try simp only [Option.bind_some] at H
       have Ny422 := Aside0.mk hy422.symm
       clear hy422
       have H' := Aside0.mk H
       clear H
       obtain ⟨ad421, e421, hx421_0, p421, q421⟩ := rIO HB.out HR0.out x28_2
       cases e421
       have p16 : 0 ≤ ((rd l0 x28_2) : Int) := dT
       have q16 : ((rd l0 x28_2) : Int) < ((x6_2.length : Int) : Int) := dT
       obtain ⟨go16, co16, eo16, gb16, gl16, cl16, HG16⟩ := Kd.R_form HO_6.out (by omega)
       (first | cases eo16 | (injection eo16 with ea_ en_ ec_; (first | subst ea_ | (injection ea_ with ea_; subst ea_)); subst ec_; clear en_))
       have GB16 := Aside0.mk gb16
       have GG16 := Aside0.mk HG16
       clear gb16 gl16 HG16
       obtain ⟨hx16_0, hf16_0⟩ := Kd.R_celln 0 HO_6.out ((rd l0 x28_2) : Int) p16 q16
       replace p16 := eq_true p16
       replace q16 := eq_true q16
       have HP17 := Kd.R_putg HO_6.out ((rd l0 x28_2) : Int) 1
       go_wp2_with (first | ((with_reducible refine gate_store (t := 3) (p := 34) rfl ?_); refine store_event (t := 3) (p := 34) (v := ?vo_w18) (w1 := (wr.setCell ⟨go16, ((rd l0 x28_2) : Int).toNat, none⟩ (.int .i64 1))) ?hg ?ho ?hn ?hr ?_; (case ho => rfl); (case hg => rfl); (case hn => rfl); (case hr => first | (go_simp; done) | (go_simp; rfl)); intro w18 hw; have hg : wr.grownBy w18 (some go16) := (by rw [hw]; exact HP17.2); have hp_ : Kd.R (Kd.int .i64) 3 w18 w.heap.size (fun _ => True) (.slice (some ⟨go16, 0, none⟩) x6_2.length co16) y422 := (by rw [hw, Ny422.out]; exact HP17.1); clear HP17; have n0_ := Aside0.mk (hp_); have n1_ := Aside0.mk ((by rw [hw]; exact below_set (HB.out) GB16.out : Below w.heap.size w w18)); clear HO_6; clear HB; have HO_6 := n0_; have HB := n1_; clear n0_ n1_; clear hg hw hp_))
       go_roundg k2
       case measure => have := HK1.out; have := HK2.out; omega
       case rel => exact ⟨(y422), (wrap64 (x28_2 + 1)), sD, H', ⟨by have := HK1.out; have := HK2.out; omega⟩, ⟨uR HO_6.out⟩, ⟨uB⟩⟩
      ·obtain ⟨t423, A19, H⟩ := bdS H
       try dsimp only at H
       obtain ⟨c20b0, c20b1, H⟩ := ifE H
       obtain ⟨c21b0, c21b1, H⟩ := ifE H
       generalize hy426 : (List.replicate ((l0.length : Int) : Int).toNat 0 : List Int) = y426 at H
       try simp only [Option.bind_some] at H
       have Ny426 := Aside0.mk hy426.symm
       clear hy426
       have H' := Aside0.mk H
       clear H
       obtain ⟨Ao22, co22, eo22⟩ := Kd.R_slice HO_6.out
       subst eo22
       go_wp2_with (first | ((with_reducible refine gate_callee (f := 93) rfl ?_); refine goesL_ (some 37) rfl rfl Tryz.func93 (by kernel_rfl) rfl #[.slice Ao22 x6_2.length co22] rfl aE ?_; (with_reducible refine (bucket_Starts.calls k2 _ _ x6_2 t423 _ ?side1 ?side2 A19.out).mono ?_); (case side1 => exact uC (Kd.R_reads' HO_6.out).2.2); (case side2 => exact (Kd.R_reads' HO_6.out).2.1); rintro e w23 ⟨v424, rfl, ho0, hb⟩; refine ⟨_, rfl, ?_⟩; have n0_ := Aside0.mk (Kd.R_elder' (uR HO_6.out) (Kd.R_base ho0) hb); have n1_ := Aside0.mk (Kd.R_lower (Kd.R_new' ho0 (Kd.R_lt (uR HO_6.out))) (below_size uB)); have n2_ := Aside0.mk (below_step uB hb); clear HO_6; clear HB; have HO_6 := n0_; have HO425 := n1_; have HB := n2_; clear n0_ n1_ n2_; (try clear hb); (try clear hb2); (try clear hk); (try clear hi); (try clear ho0)) | ((with_reducible refine gate_dst (N := 40) rfl ?_); refine Kd.R_make (Kd.int .i64) _ 3 rfl (N := 40) rfl 29 _ _ rfl (l0.length : Int) rfl rfl Tryz.underlying29 (.int .i64 0) 8 info3 rfl (by decide) (by omega) 0 (ok := fun _ => True) (okp := fun _ => True) rfl (fun _ hk => hk) trivial dT (Nat.le_trans (Nat.mul_le_mul_right _ (dT : (l0.length : Int).toNat ≤ 35184372088832)) (by omega)) (Below.refl _ _) (Nat.le_refl _) ?_; intro v427 w24 ho25 hb hg_ hnew_; clear hg_ hnew_; (first | rw [← Ny426.out] at ho25 | (simp only [Int.reduceToNat] at ho25; rw [← Ny426.out] at ho25)); have n0_ := Aside0.mk (Kd.R_elder' (uR HO_6.out) (Kd.R_base ho25) hb); have n1_ := Aside0.mk (Kd.R_elder' (uR HO425.out) (Kd.R_base ho25) hb); have n2_ := Aside0.mk (Kd.R_lower (Kd.R_new' (Kd.R_new' ho25 (Kd.R_lt (uR HO_6.out))) (Kd.R_lt (uR HO425.out))) (below_size uB)); have n3_ := Aside0.mk (below_step uB hb); clear HO_6; clear HO425; clear HB; have HO_6 := n0_; have HO425 := n1_; have HO428 := n2_; have HB := n3_; clear n0_ n1_ n2_ n3_; clear hb ho25))
       go_loopg [43] k2 (fun kq v43 w' => ∃ (x10_3 : List Int) (x43_3 : Int), v43 = .int .i64 x43_3 ∧ Aside0 (skew_squeezed.l2 kq t423 x10_3 l0 (l0.length : Int) x43_3 = some r) ∧ Aside0 (kq ≤ k2) ∧ Aside0 (Kd.R (Kd.int .i64) 3 w' w.heap.size (fun k_ => some k_ ≠ (v427 : Value).ownBlock) v424 t423) ∧ Aside0 (Kd.R (Kd.int .i64) 3 w' w.heap.size (fun k_ => some k_ ≠ (v424 : Value).ownBlock) v427 x10_3) ∧ Aside0 (Below w.heap.size w w'))
       case atStart => exact ⟨(y426), (0), sD, H', ⟨Nat.le_refl _⟩, ⟨by (with_reducible repeat (first | apply Kd.R_alloc | apply Kd.R_drewN | apply Kd.R_drew)); exact Kd.R_mono HO425.out (fun _ hk => hk.2)⟩, ⟨by (with_reducible repeat (first | apply Kd.R_alloc | apply Kd.R_drewN | apply Kd.R_drew)); exact Kd.R_mono HO428.out (fun _ hk => hk.2)⟩, ⟨uB⟩⟩
       case round =>
        clear H'
        try clear c1
        try clear p1
        try clear q1
        try clear hx1
        try clear hf1
        try clear c2
        try clear c2b0
        try clear p2
        try clear c3
        try clear c3b0
        try clear c4
        try clear c4b0
        try clear p4
        try clear q4
        try clear hx4
        try clear p6
        try clear c7
        try clear c7b0
        try clear c7b1
        try clear c8
        try clear c8b0
        try clear c8b1
        try clear c9
        try clear c10
        try clear c11
        try clear c11b0
        try clear c12
        try clear c12b0
        try clear c13
        try clear c13b0
        try clear c14
        try clear c14b0
        try clear c15
        try clear c15b0
        try clear p16
        try clear q16
        try clear hx16
        try clear hf16
        try clear c20
        try clear c20b0
        try clear c20b1
        try clear c21
        try clear c21b0
        try clear c21b1
        try clear hx16_0
        try clear hx417_0
        try clear hx421_0
        try clear p16
        try clear p2
        try clear p4
        try clear p417
        try clear p421
        try clear p6
        try clear q16
        try clear q4
        try clear q417
        try clear q421
        obtain ⟨x10_3, x43_3, rfl, HA, HK3, HO_9, HO_10, HB⟩ := hrel
        cases gk with
        | zero => exact absurd HA.out (by simp [skew_squeezed.l2])
        | succ k3 =>
         have H := HA.out
         clear HA
         simp only [skew_squeezed.l2] at H
         rcases ifC H with ⟨c26b0, H⟩ | ⟨c26b0, H⟩
         ·obtain ⟨c27b0, H⟩ := ifD H
          obtain ⟨c28b0, c29b0, H⟩ := ifD2 H
          obtain ⟨c30b0, c31b0, H⟩ := ifD2 H
          generalize hy431 : (x10_3.set (x43_3 : Int).toNat (rd t423 (rd l0 x43_3)) : List Int) = y431 at H
          try simp only [Option.bind_some] at H
          have Ny431 := Aside0.mk hy431.symm
          clear hy431
          have H' := Aside0.mk H
          clear H
          obtain ⟨ad429, e429, hx429_0, p429, q429⟩ := rIO HB.out HR0.out x43_3
          cases e429
          obtain ⟨Ao33, co33, eo33⟩ := Kd.R_slice HO_9.out
          subst eo33
          obtain ⟨ad430, e430, hx430_0, p430, q430⟩ := rI (Kd.R_reads' HO_9.out).2.2 (rd l0 x43_3)
          cases e430
          have p32 : 0 ≤ (x43_3 : Int) := dT
          have q32 : (x43_3 : Int) < ((x10_3.length : Int) : Int) := dT
          obtain ⟨go32, co32, eo32, gb32, gl32, cl32, HG32⟩ := Kd.R_form HO_10.out (by omega)
          (first | cases eo32 | (injection eo32 with ea_ en_ ec_; (first | subst ea_ | (injection ea_ with ea_; subst ea_)); subst ec_; clear en_))
          have GB32 := Aside0.mk gb32
          have GG32 := Aside0.mk HG32
          clear gb32 gl32 HG32
          obtain ⟨hx32_0, hf32_0⟩ := Kd.R_celln 0 HO_10.out (x43_3 : Int) p32 q32
          replace p32 := eq_true p32
          replace q32 := eq_true q32
          have HP34 := Kd.R_putg HO_10.out (x43_3 : Int) (rd t423 (rd l0 x43_3))
          go_wp2_with (first | ((with_reducible refine gate_store (t := 3) (p := 54) rfl ?_); refine store_event (t := 3) (p := 54) (v := ?vo_w35) (w1 := (wr.setCell ⟨go32, (x43_3 : Int).toNat, none⟩ (.int .i64 (rd t423 (rd l0 x43_3))))) ?hg ?ho ?hn ?hr ?_; (case ho => rfl); (case hg => rfl); (case hn => rfl); (case hr => first | (go_simp; done) | (go_simp; rfl)); intro w35 hw; have hg : wr.grownBy w35 (some go32) := (by rw [hw]; exact HP34.2); have hp_ : Kd.R (Kd.int .i64) 3 w35 w.heap.size (fun k_ => some k_ ≠ (.slice (some ad430) t423.length co33 : Value).ownBlock) (.slice (some ⟨go32, 0, none⟩) x10_3.length co32) y431 := (by rw [hw, Ny431.out]; exact HP34.1); clear HP34; have n0_ := Aside0.mk (Kd.R_after (v := (.slice (some ⟨go32, 0, none⟩) x10_3.length co32)) (v1 := (.slice (some ⟨go32, 0, none⟩) x10_3.length co32)) (ok := (fun _ => True)) (by (with_reducible repeat (first | apply Kd.R_alloc | apply Kd.R_drewN | apply Kd.R_drew)); exact Kd.R_mono HO_9.out (fun _ hk => ⟨trivial, hk⟩)) hg (.inl rfl)); have n1_ := Aside0.mk (hp_); have n2_ := Aside0.mk ((by rw [hw]; exact below_set (HB.out) GB32.out : Below w.heap.size w w35)); clear HO_9; clear HO_10; clear HB; have HO_9 := n0_; have HO_10 := n1_; have HB := n2_; clear n0_ n1_ n2_; clear hg hw hp_))
          go_roundg k3
          case measure => have := HK1.out; have := HK2.out; have := HK3.out; omega
          case rel => exact ⟨(y431), (wrap64 (x43_3 + 1)), sD, H', ⟨by have := HK1.out; have := HK2.out; have := HK3.out; omega⟩, ⟨by (with_reducible repeat (first | apply Kd.R_alloc | apply Kd.R_drewN | apply Kd.R_drew)); exact Kd.R_mono HO_9.out (fun _ hk => hk.2)⟩, ⟨uR HO_10.out⟩, ⟨uB⟩⟩
         ·obtain rfl := Option.some.inj H
          go_wp2
          go_ret
          exact ⟨_, by first | rfl | (simp [errW_none, errW_some] <;> rfl) | (simp only [← hji6]; first | rfl | (simp [errW_none, errW_some] <;> rfl)) | (simp [*, errW_none, errW_some] <;> rfl), by (with_reducible repeat (first | apply Kd.R_alloc | apply Kd.R_drewN | apply Kd.R_drew)); exact Kd.R_mono HO_10.out (fun _ hk => trivial), uB⟩
def skew_Ints.f (k : Nat) (l0 : List Int) (a1 : Int) : Option (List Int × Int) := if (l0.length : Int) > 100000 then (some (([] : List Int), 2)) else ((bucket_Counts.f k l0 a1).bind fun bt432 => (if bt432.2 = true then ((skew_squeezed.f k l0).bind fun t436 => ((skew_sorted.f k t436 (wrap64 ((l0.length : Int) + 1))).bind fun t439 => (some (t439, 0)))) else (some (([] : List Int), 1))))
theorem skew_Ints.mono : ∀ a0 a1 k, LeO (skew_Ints.f k a0 a1) (skew_Ints.f (k + 1) a0 a1) := by
  intro a0 a1 k
  unfold skew_Ints.f
  have m0 := @bucket_Counts.mono
  have m1 := @skew_sorted.mono
  have m2 := @skew_squeezed.mono
  exact mB
set_option maxHeartbeats 8000000 in
set_option maxRecDepth 100000 in
theorem skew_Ints.calls (k : Nat) (A0 : Option Addr) (c0 : Nat) (l0 : List Int) (a1 : Int) (r1 : List Int) (r2 : Int) (w : World) (hr0 : Kd.C (Kd.int .i64) w A0 l0.length l0) (hc0 : l0.length ≤ c0) (h : skew_Ints.f k l0 a1 = some (r1, r2)) :
    Calls Tryz.prog 94 #[.slice A0 l0.length c0, .int .i64 a1] w fun e w' => ∃ v0_ : Value, e = .returned (.tuple #[v0_, .int .i64 r2]) ∧ Kd.R (Kd.int .i64) 3 w' w.heap.size (fun _ => True) v0_ r1 ∧ Below w.heap.size w w' := by
 have HR0 := Aside0.mk hr0
 have HC0 := Aside0.mk hc0
 clear hr0 hc0
 have HB := Aside0.mk (Below.refl w.heap.size w)
 have H := h
 clear h
 unfold skew_Ints.f at H
 by_cases c3 : (l0.length : Int) > 100000
 ·rw [if_pos c3] at H
  have c3b0 : decide (100000 < (l0.length : Int)) = true := decide_eq_true c3
  have c3b1 : decide (100000 < l0.length) = true := decide_eq_true (by omega)
  clear c3
  simp only [Option.some.injEq, Prod.mk.injEq] at H
  obtain ⟨rfl, rfl⟩ := H
  go_enter Tryz.func94, Tryz.ntmps94
  go_wp2
  go_ret2
  exact ⟨_, eR, nL, uB⟩
 ·rw [if_neg c3] at H
  have c3b0 : decide (100000 < (l0.length : Int)) = false := decide_eq_false c3
  have c3b1 : decide (100000 < l0.length) = false := decide_eq_false (by omega)
  clear c3
  obtain ⟨⟨t432, t433⟩, A4, H⟩ := bdS H
  try dsimp only at H
  by_cases c5 : t433 = true
  ·subst c5
   rw [if_pos rfl] at H
   obtain ⟨t436, A6, H⟩ := bdS H
   try dsimp only at H
   obtain ⟨t439, A7, H⟩ := bdS H
   try dsimp only at H
   simp only [Option.some.injEq, Prod.mk.injEq] at H
   obtain ⟨rfl, rfl⟩ := H
   go_enter Tryz.func94, Tryz.ntmps94
   go_wp2_with (first | ((with_reducible refine gate_callee (f := 91) rfl ?_); refine goesL_ (some 14) rfl rfl Tryz.func91 (by kernel_rfl) rfl #[.slice A0 l0.length c0, .int .i64 a1] rfl aE ?_; (with_reducible refine (bucket_Counts.calls k _ _ l0 a1 t432 true _ ?side1 ?side2 A4.out).mono ?_); (case side1 => exact uC HR0.out); (case side2 => exact HC0.out); rintro e w8 ⟨v434, rfl, ho0, hb⟩; refine ⟨_, rfl, ?_⟩; have n0_ := Aside0.mk (Kd.R_lower ho0 (below_size uB)); have n1_ := Aside0.mk (below_step uB hb); clear HB; have HO435 := n0_; have HB := n1_; clear n0_ n1_; (try clear hb); (try clear hb2); (try clear hk); (try clear hi); (try clear ho0)) | ((with_reducible refine gate_callee (f := 108) rfl ?_); refine goesL_ (some 20) rfl rfl Tryz.func108 (by kernel_rfl) rfl #[.slice A0 l0.length c0] rfl aE ?_; (with_reducible refine (skew_squeezed.calls k _ _ l0 t436 _ ?side1 ?side2 A6.out).mono ?_); (case side1 => exact uC (Kd.C_below HR0.out HB.out)); (case side2 => exact HC0.out); rintro e w9 ⟨v437, rfl, ho0, hb⟩; refine ⟨_, rfl, ?_⟩; have n0_ := Aside0.mk (Kd.R_elder' (uR HO435.out) (Kd.R_base ho0) hb); have n1_ := Aside0.mk (Kd.R_lower (Kd.R_new' ho0 (Kd.R_lt (uR HO435.out))) (below_size uB)); have n2_ := Aside0.mk (below_step uB hb); clear HO435; clear HB; have HO435 := n0_; have HO438 := n1_; have HB := n2_; clear n0_ n1_ n2_; (try clear hb); (try clear hb2); (try clear hk); (try clear hi); (try clear ho0); obtain ⟨Ao10, co10, eo10⟩ := Kd.R_slice HO438.out; subst eo10) | ((with_reducible refine gate_callee (f := 107) rfl ?_); refine goesL_ (some 24) rfl rfl Tryz.func107 (by kernel_rfl) rfl #[.slice Ao10 t436.length co10, .int .i64 (wrap64 ((l0.length : Int) + 1))] rfl aE ?_; (with_reducible refine (skew_sorted.calls k _ _ t436 (wrap64 ((l0.length : Int) + 1)) t439 _ ?side1 ?side2 A7.out).mono ?_); (case side1 => exact uC (Kd.R_reads' HO438.out).2.2); (case side2 => exact (Kd.R_reads' HO438.out).2.1); rintro e w11 ⟨v440, rfl, ho0, hb⟩; refine ⟨_, rfl, ?_⟩; have n0_ := Aside0.mk (Kd.R_elder' (uR HO435.out) (Kd.R_base ho0) hb); have n1_ := Aside0.mk (Kd.R_elder' (uR HO438.out) (Kd.R_base ho0) hb); have n2_ := Aside0.mk (Kd.R_lower (Kd.R_new' (Kd.R_new' ho0 (Kd.R_lt (uR HO435.out))) (Kd.R_lt (uR HO438.out))) (below_size uB)); have n3_ := Aside0.mk (below_step uB hb); clear HO435; clear HO438; clear HB; have HO435 := n0_; have HO438 := n1_; have HO441 := n2_; have HB := n3_; clear n0_ n1_ n2_ n3_; (try clear hb); (try clear hb2); (try clear hk); (try clear hi); (try clear ho0)))
   go_ret2
   exact ⟨_, eR, by (with_reducible repeat (first | apply Kd.R_alloc | apply Kd.R_drewN | apply Kd.R_drew)); exact Kd.R_mono HO441.out (fun _ hk => trivial), uB⟩
  ·replace c5 := Bool.eq_false_iff.mpr c5
   subst c5
   rw [if_neg (by decide)] at H
   simp only [Option.some.injEq, Prod.mk.injEq] at H
   obtain ⟨rfl, rfl⟩ := H
   go_enter Tryz.func94, Tryz.ntmps94
   go_wp2_with (first | ((with_reducible refine gate_callee (f := 91) rfl ?_); refine goesL_ (some 14) rfl rfl Tryz.func91 (by kernel_rfl) rfl #[.slice A0 l0.length c0, .int .i64 a1] rfl aE ?_; (with_reducible refine (bucket_Counts.calls k _ _ l0 a1 t432 false _ ?side1 ?side2 A4.out).mono ?_); (case side1 => exact uC HR0.out); (case side2 => exact HC0.out); rintro e w12 ⟨v434, rfl, ho0, hb⟩; refine ⟨_, rfl, ?_⟩; have n0_ := Aside0.mk (Kd.R_lower ho0 (below_size uB)); have n1_ := Aside0.mk (below_step uB hb); clear HB; have HO435 := n0_; have HB := n1_; clear n0_ n1_; (try clear hb); (try clear hb2); (try clear hk); (try clear hi); (try clear ho0)))
   go_ret2
   exact ⟨_, eR, nL, uB⟩
def skew_Bytes.l0 : Nat → List Int → List Int → Int → Int → Option (List Int × Int)
  | 0, _, _, _, _ => none
  | k + 1, x4, x13, x14, x15 => if x15 < x14 then (if 0 ≤ x15 then (if x15 < (x13.length : Int) then (if x15 < (x4.length : Int) then (skew_Bytes.l0 k (x4.set (x15 : Int).toNat (wrap64 (rd x13 x15))) x13 x14 (wrap64 (x15 + 1))) else (none)) else (none)) else (none)) else ((skew_Ints.f k x4 256).bind fun bt447 => (some (bt447.1, bt447.2)))
def skew_Bytes.f (k : Nat) (l0 : List Int) : Option (List Int × Int) := if (l0.length : Int) > 100000 then (some (([] : List Int), 2)) else (if 0 ≤ (l0.length : Int) then (if ((l0.length : Int) : Int).toNat ≤ 35184372088832 then (skew_Bytes.l0 k (List.replicate ((l0.length : Int) : Int).toNat 0) l0 (l0.length : Int) 0) else (none)) else (none))
theorem skew_Bytes.mono_l : ∀ k, (∀ y0 y1 y2 y3, LeO (skew_Bytes.l0 k y0 y1 y2 y3) (skew_Bytes.l0 (k + 1) y0 y1 y2 y3))
  | 0 => fun _ _ _ _ r h => by simp [skew_Bytes.l0] at h
  | k + 1 => by
    have ih0 := skew_Bytes.mono_l k
    · intro y0 y1 y2 y3
      unfold skew_Bytes.l0
      have m0 := @skew_Ints.mono
      exact mB
theorem skew_Bytes.mono : ∀ a0 k, LeO (skew_Bytes.f k a0) (skew_Bytes.f (k + 1) a0) := by
  intro a0 k
  have ih0 := skew_Bytes.mono_l k
  unfold skew_Bytes.f
  have m0 := @skew_Ints.mono
  exact mB
set_option maxHeartbeats 8000000 in
set_option maxRecDepth 100000 in
theorem skew_Bytes.calls (k : Nat) (A0 : Option Addr) (c0 : Nat) (l0 : List Int) (r1 : List Int) (r2 : Int) (w : World) (hr0 : Kd.C (Kd.int .u8) w A0 l0.length l0) (hc0 : l0.length ≤ c0) (h : skew_Bytes.f k l0 = some (r1, r2)) :
    Calls Tryz.prog 77 #[.slice A0 l0.length c0] w fun e w' => ∃ v0_ : Value, e = .returned (.tuple #[v0_, .int .i64 r2]) ∧ Kd.R (Kd.int .i64) 3 w' w.heap.size (fun _ => True) v0_ r1 ∧ Below w.heap.size w w' := by
 have HR0 := Aside0.mk hr0
 have HC0 := Aside0.mk hc0
 clear hr0 hc0
 have HB := Aside0.mk (Below.refl w.heap.size w)
 have H := h
 clear h
 unfold skew_Bytes.f at H
 by_cases c2 : (l0.length : Int) > 100000
 ·rw [if_pos c2] at H
  have c2b0 : decide (100000 < (l0.length : Int)) = true := decide_eq_true c2
  have c2b1 : decide (100000 < l0.length) = true := decide_eq_true (by omega)
  clear c2
  simp only [Option.some.injEq, Prod.mk.injEq] at H
  obtain ⟨rfl, rfl⟩ := H
  go_enter Tryz.func77, Tryz.ntmps77
  go_wp2
  go_ret2
  exact ⟨_, eR, nL, uB⟩
 ·rw [if_neg c2] at H
  have c2b0 : decide (100000 < (l0.length : Int)) = false := decide_eq_false c2
  have c2b1 : decide (100000 < l0.length) = false := decide_eq_false (by omega)
  clear c2
  obtain ⟨c3b0, c3b1, H⟩ := ifE H
  obtain ⟨c4b0, c4b1, H⟩ := ifE H
  generalize hy442 : (List.replicate ((l0.length : Int) : Int).toNat 0 : List Int) = y442 at H
  try simp only [Option.bind_some] at H
  have Ny442 := Aside0.mk hy442.symm
  clear hy442
  have H' := Aside0.mk H
  clear H
  go_enter Tryz.func77, Tryz.ntmps77
  go_wp2_with (first | ((with_reducible refine gate_dst (N := 12) rfl ?_); refine Kd.R_make (Kd.int .i64) _ 3 rfl (N := 12) rfl 29 _ _ rfl (l0.length : Int) rfl rfl Tryz.underlying29 (.int .i64 0) 8 info3 rfl (by decide) (by omega) 0 (ok := fun _ => True) (okp := fun _ => True) rfl (fun _ hk => hk) trivial dT (Nat.le_trans (Nat.mul_le_mul_right _ (dT : (l0.length : Int).toNat ≤ 35184372088832)) (by omega)) (Below.refl _ _) (Nat.le_refl _) ?_; intro v443 w5 ho6 hb hg_ hnew_; clear hg_ hnew_; (first | rw [← Ny442.out] at ho6 | (simp only [Int.reduceToNat] at ho6; rw [← Ny442.out] at ho6)); have n0_ := Aside0.mk (Kd.R_lower ho6 (below_size uB)); have n1_ := Aside0.mk (below_step uB hb); clear HB; have HO444 := n0_; have HB := n1_; clear n0_ n1_; clear hb ho6))
  go_loopg [15] k (fun kq v15 w' => ∃ (x4_1 : List Int) (x15_1 : Int), v15 = .int .i64 x15_1 ∧ Aside0 (skew_Bytes.l0 kq x4_1 l0 (l0.length : Int) x15_1 = some (r1, r2)) ∧ Aside0 (kq ≤ k) ∧ Aside0 (Kd.R (Kd.int .i64) 3 w' w.heap.size (fun _ => True) v443 x4_1) ∧ Aside0 (Below w.heap.size w w'))
  case atStart => exact ⟨(y442), (0), sD, H', ⟨Nat.le_refl _⟩, ⟨uR HO444.out⟩, ⟨uB⟩⟩
  case round =>
   clear H'
   try clear c2
   try clear c2b0
   try clear c2b1
   try clear p2
   try clear c3
   try clear c3b0
   try clear c3b1
   try clear c4
   try clear c4b0
   try clear c4b1
   obtain ⟨x4_1, x15_1, rfl, HA, HK1, HO_4, HB⟩ := hrel
   cases gk with
   | zero => exact absurd HA.out (by simp [skew_Bytes.l0])
   | succ k1 =>
    have H := HA.out
    clear HA
    simp only [skew_Bytes.l0] at H
    rcases ifC H with ⟨c7b0, H⟩ | ⟨c7b0, H⟩
    ·obtain ⟨c8b0, H⟩ := ifD H
     obtain ⟨c9b0, c10b0, H⟩ := ifD2 H
     generalize hy446 : (x4_1.set (x15_1 : Int).toNat (wrap64 (rd l0 x15_1)) : List Int) = y446 at H
     try simp only [Option.bind_some] at H
     have Ny446 := Aside0.mk hy446.symm
     clear hy446
     have H' := Aside0.mk H
     clear H
     obtain ⟨ad445, e445, hx445_0, p445, q445⟩ := rIO HB.out HR0.out x15_1
     cases e445
     have p11 : 0 ≤ (x15_1 : Int) := dT
     have q11 : (x15_1 : Int) < ((x4_1.length : Int) : Int) := dT
     obtain ⟨go11, co11, eo11, gb11, gl11, cl11, HG11⟩ := Kd.R_form HO_4.out (by omega)
     (first | cases eo11 | (injection eo11 with ea_ en_ ec_; (first | subst ea_ | (injection ea_ with ea_; subst ea_)); subst ec_; clear en_))
     have GB11 := Aside0.mk gb11
     have GG11 := Aside0.mk HG11
     clear gb11 gl11 HG11
     obtain ⟨hx11_0, hf11_0⟩ := Kd.R_celln 0 HO_4.out (x15_1 : Int) p11 q11
     replace p11 := eq_true p11
     replace q11 := eq_true q11
     have HP12 := Kd.R_putg HO_4.out (x15_1 : Int) (wrap64 (rd l0 x15_1))
     go_wp2_with (first | ((with_reducible refine gate_store (t := 3) (p := 24) rfl ?_); refine store_event (t := 3) (p := 24) (v := ?vo_w13) (w1 := (wr.setCell ⟨go11, (x15_1 : Int).toNat, none⟩ (.int .i64 (wrap64 (rd l0 x15_1))))) ?hg ?ho ?hn ?hr ?_; (case ho => rfl); (case hg => rfl); (case hn => rfl); (case hr => first | (go_simp; done) | (go_simp; rfl)); intro w13 hw; have hg : wr.grownBy w13 (some go11) := (by rw [hw]; exact HP12.2); have hp_ : Kd.R (Kd.int .i64) 3 w13 w.heap.size (fun _ => True) (.slice (some ⟨go11, 0, none⟩) x4_1.length co11) y446 := (by rw [hw, Ny446.out]; exact HP12.1); clear HP12; have n0_ := Aside0.mk (hp_); have n1_ := Aside0.mk ((by rw [hw]; exact below_set (HB.out) GB11.out : Below w.heap.size w w13)); clear HO_4; clear HB; have HO_4 := n0_; have HB := n1_; clear n0_ n1_; clear hg hw hp_))
     go_roundg k1
     case measure => have := HK1.out; omega
     case rel => exact ⟨(y446), (wrap64 (x15_1 + 1)), sD, H', ⟨by have := HK1.out; omega⟩, ⟨uR HO_4.out⟩, ⟨uB⟩⟩
    ·obtain ⟨⟨t447, t448⟩, A14, H⟩ := bdS H
     try dsimp only at H
     simp only [Option.some.injEq, Prod.mk.injEq] at H
     obtain ⟨rfl, rfl⟩ := H
     obtain ⟨Ao15, co15, eo15⟩ := Kd.R_slice HO_4.out
     subst eo15
     go_wp2_with (first | ((with_reducible refine gate_callee (f := 94) rfl ?_); refine goesL_ (some 27) rfl rfl Tryz.func94 (by kernel_rfl) rfl #[.slice Ao15 x4_1.length co15, .int .i64 256] rfl aE ?_; (with_reducible refine (skew_Ints.calls k1 _ _ x4_1 256 t447 t448 _ ?side1 ?side2 A14.out).mono ?_); (case side1 => exact uC (Kd.R_reads' HO_4.out).2.2); (case side2 => exact (Kd.R_reads' HO_4.out).2.1); rintro e w16 ⟨v449, rfl, ho0, hb⟩; refine ⟨_, rfl, ?_⟩; have n0_ := Aside0.mk (Kd.R_elder' (uR HO_4.out) (Kd.R_base ho0) hb); have n1_ := Aside0.mk (Kd.R_lower (Kd.R_new' ho0 (Kd.R_lt (uR HO_4.out))) (below_size uB)); have n2_ := Aside0.mk (below_step uB hb); clear HO_4; clear HB; have HO_4 := n0_; have HO450 := n1_; have HB := n2_; clear n0_ n1_ n2_; (try clear hb); (try clear hb2); (try clear hk); (try clear hi); (try clear ho0)))
     go_ret2
     exact ⟨_, eR, by (with_reducible repeat (first | apply Kd.R_alloc | apply Kd.R_drewN | apply Kd.R_drew)); exact Kd.R_mono HO450.out (fun _ hk => trivial), uB⟩
def slices_isNaN_int.f (a0 : Int) : Option (Bool) := some (a0 != a0)
set_option maxHeartbeats 8000000 in
set_option maxRecDepth 100000 in
theorem slices_isNaN_int.calls (a0 : Int) (r : Bool) (w : World) (h : slices_isNaN_int.f a0 = some r) :
    Calls Tryz.prog 156 #[.int .i64 a0] w fun e w' => e = .returned (.bool r) ∧ Drawn0 w w' := by
 have H := h
 clear h
 unfold slices_isNaN_int.f at H
 obtain rfl := Option.some.inj H
 go_enter Tryz.func156, Tryz.ntmps156
 go_wp2
 go_ret
 exact ⟨sD, dD⟩
end Go.Proofs.YtbbpplnnegdenaaGreat.PTopPipe
end
