/- Words, functions, walks and plain mathematics for TopThree, part 3: laid together by a program of this session (pack.py). -/
import Derived.Test.YtbbpplnnegdenaaKTopThreeb
import Derived.Lib.SlBytesConst
import Derived.Shelf.SlIterI.Nil
import Derived.Shelf.SortM.Plain
import Derived.Shelf.SortM.SortNone
import Derived.Shelf.Bits.Mul64
import Derived.Ground.GgzProg
import Derived.Ground.SlgmProg
import Derived.RangeFuncBox
import Derived.RangeFuncLeaves
import Derived.RangeFuncBound
import Derived.RangeFuncCalls
import Derived.Shelf.Abstract
import Derived.OwnWalkIn
import Derived.TacticsInMore
import Derived.LoopNIn
import Derived.LoopIn
import Derived.Laws.CopyOwn
import Derived.Deep.RegionLaw
import Derived.Laws.Externs
import Derived.Lib.BytesEntry
import Derived.Laws.StructEq
set_option linter.unusedVariables false
set_option linter.unusedSimpArgs false
section
namespace Go.Proofs
open Go.Shelf
def Try.sort66_ren : Go.Shelf.Ren := ⟨fun | 5 => 66 | 8 => 76 | 7 => 75 | 19 => 88 | 20 => 89 | 10 => 80 | 11 => 81 | 12 => 82 | 13 => 83 | 14 => 84 | 15 => 85 | 16 => 71 | 17 => 86 | 18 => 87 | 30 => 90 | 31 => 91 | 32 => 92 | 33 => 93 | 34 => 94 | 35 => 79 | 40 => 95 | n => n, fun | 23 => 23 | 25 => 3 | 3 => 3 | 32 => 96 | 22 => 23 | 0 => 0 | 44 => 103 | 46 => 106 | 4 => 4 | 36 => 111 | 35 => 110 | 41 => 87 | 5 => 5 | 9 => 9 | 53 => 117 | 57 => 121 | 63 => 123 | 64 => 124 | n => n, fun | n => n⟩
theorem Try.sort66 : Go.Proofs.SlLaysM.n5 Try.prog Try.sort66_ren := {
  mixed := by kernel_rfl
  f5 := ⟨Try.f66.name, by decide, Try.func66.trans (congrArg some (by kernel_rfl))⟩
  f7 := ⟨Try.f75.name, by decide, Try.func75.trans (congrArg some (by kernel_rfl))⟩
  f8 := Try.func76.trans (congrArg some (by kernel_rfl))
  f10 := ⟨Try.f80.name, by decide, Try.func80.trans (congrArg some (by kernel_rfl))⟩
  f11 := ⟨Try.f81.name, by decide, Try.func81.trans (congrArg some (by kernel_rfl))⟩
  f12 := ⟨Try.f82.name, by decide, Try.func82.trans (congrArg some (by kernel_rfl))⟩
  f13 := ⟨Try.f83.name, by decide, Try.func83.trans (congrArg some (by kernel_rfl))⟩
  f14 := ⟨Try.f84.name, by decide, Try.func84.trans (congrArg some (by kernel_rfl))⟩
  f15 := ⟨Try.f85.name, by decide, Try.func85.trans (congrArg some (by kernel_rfl))⟩
  f16 := ⟨Try.f71.name, by decide, Try.func71.trans (congrArg some (by kernel_rfl))⟩
  f17 := ⟨Try.f86.name, by decide, Try.func86.trans (congrArg some (by kernel_rfl))⟩
  f18 := ⟨Try.f87.name, by decide, Try.func87.trans (congrArg some (by kernel_rfl))⟩
  f19 := Try.func88.trans (congrArg some (by kernel_rfl))
  f20 := Try.func89.trans (congrArg some (by kernel_rfl))
  f30 := ⟨Try.f90.name, by decide, Try.func90.trans (congrArg some (by kernel_rfl))⟩
  f31 := Try.func91.trans (congrArg some (by kernel_rfl))
  f32 := Try.func92.trans (congrArg some (by kernel_rfl))
  f33 := ⟨Try.f93.name, by decide, Try.func93.trans (congrArg some (by kernel_rfl))⟩
  f34 := ⟨Try.f94.name, by decide, Try.func94.trans (congrArg some (by kernel_rfl))⟩
  f35 := ⟨Try.f79.name, by decide, Try.func79.trans (congrArg some (by kernel_rfl))⟩
  f40 := ⟨Try.f95.name, by decide, Try.func95.trans (congrArg some (by kernel_rfl))⟩
  t0 := Try.underlying0
  a0 := Try.isAgg0
  z0 := Try.sizeOf0
  v0 := Try.zeroValue0
  t3 := Try.underlying3
  a3 := Try.isAgg3
  z3 := Try.sizeOf3
  v3 := Try.zeroValue3
  t4 := Try.underlying4
  a4 := Try.isAgg4
  z4 := Try.sizeOf4
  v4 := Try.zeroValue4
  t5 := Try.underlying5
  a5 := Try.isAgg5
  z5 := Try.sizeOf5
  v5 := Try.zeroValue5
  t9 := Try.underlying9
  a9 := Try.isAgg9
  z9 := Try.sizeOf9
  v9 := Try.zeroValue9
  t22 := Try.underlying23
  a22 := Try.isAgg23
  z22 := Try.sizeOf23
  v22 := Try.zeroValue23
  t23 := Try.underlying23
  a23 := Try.isAgg23
  z23 := Try.sizeOf23
  v23 := Try.zeroValue23
  t25 := Try.underlying3
  a25 := Try.isAgg3
  z25 := Try.sizeOf3
  v25 := Try.zeroValue3
  t32 := Try.underlying96
  a32 := Try.isAgg96
  z32 := Try.sizeOf96
  v32 := Try.zeroValue96
  t35 := Try.underlying110
  a35 := Try.isAgg110
  z35 := Try.sizeOf110
  v35 := Try.zeroValue110
  t36 := Try.underlying111
  a36 := Try.isAgg111
  z36 := Try.sizeOf111
  v36 := Try.zeroValue111
  t41 := Try.underlying87
  a41 := Try.isAgg87
  z41 := Try.sizeOf87
  v41 := Try.zeroValue87
  t44 := Try.underlying103
  a44 := Try.isAgg103
  z44 := Try.sizeOf103
  v44 := Try.zeroValue103
  t46 := Try.underlying106
  a46 := Try.isAgg106
  z46 := Try.sizeOf106
  v46 := Try.zeroValue106
  t53 := Try.underlying117
  a53 := Try.isAgg117
  z53 := Try.sizeOf117
  v53 := Try.zeroValue117
  t57 := Try.underlying121
  a57 := Try.isAgg121
  z57 := Try.sizeOf121
  v57 := Try.zeroValue121
  t63 := Try.underlying123
  a63 := Try.isAgg123
  z63 := Try.sizeOf123
  v63 := Try.zeroValue123
  t64 := Try.underlying124
  a64 := Try.isAgg124
  z64 := Try.sizeOf124
  v64 := Try.zeroValue124 }
def Try.lays212_ren : Go.Shelf.Ren := ⟨fun | 212 => 68 | 263 => 77 | 264 => 78 | n => n, fun | 46 => 96 | 51 => 103 | 146 => 104 | 53 => 106 | 148 => 107 | n => n, fun | n => n⟩
theorem Try.lays212 : Go.Proofs.Lays.n212 Try.prog Try.lays212_ren := {
  mixed := by kernel_rfl
  f212 := Try.func68.trans (congrArg some (by kernel_rfl))
  f263 := Try.func77.trans (congrArg some (by kernel_rfl))
  f264 := Try.func78.trans (congrArg some (by kernel_rfl))
  t46 := Try.underlying96
  a46 := Try.isAgg96
  z46 := Try.sizeOf96
  v46 := Try.zeroValue96
  t51 := Try.underlying103
  a51 := Try.isAgg103
  z51 := Try.sizeOf103
  v51 := Try.zeroValue103
  t53 := Try.underlying106
  a53 := Try.isAgg106
  z53 := Try.sizeOf106
  v53 := Try.zeroValue106
  t146 := Try.underlying104
  a146 := Try.isAgg104
  z146 := Try.sizeOf104
  v146 := Try.zeroValue104
  t148 := Try.underlying107
  a148 := Try.isAgg107
  z148 := Try.sizeOf107
  v148 := Try.zeroValue107 }
open Go.RowKit Go.Lib in
theorem Try.bits_Mul (x y : Nat) (hx : x < 18446744073709551616) (hy : y < 18446744073709551616) (w : World) :
    Calls Try.prog 68 #[.int .u64 x, .int .u64 y] w fun e w' => e = .returned (.tuple #[.int .u64 ((x * y / 18446744073709551616 : Nat) : Int), .int .u64 ((x * y % 18446744073709551616 : Nat) : Int)]) ∧ w' = w := Any.bits_Mul Try.lays212 x y hx hy w
end Go.Proofs
end
section
namespace Go.Proofs.Ytbbpplnnegdenaa.It
open Go Go.RowKit Go.Shelf Go.Proofs Go.Sort Go.Maps
attribute [local go_sem] Oper.semAt_some
theorem add_block (a : Addr) (i : Nat) : (a.add i).block = a.block := by unfold Addr.add; split <;> rfl
def upto {α : Type} (f : Nat → α) (k : Nat) : List α := (List.range k).map f
theorem upto_succ {α : Type} (f : Nat → α) (k : Nat) : upto f (k + 1) = upto f k ++ [f k] := by simp [upto, List.range_succ]
theorem upto_length {α : Type} (f : Nat → α) (k : Nat) : (upto f k).length = k := by simp [upto]
theorem upto_all (zs : List Int) : upto (fun j => zs[j]?.getD 0) zs.length = zs := by
  apply List.ext_getElem
  · simp [upto]
  · intro i h1 h2
    simp [upto, h2]
theorem upto_take (zs : List Int) {k : Nat} (hk : k ≤ zs.length) : upto (fun j => zs[j]?.getD 0) k = zs.take k := by
  apply List.ext_getElem
  · simp [upto, hk]
  · intro i h1 h2
    have : i < zs.length := by simp [upto] at h1; omega
    simp [upto, this]
set_option maxRecDepth 100000 in
set_option maxHeartbeats 2000000 in
theorem values1_in (F : Fence) (n : Nat) (h7 : F.fn 67) (hro : F.round = none) (hn : 1 ≤ n) (l Bs n₀ len cap : Nat) (ad : Addr) (zs : List Int) (hreach : len * 8 ≤ 140737488355328) (hb : ad.block < n₀) (J Jx : List Int → World → Prop)
    (hY : ∀ pre x W, J pre W → pre.length < len → YieldAt F (n - 1) Try.prog l #[.int .i64 x] W fun e W' =>
      (e = .returned (.bool true) ∧ J (pre ++ [x]) W' ∧ Below n₀ W W') ∨ (e = .returned (.bool false) ∧ Jx (pre ++ [x]) W'))
    (W : World) (hBs : W.cell? ⟨Bs, 0, none⟩ = some (.slice (some ad) len cap)) (hc : ∀ j, j < len → W.cell? (ad.add j) = some (.int .i64 (zs[j]?.getD 0))) (h0 : J [] W) :
    CallsIn F n Try.prog 67 #[.func (.yield l) #[] #[], .pointer (some ⟨Bs, 0, none⟩)] W fun e W' => (∃ v, e = .returned v) ∧
      ((∃ ys, ys = upto (fun j => zs[j]?.getD 0) len ∧ J ys W') ∨ (∃ pre, (∃ k, k ≤ len ∧ pre = upto (fun j => zs[j]?.getD 0) k) ∧ Jx pre W')) := by
  refine callsIn_of_wp Try.func67 rfl h7 ?_ hro
  simp only [Try.ntmps67, List.size_toArray, List.length_cons, List.length_nil, Nat.reduceAdd, Nat.reduceSub, Array.replicate_succ, Array.replicate_zero, List.push_toArray, List.append_toArray, List.nil_append, List.cons_append]
  gi_wp2
  gi_loopw [7] (fun i wr => ∃ k : Nat, k ≤ len ∧ i = .int .i64 k ∧ J (upto (fun j => zs[j]?.getD 0) k) wr ∧ Below n₀ W wr)
    (fun i _ => len - (intOf i).toNat)
  case atStart => exact ⟨0, Nat.zero_le _, rfl, h0, Below.refl _ _⟩
  case round =>
    obtain ⟨k, hk, rfl, hJs, hnx⟩ := hrel
    have hcx : k < len → wr.cell? (ad.add k) = some (.int .i64 (zs[k]?.getD 0)) := fun h => (hnx.cell (p := ad.add k) (by rw [add_block]; exact hb)).trans (hc k h)
    by_cases hlt : k < len
    · obtain ⟨fn, tmps, assign, body, hy, hR⟩ := hY _ (zs[k]?.getD 0) wr hJs (by rw [upto_length]; exact hlt)
      have hcx' := hcx hlt
      gi_wp2
      refine hR.mono ?_
      rintro e W3 (⟨rfl, hJ3, hk3⟩ | ⟨rfl, hJx3⟩)
      · gi_wp2
        go_roundw
        case rel => exact ⟨k + 1, by omega, by simp, by rw [upto_succ]; exact hJ3, hnx.trans hk3⟩
        case measure => simp [intOf]; omega
      · gi_wp2
        refine bodyPost_ret (results_none rfl _ _ _) rfl ?_
        exact ⟨⟨_, rfl⟩, .inr ⟨_, ⟨k + 1, by omega, (upto_succ _ _).symm⟩, hJx3⟩⟩
    · obtain rfl : k = len := by omega
      gi_wp2
      go_end0
      exact ⟨⟨_, rfl⟩, .inl ⟨_, rfl, hJs⟩⟩
def Ints (n₀ : Nat) (W : World) (sv : Value) (zs : List Int) : Prop :=
  (∃ cap A, sv = .slice A 0 cap ∧ zs = []) ∨ ∃ ad cap, sv = .slice (some ad) zs.length cap ∧ ad.block < n₀ ∧ ∀ j, j < zs.length → W.cell? (ad.add j) = some (.int .i64 (zs[j]?.getD 0))
theorem Ints.below {n₀ : Nat} {A B : World} (h : Below n₀ A B) {sv : Value} {zs : List Int} : Ints n₀ A sv zs → Ints n₀ B sv zs
  | .inl e => .inl e
  | .inr ⟨ad, cap, e, hb, hc⟩ => .inr ⟨ad, cap, e, hb, fun j hj => (h.cell (p := ad.add j) (by rw [add_block]; exact hb)).trans (hc j hj)⟩
set_option maxRecDepth 100000 in
set_option maxHeartbeats 1000000 in
theorem values1_nil_in (F : Fence) (n : Nat) (h7 : F.fn 67) (hro : F.round = none) (l Bs cap : Nat) (A : Option Addr) (J : List Int → World → Prop) (W : World) (hBs : W.cell? ⟨Bs, 0, none⟩ = some (.slice A 0 cap)) (h0 : J [] W) :
    CallsIn F n Try.prog 67 #[.func (.yield l) #[] #[], .pointer (some ⟨Bs, 0, none⟩)] W fun e W' => (∃ v, e = .returned v) ∧ J [] W' := by
  refine callsIn_of_wp Try.func67 rfl h7 ?_ hro
  simp only [Try.ntmps67, List.size_toArray, List.length_cons, List.length_nil, Nat.reduceAdd, Nat.reduceSub, Array.replicate_succ, Array.replicate_zero, List.push_toArray, List.append_toArray, List.nil_append, List.cons_append]
  gi_wp2
  gi_loopw [7] (fun i wr => i = .int .i64 0 ∧ J [] wr) (fun _ _ => 0)
  case atStart => exact ⟨rfl, h0⟩
  case round =>
    obtain ⟨rfl, hJs⟩ := hrel
    gi_wp2
    go_end0
    exact ⟨⟨_, rfl⟩, hJs⟩
set_option maxHeartbeats 1000000 in
theorem values_in (F : Fence) (n : Nat) (h5 : F.fn 47) (hro : F.round = none) (a : Option Addr) (len cap : Nat) (w : World) :
    CallsIn F n Try.prog 47 #[.slice a len cap] w fun e w' => e = .returned (.func (.func 67) #[] #[.pointer (some ⟨w.heap.size, 0, none⟩)]) ∧ w' = w.alloc (.cells #[.slice a len cap] 23) := by
  refine callsIn_of_wp Try.func47 rfl h5 ?_ hro
  simp only [Try.ntmps47, List.size_toArray, List.length_cons, List.length_nil, Nat.reduceAdd, Nat.reduceSub, Array.replicate_succ, Array.replicate_zero, List.push_toArray, List.append_toArray, List.nil_append, List.cons_append]
  gi_wp2
  go_ret
  exact ⟨rfl, rfl⟩
theorem values_stops (F : Fence) (n : Nat) (h7 : F.fn 67) (hro : F.round = none) (hn : 1 ≤ n) (Bs n₀ : Nat) (sv : Value) (zs : List Int) (hreach : zs.length * 8 ≤ 140737488355328) (w : World) (hBs : Bs < w.heap.size) (hn₀ : n₀ ≤ w.heap.size)
    (hc : w.cell? ⟨Bs, 0, none⟩ = some sv) (hI : Ints n₀ w sv zs) :
    SeqStopsK F n Try.prog 67 #[.pointer (some ⟨Bs, 0, none⟩)] (fun x : Int => #[Value.int .i64 x]) (Below n₀) (fun ys => ys = zs) (fun pre => pre <+: zs) zs.length w := fun l J Jx W hW _ _ hY h0 => by
  have hc' := (hW.cell (p := ⟨Bs, 0, none⟩) hBs).trans hc
  rcases hI.below (hW.mono hn₀) with ⟨cap, A0, rfl, rfl⟩ | ⟨ad, cap, rfl, hb, hcs⟩
  · exact (values1_nil_in F n h7 hro l Bs cap A0 J W hc' h0).mono fun e W' ⟨he, hj⟩ => ⟨he, .inl ⟨_, rfl, hj⟩⟩
  · refine (values1_in F n h7 hro hn l Bs n₀ zs.length cap ad zs hreach hb J Jx hY W hc' hcs h0).mono ?_
    rintro e W' ⟨he, ⟨ys, rfl, hj⟩ | ⟨pre, ⟨k, hk, rfl⟩, hj⟩⟩
    · exact ⟨he, .inl ⟨_, upto_all zs, hj⟩⟩
    · exact ⟨he, .inr ⟨_, by rw [upto_take zs hk]; exact List.take_prefix _ _, hj⟩⟩
theorem info3 : (Try.prog.info? 3).map (fun i => (i.zero, i.size, i.bytes)) = some (some (.int .i64 0), 1, 8) := by kernel_rfl
set_option maxRecDepth 100000 in
set_option maxHeartbeats 2000000 in
theorem appendSeq_in (F : Fence) (n : Nat) (h3 : F.fn 74) (h5 : F.fn 67) (hro : F.round = none) (hn : 3 ≤ n) (Bs : Nat) (sv : Value) (zs : List Int) (hlen : zs.length ≤ maxLen) (hbytes : zs.length * 8 ≤ 140737488355328) (w : World)
    (hBs : Bs < w.heap.size) (hcs : w.cell? ⟨Bs, 0, none⟩ = some sv) (hI : Ints w.heap.size w sv zs) :
    CallsIn F n Try.prog 74 #[.slice none 0 0, .func (.func 67) #[] #[.pointer (some ⟨Bs, 0, none⟩)]] w fun e W' => ∃ v, e = .returned v ∧ W'.ownsRow w.heap.size 3 1 v zs.length (zs.map (Value.int .i64)) ∧ (v = .slice none 0 0 ↔ zs = []) ∧ Below w.heap.size w W' := by
  have h1 : 1 ≤ n := by omega
  obtain ⟨i0, hi, hz0, hz1, hz2⟩ := info_parts info3
  refine callsIn_of_wp_marks Try.func74 rfl h3 ?_ hro
  simp only [Try.ntmps74, List.size_toArray, List.length_cons, List.length_nil, Nat.reduceAdd, Nat.reduceSub, Array.replicate_succ, Array.replicate_zero, List.push_toArray, List.append_toArray, List.nil_append, List.cons_append]
  gi_wp2
  have bO := Boxed.new w 23 (.slice none 0 0)
  have hB0 : Below w.heap.size w (w.alloc (.cells #[.slice none 0 0] 23)) := (Below.refl _ w).alloc (Nat.le_refl _) _
  refine wpIn_rangeFunc_ownG hro h1 (gf := 67) (lb := #[.pointer (some ⟨Bs, 0, none⟩)]) rfl h5 (enters_of Try.func67 (by kernel_rfl) rfl)
    (values_stops F (n - 1) h5 hro (by omega) Bs w.heap.size sv zs hbytes _ (by simp; omega) (by simp) ((hB0.cell (p := ⟨Bs, 0, none⟩) hBs).trans hcs) (hI.below hB0)) belowK_t (belowK_b (by simp)) (Below.refl _ _) (fun _ => rfl)
    (fun pre W => (∃ v, Boxed W w.heap.size 23 v ∧ W.ownsRow w.heap.size 3 1 v pre.length (pre.map (Value.int .i64)) ∧ (v = .slice none 0 0 ↔ pre = [])) ∧ Below w.heap.size w W)
    (fun _ _ _ => False)
    (OwnFrom.and (Own.from (holdsRow_own w.heap.size w.heap.size 23 3 1 (fun pre => pre.length) (fun pre => pre.map (Value.int .i64)) (fun pre v => v = .slice none 0 0 ↔ pre = [])) _) (ownFrom_below (Nat.le_refl _) (by simp)))
    (fun _ _ _ _ _ hs _ _ => hs)
    ⟨⟨_, bO, World.ownsRow_nil _ _ _ _, by simp⟩, hB0⟩
    (fun x => { tmps := #[.slice none 0 0, .func (.func 67) #[] #[.pointer (some ⟨Bs, 0, none⟩)], .pointer (some ⟨w.heap.size, 0, none⟩), undef, .slice none 0 0, .int .i64 x, .func (.func 67) #[] #[.pointer (some ⟨Bs, 0, none⟩)], .int .i64 x, undef, undef, undef, undef, undef], defers := [] }) ?assign ?body ?done ?stop
  case assign =>
    intro l x W K hK
    gi_wp2
    exact hK
  case body =>
    rintro l pre x W ⟨⟨v, hv, hrow, hnil⟩, hB⟩ hlt
    have hc := hv.cell
    gi_wp2_with (gi_at_builtin; refine wpListIn_append_own _ rfl _ _ 23 rfl w.heap.size 3 i0 (.int .i64 0) 1 8 Try.underlying23 hi hz0 hz1 hz2 rfl (by decide) _ _ _ rfl (hrow.alloc _) ⟨W.heap.size, 0, none⟩ 1 1 [.int .i64 x] rfl rfl (cell_one_new _ _ _) (by simp [Value.oneCell']) (by omega) (by omega) (by have := hB.size; simp; omega) ?_; intro v' w1 hown' hgrow _; obtain ⟨g', cap', rfl⟩ := ownsRow_succ hown'; obtain ⟨hv1, hv2, hr2, hk2, hb2⟩ := hv.appended (by decide) hrow hB.size (Nat.le_refl _) hown' hgrow; have hc1 := hv1.cell; have hf1 := hv1.frozen)
    exact ⟨hk2.from _, hb2, ⟨_, hv2, by simpa using hr2, by simp⟩, hB.trans hb2⟩
  case done =>
    rintro D ys W hD rfl ⟨⟨v, hv, hrow, hnil⟩, hB⟩ hK
    have hc := hv.cell
    gi_wp2
    refine ⟨by simp, .inl ⟨_, _, rfl, run_takeDeferred hK, ?_⟩⟩
    exact ⟨_, results_tmp rfl _ _ _, v, rfl, ownsRow_putObj hrow _ hK rfl, hnil, hB.trans (belowK_b (w := w) (Nat.le_refl _) W D _ _ (by simp at hD; omega) hK rfl rfl)⟩
  case stop =>
    rintro D c pre W _ _ h _
    exact h.elim
set_option maxHeartbeats 1000000 in
theorem collect_in (F : Fence) (n : Nat) (h65 : F.fn 65) (h74 : F.fn 74) (h67 : F.fn 67) (hro : F.round = none) (hn : 4 ≤ n) (Bs : Nat) (sv : Value) (zs : List Int) (hlen : zs.length ≤ maxLen) (hbytes : zs.length * 8 ≤ 140737488355328) (w : World)
    (hBs : Bs < w.heap.size) (hcs : w.cell? ⟨Bs, 0, none⟩ = some sv) (hI : Ints w.heap.size w sv zs) :
    CallsIn F n Try.prog 65 #[.func (.func 67) #[] #[.pointer (some ⟨Bs, 0, none⟩)]] w fun e W' => ∃ v, e = .returned v ∧ W'.ownsRow w.heap.size 3 1 v zs.length (zs.map (Value.int .i64)) ∧ (v = .slice none 0 0 ↔ zs = []) ∧ Below w.heap.size w W' := by
  have h1 : 1 ≤ n := by omega
  refine callsIn_of_wp Try.func65 rfl h65 ?_ hro
  simp only [Try.ntmps65, List.size_toArray, List.length_cons, List.length_nil, Nat.reduceAdd, Nat.reduceSub, Array.replicate_succ, Array.replicate_zero, List.push_toArray, List.append_toArray, List.nil_append, List.cons_append]
  gi_wp2_with (gi_at_call 74; refine (appendSeq_in F (n - 1) h74 h67 hro (by omega) Bs sv zs hlen hbytes w hBs hcs hI).mono ?_; rintro e W' ⟨v, rfl, hrow, hnil, hb⟩)
  go_ret
  exact ⟨v, rfl, hrow, hnil, hb⟩
set_option maxHeartbeats 1000000 in
theorem sorted_in (F : Fence) (n : Nat) (h46 : F.fn 46) (h66 : F.fn 66) (h65 : F.fn 65) (h74 : F.fn 74) (h67 : F.fn 67) (hro : F.round = none) (hn : 5 ≤ n) (hw : F = Fence.wide) (Bs : Nat) (sv : Value) (zs : List Int) (hlen : zs.length ≤ maxLen) (hbytes : zs.length * 8 ≤ 140737488355328) (w : World)
    (hBs : Bs < w.heap.size) (hcs : w.cell? ⟨Bs, 0, none⟩ = some sv) (hI : Ints w.heap.size w sv zs) :
    CallsIn F n Try.prog 46 #[.func (.func 67) #[] #[.pointer (some ⟨Bs, 0, none⟩)]] w fun e W' => ∃ v, e = .returned v ∧ W'.ownsRow w.heap.size 3 1 v zs.length ((zs.mergeSort (fun x y => decide (x ≤ y))).map (Value.int .i64)) ∧ (v = .slice none 0 0 ↔ zs = []) ∧ Below w.heap.size w W' := by
  subst hw
  have h1 : 1 ≤ n := by omega
  refine callsIn_of_wp Try.func46 rfl h46 ?_ hro
  simp only [Try.ntmps46, List.size_toArray, List.length_cons, List.length_nil, Nat.reduceAdd, Nat.reduceSub, Array.replicate_succ, Array.replicate_zero, List.push_toArray, List.append_toArray, List.nil_append, List.cons_append]
  gi_wp2_with (gi_at_call 65; refine (collect_in Fence.wide (n - 1) h65 h74 h67 hro (by omega) Bs sv zs hlen hbytes w hBs hcs hI).mono ?_; rintro e W ⟨v, rfl, hrow, hnil, hb⟩)
  rcases hrow.2 with ⟨rfl, hz⟩ | ⟨gb, cap, cur, rfl, hbase, hgb, r1, r2, r3, r4⟩
  · have hss : zs = [] := List.eq_nil_of_length_eq_zero hz
    subst hss
    gi_wp2_with (gi_at_call 66; refine (callsIn_wide.2 (AnyM.slices_Sort_int_none Try.sort66 none 0 W)).mono ?_; rintro e w' ⟨rfl, rfl⟩)
    go_ret
    exact ⟨.slice none 0 0, rfl, by simpa using hrow, by simp, hb⟩
  · have hH : Holds encZ W gb 0 zs.toArray := holds_of_block_i hgb (by simpa using r4)
    have hgl : gb < W.heap.size := (Array.getElem?_eq_some_iff.1 hgb).1
    have hsz : zs.length < 4611686018427387904 := by unfold maxLen at hlen; omega
    have cS : CallsIn Fence.wide (n - 1) Try.prog 66 #[.slice (some ⟨gb, 0, none⟩) zs.length cap] W _ := callsIn_wide.2 (AnyM.slices_Sort_int Try.sort66 gb 0 cap zs W hH hgl hsz)
    gi_wp2_with (gi_at_call 66; refine cS.mono ?_; rintro e w' ⟨rfl, nn, os, rfl⟩)
    go_ret
    exact ⟨_, rfl, ownsRow_sorted_i (by simp) hbase hgb r1 r2 r3, hnil, hb.grown (grownBy_sorted_i _) hb.size (fun j hj => by cases hj; exact hbase)⟩
theorem values_calls (a : Option Addr) (len cap : Nat) (w : World) :
    Calls Try.prog 47 #[.slice a len cap] w fun e w' => e = .returned (.func (.func 67) #[] #[.pointer (some ⟨w.heap.size, 0, none⟩)]) ∧ w' = w.alloc (.cells #[.slice a len cap] 23) :=
  (callsIn_wide (n := 6)).1 (values_in Fence.wide 6 trivial rfl a len cap w)
theorem sorted_calls (Bs : Nat) (sv : Value) (zs : List Int) (hlen : zs.length ≤ maxLen) (hbytes : zs.length * 8 ≤ 140737488355328) (w : World) (hBs : Bs < w.heap.size) (hcs : w.cell? ⟨Bs, 0, none⟩ = some sv) (hI : Ints w.heap.size w sv zs) :
    Calls Try.prog 46 #[.func (.func 67) #[] #[.pointer (some ⟨Bs, 0, none⟩)]] w fun e W' => ∃ v, e = .returned v ∧ W'.ownsRow w.heap.size 3 1 v zs.length ((zs.mergeSort (fun x y => decide (x ≤ y))).map (Value.int .i64)) ∧ (v = .slice none 0 0 ↔ zs = []) ∧ Below w.heap.size w W' :=
  (callsIn_wide (n := 6)).1 (sorted_in Fence.wide 6 trivial trivial trivial trivial trivial rfl (by omega) rfl Bs sv zs hlen hbytes w hBs hcs hI)
end Go.Proofs.Ytbbpplnnegdenaa.It
end
section
namespace Go.Proofs.Ytbbpplnnegdenaa.It
open Go Go.RowKit Go.Shelf Go.Proofs Go.Sort Go.Maps
attribute [local go_sem] Oper.semAt_some
def bk (zs : List Int) (k : Nat) : Array Value := #[Value.int .i64 ((zs.length - 1 - k : Nat) : Int), Value.int .i64 (zs[zs.length - 1 - k]?.getD 0)]
def Keep2 (b c : Nat) (W W' : World) : Prop := W'.heap[b]? = W.heap[b]? ∧ W'.heap[c]? = W.heap[c]?
theorem Keep2.refl (b c : Nat) (W : World) : Keep2 b c W W := ⟨rfl, rfl⟩
theorem Keep2.trans {b c : Nat} {A B C : World} (h : Keep2 b c A B) (k : Keep2 b c B C) : Keep2 b c A C := ⟨k.1.trans h.1, k.2.trans h.2⟩
theorem cell_of_heap {W W' : World} {p : Addr} (h : W'.heap[p.block]? = W.heap[p.block]?) : W'.cell? p = W.cell? p := by
  unfold World.cell?; rw [h]
theorem keep2_b {b c : Nat} {w : World} (hb : b < w.heap.size) (hc : c < w.heap.size) (W : World) (l : Nat) (o o' : Obj) (hl : w.heap.size ≤ l) (_ : W.heap[l]? = some o) (_ : o.isCells = false) (_ : o.isWalk = false) : Keep2 b c W (W.putObj l o') :=
  ⟨World.putObj_heap_other (by omega), World.putObj_heap_other (by omega)⟩
set_option maxRecDepth 100000 in
set_option maxHeartbeats 2000000 in
theorem backward1_in (F : Fence) (n : Nat) (h7 : F.fn 69) (hro : F.round = none) (hn : 1 ≤ n) (l Bs cap : Nat) (ad : Addr) (zs : List Int) (hreach : zs.length * 8 ≤ 140737488355328) (J : Nat → World → Prop)
    (hY : ∀ k W, k < zs.length → J k W → YieldAt F (n - 1) Try.prog l (bk zs k) W fun e W' => e = .returned (.bool true) ∧ J (k + 1) W' ∧ Keep2 ad.block Bs W W')
    (W : World) (hBs0 : W.cell? ⟨Bs, 0, none⟩ = some (.slice (some ad) zs.length cap)) (hc : ∀ j, j < zs.length → W.cell? (ad.add j) = some (.int .i64 (zs[j]?.getD 0))) (h0 : J 0 W) :
    CallsIn F n Try.prog 69 #[.func (.yield l) #[] #[], .pointer (some ⟨Bs, 0, none⟩)] W fun e W' => (∃ v, e = .returned v) ∧ J zs.length W' := by
  have hBs : ∀ W', Keep2 ad.block Bs W W' → W'.cell? ⟨Bs, 0, none⟩ = some (.slice (some ad) zs.length cap) := fun W' h => (cell_of_heap (p := ⟨Bs, 0, none⟩) h.2).trans hBs0
  refine callsIn_of_wp Try.func69 rfl h7 ?_ hro
  simp only [Try.ntmps69, List.size_toArray, List.length_cons, List.length_nil, Nat.reduceAdd, Nat.reduceSub, Array.replicate_succ, Array.replicate_zero, List.push_toArray, List.append_toArray, List.nil_append, List.cons_append]
  gi_wp2
  gi_loopw [3] (fun i wr => ∃ k : Nat, k ≤ zs.length ∧ i = .int .i64 ((zs.length : Int) - 1 - (k : Int)) ∧ J k wr ∧ Keep2 ad.block Bs W wr)
    (fun i _ => (intOf i + 1).toNat)
  case atStart => exact ⟨0, Nat.zero_le _, by simp, h0, Keep2.refl _ _ _⟩
  case round =>
    obtain ⟨k, hk, rfl, hJs, hnx⟩ := hrel
    have hBx := hBs wr hnx
    by_cases hlt : k < zs.length
    · have hcx : wr.cell? (ad.add (zs.length - 1 - k)) = some (.int .i64 (zs[zs.length - 1 - k]?.getD 0)) := (cell_of_heap (p := ad.add (zs.length - 1 - k)) (by rw [add_block]; exact hnx.1)).trans (hc _ (by omega))
      obtain ⟨fn, tmps, assign, body, hy, hR⟩ := hY k wr hlt hJs
      dsimp only [bk] at hy
      obtain ⟨m, hm⟩ : ∃ m : Nat, zs.length - 1 - k = m := ⟨_, rfl⟩
      have hme : (zs.length : Int) - 1 - (k : Int) = (m : Int) := by omega
      have hml : m < zs.length := by omega
      rw [hm] at hcx hy
      obtain ⟨z, hz⟩ : ∃ z : Int, zs[m]?.getD 0 = z := ⟨_, rfl⟩
      rw [hz] at hcx hy
      have hK := Go.Lib.hid hm
      have hZ := Go.Lib.hid hz
      clear hm hz
      rw [hme]
      gi_wp2
      refine hR.mono ?_
      rintro e W3 ⟨rfl, hJ3, hk3⟩
      have hBx3 := hBs W3 (hnx.trans hk3)
      gi_wp2
      go_roundw
      case rel => exact ⟨k + 1, by omega, by simp; omega, hJ3, hnx.trans hk3⟩
      case measure => simp [intOf] <;> omega
    · obtain rfl : k = zs.length := by omega
      have hz : (zs.length : Int) - 1 - (zs.length : Int) = -1 := by omega
      rw [hz]
      gi_wp2
      go_end0
      exact ⟨⟨_, rfl⟩, hJs⟩
set_option maxRecDepth 100000 in
set_option maxHeartbeats 1000000 in
theorem backward1_nil_in (F : Fence) (n : Nat) (h7 : F.fn 69) (hro : F.round = none) (l Bs cap : Nat) (A : Option Addr) (J : Nat → World → Prop) (W : World) (hBs : W.cell? ⟨Bs, 0, none⟩ = some (.slice A 0 cap)) (h0 : J 0 W) :
    CallsIn F n Try.prog 69 #[.func (.yield l) #[] #[], .pointer (some ⟨Bs, 0, none⟩)] W fun e W' => (∃ v, e = .returned v) ∧ J 0 W' := by
  refine callsIn_of_wp Try.func69 rfl h7 ?_ hro
  simp only [Try.ntmps69, List.size_toArray, List.length_cons, List.length_nil, Nat.reduceAdd, Nat.reduceSub, Array.replicate_succ, Array.replicate_zero, List.push_toArray, List.append_toArray, List.nil_append, List.cons_append]
  gi_wp2
  gi_loopw [3] (fun i wr => i = .int .i64 (-1) ∧ J 0 wr) (fun _ _ => 0)
  case atStart => exact ⟨rfl, h0⟩
  case round =>
    obtain ⟨rfl, hJs⟩ := hrel
    gi_wp2
    go_end0
    exact ⟨⟨_, rfl⟩, hJs⟩
set_option maxHeartbeats 1000000 in
theorem backward_in (F : Fence) (n : Nat) (h5 : F.fn 50) (hro : F.round = none) (a : Option Addr) (len cap : Nat) (w : World) :
    CallsIn F n Try.prog 50 #[.slice a len cap] w fun e w' => e = .returned (.func (.func 69) #[] #[.pointer (some ⟨w.heap.size, 0, none⟩)]) ∧ w' = w.alloc (.cells #[.slice a len cap] 23) := by
  refine callsIn_of_wp Try.func50 rfl h5 ?_ hro
  simp only [Try.ntmps50, List.size_toArray, List.length_cons, List.length_nil, Nat.reduceAdd, Nat.reduceSub, Array.replicate_succ, Array.replicate_zero, List.push_toArray, List.append_toArray, List.nil_append, List.cons_append]
  gi_wp2
  go_ret
  exact ⟨rfl, rfl⟩
theorem backward_gives (F : Fence) (n : Nat) (h7 : F.fn 69) (hro : F.round = none) (hn : 1 ≤ n) (Bs cap : Nat) (ad : Addr) (zs : List Int) (hreach : zs.length * 8 ≤ 140737488355328) (w : World) (hBs : Bs < w.heap.size) (hb : ad.block < w.heap.size)
    (hc : w.cell? ⟨Bs, 0, none⟩ = some (.slice (some ad) zs.length cap)) (hI : ∀ j, j < zs.length → w.cell? (ad.add j) = some (.int .i64 (zs[j]?.getD 0))) :
    Rg.Gives F n Try.prog 69 #[.pointer (some ⟨Bs, 0, none⟩)] (bk zs) zs.length (Keep2 ad.block Bs) w := fun l J W hW hY h0 => by
  have hc' := (hW.cell (p := ⟨Bs, 0, none⟩) hBs).trans hc
  exact backward1_in F n h7 hro hn l Bs cap ad zs hreach J hY W hc' (fun j hj => (hW.cell (p := ad.add j) (by rw [add_block]; exact hb)).trans (hI j hj)) h0
theorem backward_gives_nil (F : Fence) (n : Nat) (h7 : F.fn 69) (hro : F.round = none) (Bs cap : Nat) (Kp : World → World → Prop) (A : Option Addr) (w : World) (hBs : Bs < w.heap.size)
    (hc : w.cell? ⟨Bs, 0, none⟩ = some (.slice A 0 cap)) :
    Rg.Gives F n Try.prog 69 #[.pointer (some ⟨Bs, 0, none⟩)] (bk []) 0 Kp w := fun l J W hW _ h0 =>
  backward1_nil_in F n h7 hro l Bs cap A J W ((hW.cell (p := ⟨Bs, 0, none⟩) hBs).trans hc) h0
end Go.Proofs.Ytbbpplnnegdenaa.It
end
section
set_option linter.unusedVariables false
namespace Go.Proofs.Ytbbpplnnegdenaa.Re
open Go Go.RowKit Go.Proofs Go.Proofs.YtbbpplnnegdenaaW.PrintWords
def fill (v : Int) (m n : Nat) : List Value := List.replicate m (Value.int .i64 v) ++ List.replicate (n - m) (Value.int .i64 0)
theorem info3 : (Try.prog.info? 3).map (fun i => (i.zero, i.size, i.bytes)) = some (some (.int .i64 0), 1, 8) := by kernel_rfl
theorem made (W : World) (n : Nat) (hn : n ≤ 17592186044416) : ∃ W1, (Instr.makeSlice 23 (.int .i64 n) (.int .i64 n)).run Try.prog W = .ok (.slice (some ⟨W.heap.size, 0, none⟩) n n) W1 ∧
    W1.heap[W.heap.size]? = some (.cells (fill 0 0 n).toArray 3 (0, 0)) ∧ Below W.heap.size W W1 := by
  obtain ⟨i0, hi, hz0, hz1, hz2⟩ := info_parts info3
  have hr := run_make (P := Try.prog) W 23 3 i0 (.int .i64 0) Try.underlying23 hi hz0 .i64 .i64 n n (by omega) (by omega) (by rw [hz2]; omega) (by omega)
  refine ⟨_, hr, ?_, (Below.refl _ _).alloc (Nat.le_refl _) _⟩
  rw [hz1, Int.toNat_natCast, Nat.mul_one]
  have e : madeCells (Value.int .i64 0).cells n = (fill 0 0 n).toArray := by
    apply Array.ext
    · simp [madeCells, fill]
    · intro j h1 h2
      simp [madeCells, fill, Value.cells, Nat.mod_one]
  rw [e]
  exact heap_alloc_new W _
theorem fill_length (v : Int) (m n : Nat) (h : m ≤ n) : (fill v m n).length = n := by simp [fill]; omega
theorem fill_splice (v : Int) (m k n : Nat) (h : m + k ≤ n) : splice (fill v m n) m (List.replicate k (Value.int .i64 v)) = fill v (m + k) n := by
  unfold splice fill
  rw [List.take_append_of_le_length (by simp), List.take_of_length_le (by simp), List.drop_append, List.drop_of_length_le (by simp), List.length_replicate, List.length_replicate, List.nil_append, List.drop_replicate, ← List.append_assoc, List.replicate_append_replicate]
  congr 2; omega
theorem fill_start (v : Int) (n : Nat) (h : 1 ≤ n) : splice (fill 0 0 n) 0 [Value.int .i64 v] = fill v 1 n := by
  unfold splice fill
  simp
theorem R_fill {W : World} {base g n : Nat} {v : Int} (h : W.heap[g]? = some (.cells (fill v n n).toArray 3 (0, 0))) (hb : base ≤ g) (hn : n ≤ maxLen) : Kd.R (Kd.int .i64) 3 W base (fun _ => True) (.slice (some ⟨g, 0, none⟩) n n) (List.replicate n v) := by
  have hf : fill v n n = List.replicate n (Value.int .i64 v) := by simp [fill]
  rw [hf] at h
  refine Kd.R_of_own (enc := Value.int .i64) (h1 := fun _ => rfl) ⟨by simp [encs], .inr ⟨g, n, _, by rw [List.length_replicate], hb, h, by simp, hn, by simp, by simp [encs]⟩⟩ (fun _ _ => trivial)
set_option maxRecDepth 100000 in
set_option maxHeartbeats 4000000 in
theorem repeat_calls (w : World) (b cx n : Nat) (v : Int) (h1 : 1 ≤ n) (hn : n ≤ 17592186044416) (hx : w.cell? ⟨b, 0, none⟩ = some (.int .i64 v)) :
    Calls Try.prog 48 #[.slice (some ⟨b, 0, none⟩) 1 cx, .int .i64 n] w fun e w' => ∃ v', e = .returned v' ∧ Kd.R (Kd.int .i64) 3 w' w.heap.size (fun _ => True) v' (List.replicate n v) ∧ Below w.heap.size w w' := by
  have cM := Try.bits_Mul 1 n (by omega) (by omega) w
  rw [Nat.one_mul, Nat.div_eq_of_lt (by omega), Nat.mod_eq_of_lt (by omega), show ((1 : Nat) : Int) = 1 from rfl, show ((0 : Nat) : Int) = 0 from rfl] at cM
  obtain ⟨W1, hmk, hrow, hB⟩ := made w n hn
  have hsz : (Try.prog.info? 3).map (·.size) = some 1 := by
    obtain ⟨i0, hi, hz0, hz1, hz2⟩ := info_parts info3
    rw [hi]; simp [hz1]
  have hxl : b < w.heap.size := World.block_lt_of_cell? w ⟨b, 0, none⟩ hx
  have hx1 : W1.cell? ⟨b, 0, none⟩ = some (.int .i64 v) := (hB.cell (p := ⟨b, 0, none⟩) hxl).trans hx
  have HX := Go.Lib.hid hx1
  have HR := Go.Lib.hid hrow
  have HB := Aside0.mk hB
  clear hx hx1 hrow hB
  go_enter Try.func48, Try.ntmps48
  go_wp2_with (fail)
  (with_reducible refine cM.mono ?_)
  rintro e w' ⟨rfl, hw⟩
  subst hw
  clear cM
  have hnl : [Value.int .i64 v].length = Nat.min 1 n := (Nat.min_eq_left h1).symm
  have hfit : 0 + [Value.int .i64 v].length ≤ (fill 0 0 n).length := by rw [fill_length _ _ _ (by omega)]; simp; omega
  have hone : ∀ u ∈ [Value.int .i64 v], u.oneCell' = true := by simp [Value.oneCell']
  have hsrc : ∀ j u, [Value.int .i64 v][j]? = some u → W1.cell? ((⟨b, 0, none⟩ : Addr).add j) = some u := by
    intro j u hj
    cases j with
    | zero =>
      simp only [List.getElem?_cons_zero, Option.some.injEq] at hj
      subst hj
      exact HX.out
    | succ j => simp at hj
  have HNL := Go.Lib.hid hnl
  have HFIT := Go.Lib.hid hfit
  have HONE := Go.Lib.hid hone
  have HSRC := Go.Lib.hid hsrc
  clear hnl hfit hone hsrc
  go_wp2_with (with_reducible refine wpList_copy_splice rfl (.tmp 31) (.tmp 32) 23 23 rfl 3 Try.underlying23 hsz (some ⟨w'.heap.size, 0, none⟩) (some ⟨b, 0, none⟩) n n 1 cx rfl rfl w'.heap.size 0 (fill 0 0 n) 3 HR.out [.int .i64 v] HNL.out (fun _ => ⟨rfl, _, rfl, HSRC.out⟩) HFIT.out HONE.out w'.heap.size w' HB.out (Nat.le_refl _) ?_; intro w2 HR2 HB2')
  rw [fill_start v n h1] at HR2
  clear HX HR HB HNL HFIT HONE HSRC hmk
  go_loopw [8] (fun v8 wr => ∃ m : Nat, v8 = .int .i64 m ∧ Aside0 (1 ≤ m ∧ m ≤ n) ∧ Hid (wr.heap[w'.heap.size]? = some (.cells (fill v m n).toArray 3 (0, 0))) ∧ Aside0 (Below w'.heap.size w' wr))
    (fun v8 _ => n - (intOf v8).toNat)
  case atStart => exact ⟨1, rfl, ⟨⟨Nat.le_refl _, h1⟩⟩, HR2, ⟨HB2'⟩⟩
  case round =>
    obtain ⟨m, rfl, hm, hrow, hB⟩ := hrel
    have hm1 := hm.out.1
    have hm2 := hm.out.2
    by_cases hlt : m < n
    · obtain ⟨k, hk⟩ : ∃ k, k = Nat.min m (n - m) := ⟨_, rfl⟩
      have hk1 : 1 ≤ k := by rw [hk]; exact Nat.le_min.2 ⟨hm1, by omega⟩
      have hk2 : k ≤ m := by rw [hk]; exact Nat.min_le_left _ _
      have hk3 : m + k ≤ n := by have : k ≤ n - m := by rw [hk]; exact Nat.min_le_right _ _
                                 omega
      have HNL := Go.Lib.hid (show (List.replicate k (Value.int .i64 v)).length = Nat.min m (n - m) by rw [List.length_replicate, hk])
      have HFIT := Go.Lib.hid (show m + (List.replicate k (Value.int .i64 v)).length ≤ (fill v m n).length by rw [fill_length _ _ _ hm2, List.length_replicate]; exact hk3)
      have HONE := Go.Lib.hid (show ∀ u ∈ List.replicate k (Value.int .i64 v), u.oneCell' = true by intro u hu; rw [List.eq_of_mem_replicate hu]; rfl)
      have HSRC := Go.Lib.hid (show ∀ j u, (List.replicate k (Value.int .i64 v))[j]? = some u → wr.cell? ((⟨w'.heap.size, 0, none⟩ : Addr).add j) = some u by
        intro j u hj
        have hjk : j < k := by have := (List.getElem?_eq_some_iff.1 hj).1; simpa using this
        rw [List.getElem?_replicate, if_pos hjk] at hj
        cases hj
        have := blk_cell hrow.out j
        rw [show ((⟨w'.heap.size, 0, none⟩ : Addr).add j) = ⟨w'.heap.size, j, none⟩ by unfold Addr.add; simp; omega, this]
        simp only [fill, List.getElem?_toArray]
        rw [List.getElem?_append_left (by rw [List.length_replicate]; omega), List.getElem?_replicate, if_pos (by omega)])
      have HK := Go.Lib.hid hk
      clear hk
      obtain ⟨W5, hcp, hrow5, hB5⟩ : ∃ W5, Sem.run Try.prog (Builtin.copy_ #[23, 23] 3 #[.slice (some ⟨w'.heap.size, m, none⟩) (n - m) (n - m), .slice (some ⟨w'.heap.size, 0, none⟩) m n]) wr.drew = .ok (.int .i64 (k : Int)) W5 ∧
          W5.heap[w'.heap.size]? = some (.cells (fill v (m + k) n).toArray 3 (0, 0)) ∧ Below w'.heap.size w' W5 := by
        have hg : wr.drew.heap[w'.heap.size]? = some (.cells (fill v m n).toArray 3 (0, 0)) := hrow.out
        have hr := run_copy_row (P := Try.prog) wr.drew 23 23 3 3 w'.heap.size m (n - m) (n - m) ⟨w'.heap.size, 0, none⟩ m n (fill v m n).toArray 3 (List.replicate k (.int .i64 v)) Try.underlying23 hsz hg HNL.out HSRC.out (by simpa using HFIT.out) HONE.out
        refine ⟨_, by simpa [goInt] using hr, ?_, below_setRow (below_drew1 hB.out) (Nat.le_refl _) _⟩
        rw [setRow_heap wr.drew w'.heap.size _ _ 3 _ hg, ← fill_splice v m k n hk3]
        simp [splice]
      have HR5 := Go.Lib.hid hrow5
      have HB5 := Aside0.mk hB5
      clear hrow5 hB5 HNL HFIT HONE HSRC hrow
      go_wp2_with (fail)
      go_region
      go_wp2
      go_roundw
      case rel => exact ⟨m + k, by go_num, ⟨by omega⟩, HR5, HB5⟩
      case measure => simp [intOf]; omega
    · have hmn : m = n := by omega
      subst hmn
      go_wp2
      go_ret
      exact ⟨_, rfl, R_fill hrow.out (Nat.le_refl _) (by unfold maxLen; omega), hB.out⟩
end Go.Proofs.Ytbbpplnnegdenaa.Re
end
section
set_option linter.unusedVariables false
namespace Go.Proofs.Ytbbpplnnegdenaa.St
open Go Go.RowKit Go.Shelf Go.Proofs Go.Proofs.YtbbpplnnegdenaaW.PrintWords Go.Proofs.Ytbbpplnnegdenaa.So Go.Proofs.Ytbbpplnnegdenaa.It
attribute [local go_sem] Oper.semAt_some
def lastAll (s : List Int) : List Int → List Int → List Int → Option (List Int × List Int)
  | [], en, row => some (en, row)
  | j :: js, en, row => (lastF s en row j).bind fun x => lastAll s js x.1 x.2
theorem lastAll_snoc (s : List Int) (j : Int) : ∀ (js en row), lastAll s (js ++ [j]) en row = (lastAll s js en row).bind fun x => lastF s x.1 x.2 j
  | [], en, row => by
    simp only [List.nil_append, lastAll, Option.bind_some]
    cases lastF s en row j <;> rfl
  | i :: js, en, row => by
    simp only [List.cons_append, lastAll]
    cases lastF s en row i with
    | none => rfl
    | some x => simp only [Option.bind_some]; exact lastAll_snoc s j js x.1 x.2
theorem lastAll_app (s : List Int) (ks : List Int) : ∀ (js en row), lastAll s (js ++ ks) en row = (lastAll s js en row).bind fun x => lastAll s ks x.1 x.2
  | [], en, row => rfl
  | i :: js, en, row => by
    simp only [List.cons_append, lastAll]
    cases lastF s en row i with
    | none => rfl
    | some x => simp only [Option.bind_some]; exact lastAll_app s ks js x.1 x.2
theorem lastAll_step {s l en0 row0 en row : List Int} {k : Nat} {X : List Int × List Int} (hk : k < l.length) (h : lastAll s l en0 row0 = some X) (h1 : lastAll s (l.take k) en0 row0 = some (en, row)) :
    ∃ y, lastF s en row (l[k]?.getD 0) = some y ∧ lastAll s (l.take (k + 1)) en0 row0 = some y := by
  have e1 : l.take (k + 1) = l.take k ++ [l[k]?.getD 0] := by
    rw [List.take_add_one, List.getElem?_eq_getElem hk]; rfl
  have e2 : l = l.take (k + 1) ++ l.drop (k + 1) := (List.take_append_drop _ _).symm
  rw [e2, lastAll_app, e1, lastAll_snoc, h1, Option.bind_some] at h
  rw [e1, lastAll_snoc, h1, Option.bind_some]
  dsimp only at h ⊢
  cases hz : lastF s en row (l[k]?.getD 0) with
  | none => rw [hz] at h; simp at h
  | some y => exact ⟨y, rfl, rfl⟩
theorem range_back {F : Fence} {n : Nat} {P : Program} {w : World} {g : Operand} {ps : Array Tmp} {assign body : Code} {Q : Exit → Act → World → Prop} {a : Act}
    (hro : F.round = none) (h1 : 1 ≤ n) {gf : Nat} {lb : Array Value} (hg : a.eval g = .func (.func gf) #[] lb) (hFg : F.fn gf) (eg : ∀ args w, (callFunc gf args).run P w = .ok (.enter gf args) w)
    (zs : List Int) {Kp : World → World → Prop} (hps : ps.size = 2)
    (hKt : ∀ {A B C : World}, Kp A B → Kp B C → Kp A C) (hKb : ∀ (W : World) (l : Nat) (o o' : Obj), w.heap.size ≤ l → W.heap[l]? = some o → o.isCells = false → o.isWalk = false → Kp W (W.putObj l o'))
    (I : Nat → World → Prop) (hIa : ∀ W o, I 0 W → I 0 (W.alloc o)) (hIp : ∀ k W l o o', I k W → w.heap.size ≤ l → W.heap[l]? = some o → o.isCells = false → I k (W.putObj l o')) (h0 : I 0 w)
    (hseq : Rg.Gives F (n - 1) P gf lb (bk zs) zs.length Kp w)
    (hassign : ∀ (l k : Nat) (W : World) (K : Act → World → Prop), K { tmps := ((a.tmps.setIfInBounds 51 (.int .i64 ((zs.length - 1 - k : Nat) : Int))).setIfInBounds 52 (.int .i64 (zs[zs.length - 1 - k]?.getD 0))).setIfInBounds 14 (.int .i64 (zs[zs.length - 1 - k]?.getD 0)), defers := [] } W →
      assign.wpIn (F.inRound l) (n - 1 - 1) P (Exit.then K (fun _ _ _ => False)) { tmps := (ps.zip (bk zs k)).foldl (fun t (p, v) => t.setIfInBounds p v) a.tmps, defers := [] } W)
    (hbody : ∀ (l k : Nat) (W : World), k < zs.length → I k W → body.wpIn (F.inRound l) (n - 1 - 1) P (fun e _ W' => e = .normal ∧ KeepsFrom w.heap.size W W' ∧ Kp W W' ∧ I (k + 1) W')
      { tmps := ((a.tmps.setIfInBounds 51 (.int .i64 ((zs.length - 1 - k : Nat) : Int))).setIfInBounds 52 (.int .i64 (zs[zs.length - 1 - k]?.getD 0))).setIfInBounds 14 (.int .i64 (zs[zs.length - 1 - k]?.getD 0)), defers := [] } W)
    (hdone : ∀ (D : Nat) (W : World), w.heap.size ≤ D → I zs.length W → W.heap[D]? = some (.deferred (some [])) → Q .normal { a with defers := { target := .collected D, args := #[] } :: a.defers } W) :
    (Code.rangeFunc g ps assign body).wpIn F n P Q a w :=
  Rg.range_upto (Kp := Kp) hro h1 hg hFg eg (fun k => by rw [hps]; rfl) hKt hKb I hIa hIp h0 hseq (fun k => { tmps := ((a.tmps.setIfInBounds 51 (.int .i64 ((zs.length - 1 - k : Nat) : Int))).setIfInBounds 52 (.int .i64 (zs[zs.length - 1 - k]?.getD 0))).setIfInBounds 14 (.int .i64 (zs[zs.length - 1 - k]?.getD 0)), defers := [] }) hassign hbody hdone
structure LI (W8 : World) (B0 br be bz cr ce b1 b2 : Nat) (en row : List Int) (W : World) : Prop where
  gr : W8.grownBy W (some br)
  b0 : B0 ≤ W.heap.size
  z : W.heap[bz]? = some (.cells #[.slice (some ⟨be, 0, none⟩) en.length ce] 23 (0, 0))
  rr : Kd.R (Kd.int .i64) 3 W b1 (fun k => k < B0 ∧ k ≠ be) (.slice (some ⟨br, 0, none⟩) row.length cr) row
  re : Kd.R (Kd.int .i64) 3 W b2 (fun k => k < B0 ∧ k ≠ br) (.slice (some ⟨be, 0, none⟩) en.length ce) en
theorem LI.alloc {W8 W : World} {B0 br be bz cr ce b1 b2 : Nat} {en row : List Int} (h : LI W8 B0 br be bz cr ce b1 b2 en row W) (o : Obj) : LI W8 B0 br be bz cr ce b1 b2 en row (W.alloc o) :=
  ⟨grown_trans h.gr (World.grownBy_alloc W o none) (fun b e => by cases e), by simp; have := h.b0; omega, (Below.heap_alloc _ _ _ (blk_lt h.z)).trans h.z, Kd.R_alloc h.rr o, Kd.R_alloc h.re o⟩
theorem LI.putObj {W8 W : World} {B0 br be bz cr ce b1 b2 : Nat} {en row : List Int} (h : LI W8 B0 br be bz cr ce b1 b2 en row W) (h8 : W8.heap.size ≤ B0) (hz : bz < B0) (l : Nat) (o : Obj) (hl : B0 ≤ l) : LI W8 B0 br be bz cr ce b1 b2 en row (W.putObj l o) :=
  ⟨grown_trans h.gr (grownBy_putObj' W l o) (fun b e => .inl (by cases e; omega)), by simp; exact h.b0, (World.putObj_heap_other (by omega)).trans h.z,
    Kd.R_step h.rr (fun k hk _ => World.putObj_heap_other (by omega)), Kd.R_step h.re (fun k hk _ => World.putObj_heap_other (by omega))⟩
theorem LI.last {W8 W : World} {g B0 br be bz cr ce b1 b2 bf Bs : Nat} {As Am Ac : Option Addr} {cs cm cc : Nat} {s : List Int} {sm : List Bool} {co en row en' row' : List Int} {j : Int}
    (hS : Sr W8 g br As Am Ac cs cm cc cr s sm co row.length) (h : LI W8 B0 br be bz cr ce b1 b2 en row W) (h8 : W8.heap.size ≤ be) (hz : bz < B0) (hbe : be < B0) (hbr : br < B0) (hzb : bz ≠ be) (hzr : bz ≠ br)
    (hsE : ∀ ad, As = some ad → ad.block ≠ be) (hf1 : bf ≠ be) (hf2 : bf ≠ br) (hB1 : Bs ≠ be) (hB2 : Bs ≠ br) (hbf : bf < B0) (hBs : Bs < B0) (hF : lastF s en row j = some (en', row')) :
    Calls Try.prog 51 #[.pointer (some ⟨g, 0, none⟩), .slice (some ⟨be, 0, none⟩) en.length ce, .int .i64 j] W fun e W' => e = .returned (.tuple #[]) ∧ row'.length = row.length ∧ en'.length = en.length ∧ KeepsFrom B0 W W' ∧ Keep2 bf Bs W W' ∧ LI W8 B0 br be bz cr ce b1 b2 en' row' W' := by
  have hS1 := hS.move h.gr
  have hge : g ≠ be := fun e => by have := blk_lt hS.G; omega
  refine (last_kd hS1 h.rr h.re hge hsE (fun k hk => hk.2) (fun k hk => hk.2) hF).mono ?_
  rintro e W' ⟨rfl, r1, r2, hl1, hl2, W1, g1, g2⟩
  have hb0 := h.b0
  have s1 := g1.size
  have s2 := g2.size
  have hblk : ∀ k, k < W.heap.size → k ≠ be → k ≠ br → W'.heap[k]? = W.heap[k]? := fun k hk n1 n2 =>
    (g2.block k (by omega) (fun e => n2 (by cases e; rfl))).trans (g1.block k hk (fun e => n1 (by cases e; rfl)))
  refine ⟨rfl, hl1, hl2, ⟨by omega, fun k o hk ho hc => (hblk k (Array.getElem?_eq_some_iff.1 ho).1 (by omega) (by omega)).trans ho⟩, ⟨hblk _ (by omega) hf1 hf2, hblk _ (by omega) hB1 hB2⟩, ?_⟩
  refine ⟨grown_trans (grown_trans h.gr g1 (fun b e => .inl (by cases e; exact h8))) g2 (fun b e => .inr (by rw [e])), by omega, ?_, r1, r2⟩
  rw [hl2]
  exact (hblk _ (by omega) hzb hzr).trans h.z
theorem C_Ints {W : World} {A : Option Addr} {l : List Int} {c B : Nat} (h : Kd.C (Kd.int .i64) W A l.length l) (hB : W.heap.size ≤ B) : Ints B W (.slice A l.length c) l := by
  by_cases h0 : l.length = 0
  · exact .inl ⟨c, A, by rw [h0], List.length_eq_zero_iff.1 h0⟩
  · obtain ⟨ad, rfl, h1⟩ := Kd.at_int h 0 (by omega) (by omega)
    refine .inr ⟨ad, c, rfl, Nat.lt_of_lt_of_le (Kd.C_lt h (by omega) (by decide)) hB, fun j hj => ?_⟩
    obtain ⟨ad', he, h2⟩ := Kd.at_int h (j : Int) (by omega) (by omega)
    cases he
    rw [Int.toNat_natCast] at h2
    rw [h2]
    simp [rd]
theorem R_sorted {W : World} {base : Nat} {v : Value} {zs : List Int} (h : W.ownsRow base 3 1 v zs.length ((zs.mergeSort (fun x y => decide (x ≤ y))).map (Value.int .i64))) : Kd.R (Kd.int .i64) 3 W base (fun _ => True) v (zs.mergeSort (fun x y => decide (x ≤ y))) := by
  refine Kd.R_of_own (enc := Value.int .i64) (h1 := fun _ => rfl) ?_ (fun _ _ => trivial)
  rw [List.length_mergeSort]
  have : encs (Value.int .i64) (zs.mergeSort (fun x y => decide (x ≤ y))) = (zs.mergeSort (fun x y => decide (x ≤ y))).map (Value.int .i64) := by simp [encs]
  rw [this]; exact h
set_option maxRecDepth 100000 in
set_option maxHeartbeats 4000000 in
theorem sort_main (n : Nat) (hn : 6 ≤ n) {w : World} {As Af : Option Addr} {cs cf : Nat} {s first co fs st en0 row1 row2 row2a row2c row3 en1 st0 ri : List Int} {sm : List Bool} {k : Int}
    (hs : Kd.C (Kd.int .i64) w As s.length s) (hf : Kd.C (Kd.int .i64) w Af first.length first) (hfl : first.length ≤ 1000000) (hs0 : 0 < s.length) (hsl : s.length ≤ 1000000) (hstl : st.length = co.length) (hco : 0 < co.length) (hcol : co.length < 4611686018427387904) (henl : 0 < en0.length) (hen : endsL co co.length 0 st = en0) (hl0 : firstF s st row1 ((s.length : Int) - 1) = some (st0, row2a)) (hla : largeL s sm row1.length 0 st0 row2a = some row2) (hml : sm.length < 4611686018427387904)
    (hcl : clearL sm row2.length 0 row2 = some row2c) (hsm : smallL s sm row2.length en0 row2c = some row3)
    (hall : lastAll s first.reverse en0 (List.replicate s.length (-1)) = some (en1, row1))
    (hCounts : ∀ W, Kd.C (Kd.int .i64) W As s.length s → Calls Try.prog 17 #[.slice As s.length cs, .int .i64 k] W fun e W' => ∃ v, e = .returned (.tuple #[v, .bool true]) ∧ Kd.R (Kd.int .i64) 3 W' W.heap.size (fun _ => True) v co ∧ Below W.heap.size W W')
    (hFirst : ∀ W, Kd.C (Kd.int .i64) W As s.length s → Calls Try.prog 27 #[.slice As s.length cs] W fun e W' => ∃ v, e = .returned v ∧ Kd.R (Kd.int .i64) 3 W' W.heap.size (fun _ => True) v fs ∧ Below W.heap.size W W')
    (hri : first.mergeSort (fun x y => decide (x ≤ y)) = ri)
    (hEq : ∀ W A B c d, ri.length ≤ c → fs.length ≤ d → Kd.C (Kd.int .i64) W A ri.length ri → Kd.C (Kd.int .i64) W B fs.length fs →
      Calls Try.prog 25 #[.slice A ri.length c, .slice B fs.length d] W fun e W' => e = .returned (.bool true) ∧ Drawn0 W W')
    (hSmall : ∀ W, Kd.C (Kd.int .i64) W As s.length s → Calls Try.prog 45 #[.slice As s.length cs] W fun e W' => ∃ v, e = .returned v ∧ Kd.R Kd.bool 4 W' W.heap.size (fun _ => True) v sm ∧ Below W.heap.size W W')
    (hStarts : ∀ W A c, co.length ≤ c → Kd.C (Kd.int .i64) W A co.length co → Calls Try.prog 35 #[.slice A co.length c] W fun e W' => ∃ v, e = .returned v ∧ Kd.R (Kd.int .i64) 3 W' W.heap.size (fun _ => True) v st ∧ Below W.heap.size W W') :
    CallsIn Fence.wide n Try.prog 28 #[.slice As s.length cs, .int .i64 k, .slice Af first.length cf] w fun e w' => ∃ v, e = .returned (.tuple #[v, .bool true]) ∧ Kd.R (Kd.int .i64) 3 w' w.heap.size (fun _ => True) v row3 ∧ Below w.heap.size w w' := by
  have h1 : 1 ≤ n := by omega
  refine callsIn_of_wp_marks Try.func28 rfl trivial ?_ rfl
  simp only [Try.ntmps28, List.size_toArray, List.length_cons, List.length_nil, Nat.reduceAdd, Nat.reduceSub, Array.replicate_succ, Array.replicate_zero, List.push_toArray, List.append_toArray, List.nil_append, List.cons_append]
  have CS := Aside0.mk (hCounts w hs)
  have HS := Aside0.mk hs
  have HF := Aside0.mk hf
  have HFI := Aside0.mk hFirst
  have HEQ := Aside0.mk hEq
  have HRI := Go.Lib.hid hri
  have HL0 := Go.Lib.hid hl0
  have HLA := Go.Lib.hid hla
  have HCL := Go.Lib.hid hcl
  have HSML := Go.Lib.hid hsm
  have HALL := Go.Lib.hid hall
  have HSL := Go.Lib.hid hstl
  have HEN := Go.Lib.hid hen
  have HSM := Aside0.mk hSmall
  have HST := Aside0.mk hStarts
  clear hri hl0 hla hcl hsm hall hen hstl hs hf hCounts hFirst hEq hSmall hStarts
  gi_wp2_with (fail)
  refine ⟨trivial, (callsIn_wide.2 CS.out).mono ?_⟩
  rintro e w1 ⟨v1, rfl, r1, b1⟩
  obtain ⟨Ac, cc, rfl, hcc, _⟩ := Kd.R_reads r1
  have R1 := Aside0.mk r1
  have HCC := Go.Lib.hid hcc
  clear hcc
  have B1 := Aside0.mk b1
  clear r1 b1
  gi_wp2_with (fail)
  refine ⟨trivial, (callsIn_wide.2 (values_calls _ _ _ _)).mono ?_⟩
  rintro e w2 ⟨rfl, ew2⟩
  have bB2 : Below w1.heap.size w1 w2 := by rw [ew2]; exact (Below.refl _ w1).alloc (Nat.le_refl _) _
  have hc2 : w2.cell? ⟨w1.heap.size, 0, none⟩ = some (.slice Af first.length cf) := by rw [ew2]; exact (Boxed.new w1 23 (.slice Af first.length cf)).cell
  have hs2 : w1.heap.size < w2.heap.size := by rw [ew2]; simp
  clear ew2
  have cI := C_Ints (c := cf) (Kd.C_below HF.out (B1.out.trans (bB2.mono B1.out.size))) (Nat.le_refl _)
  have cS := sorted_calls w1.heap.size (.slice Af first.length cf) first (by have : maxLen = 9223372036854775807 := rfl; omega) (by omega) w2 hs2 hc2 cI
  have B2 := Aside0.mk (B1.out.trans (bB2.mono B1.out.size))
  have BB2 := Aside0.mk bB2
  clear bB2 cI hc2 hs2
  gi_wp2_with (fail)
  refine ⟨trivial, (callsIn_wide.2 cS).mono ?_⟩
  clear cS
  rintro e w3 ⟨v3, rfl, o3, _, b3⟩
  have r3 := R_sorted o3
  rw [HRI.out] at r3
  obtain ⟨A3, c3, rfl, hc3, _⟩ := Kd.R_reads r3
  have R3 := Aside0.mk r3
  have HC3 := Go.Lib.hid hc3
  clear hc3
  have BB3 := Aside0.mk b3
  have B3 := Aside0.mk (B2.out.trans (b3.mono B2.out.size))
  clear r3 b3 o3
  gi_wp2_with (fail)
  have bw3 : Below w.heap.size w w3 := B3.out
  refine ⟨trivial, (callsIn_wide.2 (HFI.out w3 (Kd.C_below HS.out bw3))).mono ?_⟩
  rintro e w4 ⟨v4, rfl, r4, b4⟩
  obtain ⟨A4, c4, rfl, hc4, _⟩ := Kd.R_reads r4
  have R4 := Aside0.mk r4
  have HC4 := Go.Lib.hid hc4
  clear hc4
  have BB4 := Aside0.mk b4
  have B4 := Aside0.mk (B3.out.trans (b4.mono B3.out.size))
  clear r4 b4 bw3
  gi_wp2_with (fail)
  have f3 := Kd.C_below (Kd.F_now (Kd.R_F R3.out)) BB4.out
  have f4 := Kd.F_now (Kd.R_F R4.out)
  have cE := HEQ.out w4 A3 A4 c3 c4 HC3.out HC4.out f3 f4
  clear f3 f4
  refine ⟨trivial, (callsIn_wide.2 cE).mono ?_⟩
  clear cE
  rintro e w5 ⟨rfl, ⟨m5, rfl⟩⟩
  have b5 : Below w4.heap.size w4 (w4.drewN m5) := pw_below_drewN (Below.refl _ _) m5
  have BB5 := Aside0.mk b5
  have B5 := Aside0.mk (B4.out.trans (b5.mono B4.out.size))
  generalize w4.drewN m5 = w5 at *
  clear b5
  gi_wp2_with (fail)
  have cM := HSM.out w5 (Kd.C_below HS.out B5.out)
  refine ⟨trivial, (callsIn_wide.2 cM).mono ?_⟩
  clear cM
  rintro e w6 ⟨v6, rfl, r6, b6⟩
  obtain ⟨A6, c6, rfl⟩ := Kd.R_slice r6
  have R6 := Aside0.mk r6
  have BB6 := Aside0.mk b6
  have B6 := Aside0.mk (B5.out.trans (b6.mono B5.out.size))
  clear r6 b6
  gi_wp2_with (fail)
  have cR := Re.repeat_calls (w6.alloc (.cells #[.int .i64 (-1)] 3)) w6.heap.size 1 s.length (-1) (by omega) (by omega) (Boxed.new w6 3 (.int .i64 (-1))).cell
  refine ⟨trivial, (callsIn_wide.2 cR).mono ?_⟩
  clear cR
  rintro e w7 ⟨v7, rfl, r7, b7⟩
  obtain ⟨br, cr, rfl, hbr, hbr2, _⟩ := Kd.R_form r7 (by rw [List.length_replicate]; omega)
  rw [List.length_replicate] at *
  have bx7 : Below w6.heap.size w6 w7 := ((Below.refl _ w6).alloc (Nat.le_refl _) _).trans (b7.mono (by simp))
  have hbw : w6.heap.size ≤ br := by simp at hbr; omega
  have R7 := Aside0.mk (Kd.R_lower r7 (show w6.heap.size ≤ _ by simp))
  have BB7 := Aside0.mk bx7
  have B7 := Aside0.mk (B6.out.trans (bx7.mono B6.out.size))
  clear r7 b7 bx7
  gi_wp2_with (fail)
  obtain ⟨W8, hW8⟩ : ∃ W8, (w7.alloc (.cells #[.slice As s.length cs, .slice A6 sm.length c6, .slice Ac co.length cc, .slice (some ⟨br, 0, none⟩) s.length cr] 77)).alloc (.cells #[.pointer (some ⟨w7.heap.size, 0, none⟩)] 75) = W8 := ⟨_, rfl⟩
  rw [hW8]
  have hG : W8.heap[w7.heap.size]? = some (.cells #[.slice As s.length cs, .slice A6 sm.length c6, .slice Ac co.length cc, .slice (some ⟨br, 0, none⟩) s.length cr] 77 (0, 0)) := by
    rw [← hW8]; exact (Below.heap_alloc _ _ _ (by simp)).trans (World.alloc_heap_new w7 _)
  have hX : W8.heap[w7.heap.size + 1]? = some (.cells #[.pointer (some ⟨w7.heap.size, 0, none⟩)] 75 (0, 0)) := by
    rw [← hW8]; have := World.alloc_heap_new (w7.alloc (.cells #[.slice As s.length cs, .slice A6 sm.length c6, .slice Ac co.length cc, .slice (some ⟨br, 0, none⟩) s.length cr] 77)) (.cells #[.pointer (some ⟨w7.heap.size, 0, none⟩)] 75); rwa [World.size_alloc] at this
  have bb8 : Below w7.heap.size w7 W8 := by rw [← hW8]; exact (((Below.refl _ w7).alloc (Nat.le_refl _) _).alloc (by simp) _)
  have hs8 : W8.heap.size = w7.heap.size + 2 := by rw [← hW8]; simp
  have hbrw : br < w7.heap.size := Kd.R_lt R7.out br (by simp [Value.ownBlock])
  have l7 := B7.out.size
  have l6 := B6.out.size
  have l1 := B1.out.size
  have l5 := BB6.out.size
  have l61 : w1.heap.size ≤ w6.heap.size := by have := BB2.out.size; have := BB3.out.size; have := BB4.out.size; have := BB5.out.size; omega
  have b17 : Below w1.heap.size w1 w7 := BB2.out.trans ((BB3.out.trans ((BB4.out.trans ((BB5.out.trans ((BB6.out.trans (BB7.out.mono BB6.out.size)).mono BB5.out.size)).mono BB4.out.size)).mono BB3.out.size)).mono BB2.out.size)
  have hS8 : Sr W8 w7.heap.size br As A6 Ac cs c6 cc cr s sm co s.length := by
    refine ⟨hG, by omega, fun ad e => ?_, ?_, ?_, ?_⟩
    · have : ad.block < w.heap.size := by subst e; exact Kd.C_lt HS.out hs0 (by decide)
      omega
    · exact Kd.F_mono (Kd.F_below (Kd.F_bound (Kd.F_below (Kd.C_F (Kd.heap_int _) HS.out) B7.out)) bb8) (fun k hk => by have := hk.1; omega)
    · exact Kd.F_mono (Kd.F_below (Kd.F_below (Kd.F_bound (Kd.R_F R6.out)) BB7.out) bb8) (fun k hk => by have := hk.2; omega)
    · exact Kd.F_mono (Kd.F_below (Kd.F_below (Kd.F_bound (Kd.R_F R1.out)) b17) bb8) (fun k hk => by have := hk.2; omega)
  have cN := ends_calls hS8 HSL.out hco hcol (fun W h => HST.out W Ac cc HCC.out h)
  refine ⟨trivial, (callsIn_wide.2 cN).mono ?_⟩
  clear cN
  rintro e w9 ⟨v9, rfl, r9, b9⟩
  rw [HEN.out] at r9
  obtain ⟨be, ce, rfl, hbe, hbe2, _⟩ := Kd.R_form r9 (by omega)
  have S8 := Aside0.mk hS8
  have R9 := Aside0.mk r9
  have BB8 := Aside0.mk bb8
  have BB9 := Aside0.mk b9
  have HX := Go.Lib.hid hX
  have hx9 : w9.cell? ⟨w7.heap.size + 1, 0, none⟩ = some (.pointer (some ⟨w7.heap.size, 0, none⟩)) := blk_cell ((b9.block _ (by omega)).trans hX) 0
  clear hG hX hS8 r9 bb8 b9 hW8 b17
  gi_wp2_with (fail)
  refine ⟨trivial, (backward_in Fence.wide (n - 1) trivial rfl Af first.length cf _).mono ?_⟩
  rintro e w11 ⟨rfl, ew11⟩
  rw [World.size_alloc] at *
  have s11 : w11.heap.size = w9.heap.size + 2 := by rw [ew11]; simp
  have z11 : w11.heap[w9.heap.size]? = some (.cells #[.slice (some ⟨be, 0, none⟩) en0.length ce] 23 (0, 0)) := by
    rw [ew11]; exact (Below.heap_alloc _ _ _ (by simp)).trans (World.alloc_heap_new w9 _)
  have c11 : w11.cell? ⟨w9.heap.size + 1, 0, none⟩ = some (.slice Af first.length cf) := by
    have h := World.alloc_heap_new (w9.alloc (.cells #[.slice (some ⟨be, 0, none⟩) en0.length ce] 23)) (.cells #[.slice Af first.length cf] 23)
    rw [World.size_alloc] at h
    rw [ew11]; exact blk_cell h 0
  have bb11 : Below w9.heap.size w9 w11 := by rw [ew11]; exact (((Below.refl _ w9).alloc (Nat.le_refl _) _).alloc (by simp) _)
  clear ew11
  have BB11 := Aside0.mk bb11
  clear bb11
  gi_wp2_with (fail)
  have l8 : W8.heap.size = w7.heap.size + 2 := hs8
  have l9 := BB9.out.size
  have hgive : ∃ bf, bf ≠ be ∧ bf ≠ br ∧ bf < w11.heap.size ∧ Rg.Gives Fence.wide (n - 1) Try.prog 69 #[.pointer (some ⟨w9.heap.size + 1, 0, none⟩)] (bk first) first.length (Keep2 bf (w9.heap.size + 1)) w11 := by
    have hbw : Below w.heap.size w w11 := B7.out.trans ((BB8.out.trans ((BB9.out.trans (BB11.out.mono BB9.out.size)).mono BB8.out.size)).mono B7.out.size)
    rcases C_Ints (c := cf) (Kd.C_below HF.out hbw) (Nat.le_refl w11.heap.size) with ⟨cap, A, e, rfl⟩ | ⟨ad, cap, e, hb, hc⟩
    · exact ⟨w7.heap.size, by omega, by omega, by omega, backward_gives_nil Fence.wide (n - 1) trivial rfl _ cf _ Af w11 (by omega) c11⟩
    · cases e
      have hadw : first.length = 0 ∨ ad.block < w.heap.size := by
        by_cases h0 : first.length = 0
        · exact .inl h0
        · exact .inr (Kd.C_lt HF.out (by omega) (by decide))
      rcases hadw with h0 | hadw
      · obtain rfl : first = [] := List.length_eq_zero_iff.1 h0
        exact ⟨w7.heap.size, by omega, by omega, by omega, backward_gives_nil Fence.wide (n - 1) trivial rfl _ cf _ _ w11 (by omega) c11⟩
      · exact ⟨ad.block, by omega, by omega, by omega, backward_gives Fence.wide (n - 1) trivial rfl (by omega) _ cf ad first (by omega) w11 (by omega) hb c11 hc⟩
  obtain ⟨bf, hf1, hf2, hf3, hgive⟩ := hgive
  refine range_back (Kp := Keep2 bf (w9.heap.size + 1)) rfl h1 (gf := 69) (lb := #[.pointer (some ⟨w9.heap.size + 1, 0, none⟩)]) rfl trivial (enters_of Try.func69 (by kernel_rfl) rfl) first rfl Keep2.trans (keep2_b hf3 (by omega))
    (fun k W => ∃ en row, lastAll s (first.reverse.take k) en0 (List.replicate s.length (-1)) = some (en, row) ∧ en.length = en0.length ∧ row.length = s.length ∧ LI W8 w11.heap.size br be w9.heap.size cr ce w6.heap.size W8.heap.size en row W)
    ?_ ?_ ?_ hgive ?_ ?_ ?_
  · rintro W o ⟨en, row, h1, h2, h3, h4⟩
    exact ⟨en, row, h1, h2, h3, h4.alloc o⟩
  · rintro k W l o o' ⟨en, row, h1, h2, h3, h4⟩ hl _ _
    exact ⟨en, row, h1, h2, h3, h4.putObj (by omega) (by omega) l o' hl⟩
  · refine ⟨en0, List.replicate s.length (-1), rfl, rfl, List.length_replicate .., ?_⟩
    have r7 := Kd.R_below (Kd.R_below (Kd.R_below (Kd.R_bound R7.out) BB8.out) BB9.out) BB11.out
    have r9 := Kd.R_below (Kd.R_bound R9.out) BB11.out
    refine ⟨grown_below (BB9.out.trans (BB11.out.mono BB9.out.size)) _, by omega, z11, ?_, ?_⟩
    · rw [List.length_replicate]; exact Kd.R_mono r7 (fun k hk => by have := hk.2.2.1; omega)
    · exact Kd.R_mono r9 (fun k hk => by have := hk.2.1; have := hk.2.2.1; omega)
  · intro l k W K hK
    dsimp only [bk]
    generalize ((first.length - 1 - k : Nat) : Int) = p at *
    generalize first[first.length - 1 - k]?.getD 0 = x at *
    gi_wp2
    exact hK
  · rintro l k W hk ⟨en, row, hla, hl1, hl2, hL⟩
    obtain ⟨y, hy1, hy2⟩ := lastAll_step (by rw [List.length_reverse]; exact hk) HALL.out hla
    rw [List.getElem?_reverse hk] at hy1
    have x9 := blk_cell ((hL.gr.block (w7.heap.size + 1) (by omega) (fun e => by cases e; omega)).trans HX.out) 0
    have z9 := blk_cell hL.z 0
    have hS := S8.out
    rw [← hl2] at hS
    have cL := LI.last (bf := bf) (Bs := w9.heap.size + 1) hS hL (by omega) (by omega) (by omega) (by omega) (by omega) (by omega) (fun ad e h => by
      have : ad.block < w.heap.size := by subst e; exact Kd.C_lt HS.out hs0 (by decide)
      omega) hf1 hf2 (by omega) (by omega) hf3 (by omega) hy1
    generalize ((first.length - 1 - k : Nat) : Int) = p at *
    generalize first[first.length - 1 - k]?.getD 0 = x at *
    rw [hl1] at cL z9
    have HY2 := Go.Lib.hid hy2
    have HL1 := Go.Lib.hid hl1
    have HL2 := Go.Lib.hid hl2
    clear hy1 hy2 hla hL hS hl1 hl2
    gi_wp2_with (fail)
    refine ⟨trivial, fun _ => by omega, (CallsIn.inRound l (callsIn_wide.2 cL)).mono ?_⟩
    clear cL
    rintro e W' ⟨rfl, hr1, hr2, hkf, hk2, hL'⟩
    have HKF := Aside0.mk hkf
    have HK2 := Aside0.mk hk2
    have HLI := Aside0.mk hL'
    clear hkf hk2 hL'
    gi_wp2_with (fail)
    have a1 := HKF.out
    have a2 := HLI.out
    rw [s11] at a1 a2
    rw [l8] at a2
    exact ⟨a1, HK2.out, y.1, y.2, HY2.out, hr2, hr1.trans HL2.out, a2⟩
  · rintro D W hD ⟨en, row, hla, hl1, hl2, hL⟩ hDd
    have hla2 : some (en1, row1) = some (en, row) := by
      rw [← HALL.out, ← hla, List.take_of_length_le (by rw [List.length_reverse]; exact Nat.le_refl _)]
    cases hla2
    have x9 := blk_cell ((hL.gr.block (w7.heap.size + 1) (by omega) (fun e => by cases e; omega)).trans HX.out) 0
    have hS := S8.out.move hL.gr
    rw [← hl2] at hS
    have cL := large_calls hS hL.rr (fun W h => HST.out W Ac cc HCC.out h) HL0.out HLA.out (by omega) (by omega) hml
    gi_wp2_with (fail)
    refine ⟨trivial, (callsIn_wide.2 cL).mono ?_⟩
    clear cL
    rintro e W2 ⟨rfl, r2, hr2, g2⟩
    have G2 := grown_trans hL.gr g2 (fun b e => .inr (by rw [e]))
    have hS2 := S8.out.move G2
    rw [← hl2, ← hr2] at hS2
    have x92 := blk_cell ((G2.block (w7.heap.size + 1) (by omega) (fun e => by cases e; omega)).trans HX.out) 0
    have cM := smalls_calls hS2 r2 henl (fun ad e => by
      have : ad.block < w.heap.size := by subst e; exact Kd.C_lt HS.out hs0 (by decide)
      have := G2.size
      omega) (fun W h => (ends_calls h HSL.out hco hcol (fun W h => HST.out W Ac cc HCC.out h)).mono (fun e W' ⟨v, e1, e2, e3⟩ => ⟨v, e1, by rw [HEN.out] at e2; exact e2, e3⟩)) HCL.out HSML.out (by omega) (by omega) hml
    have R2 := Aside0.mk r2
    have GG2 := Aside0.mk G2
    have hD2 : W2.heap[D]? = some (.deferred (some [])) := (g2.block D (Array.getElem?_eq_some_iff.1 hDd).1 (fun e => by cases e; omega)).trans hDd
    have hDb : D ≠ br := by omega
    clear hS2 r2 g2 G2 hS hL hDd
    gi_wp2_with (fail)
    refine ⟨trivial, (callsIn_wide.2 cM).mono ?_⟩
    clear cM
    rintro e W3 ⟨rfl, r3, hr3, g3⟩
    have G3 := grown_trans GG2.out g3 (fun b e => .inr (by rw [e]))
    have hD3 : W3.heap[D]? = some (.deferred (some [])) := (g3.block D (Array.getElem?_eq_some_iff.1 hD2).1 (fun e => hDb (by cases e; rfl))).trans hD2
    have x93 := blk_cell ((G3.block (w7.heap.size + 1) (by omega) (fun e => by cases e; omega)).trans HX.out) 0
    obtain ⟨_, _, _, q3⟩ := (S8.out.move G3).cells
    rw [← hl2, ← hr2, ← hr3] at q3
    have R3' := Aside0.mk r3
    have BF : Aside0 (Below w.heap.size w W3) := ⟨(B7.out.trans (BB8.out.mono B7.out.size)).grown G3 (by omega) (fun k e => by cases e; omega)⟩
    have HD := Go.Lib.hid hD3
    clear r3 g3 G3 hD2 hD3
    gi_wp2_with (fail)
    have hs3 : row3.length = s.length := by rw [hr3, hr2, hl2]
    refine ⟨by simp, .inl ⟨_, _, rfl, run_takeDeferred HD.out, ?_⟩⟩
    refine ⟨_, results_tmp2 rfl _ _ _, .slice (some ⟨br, 0, none⟩) s.length cr, rfl, ?_, ?_⟩
    · have r := R3'.out
      rw [hs3] at r
      exact Kd.R_mono (Kd.R_lower (Kd.R_step r (fun k hk _ => World.putObj_heap_other (by have := hk.1; omega))) l6) (fun _ _ => trivial)
    · exact BF.out.grown (grownBy_putObj' W3 D _) BF.out.size (fun k e => by cases e; omega)
set_option maxRecDepth 100000 in
set_option maxHeartbeats 4000000 in
theorem sort_empty (n : Nat) (hn : 6 ≤ n) {w : World} {As Af : Option Addr} {cs cf : Nat} {s first co fs ri : List Int} {k : Int}
    (hs : Kd.C (Kd.int .i64) w As s.length s) (hf : Kd.C (Kd.int .i64) w Af first.length first) (hfl : first.length ≤ 1000000) (hs0 : s.length = 0) (hri : first.mergeSort (fun x y => decide (x ≤ y)) = ri)
    (hCounts : ∀ W, Kd.C (Kd.int .i64) W As s.length s → Calls Try.prog 17 #[.slice As s.length cs, .int .i64 k] W fun e W' => ∃ v, e = .returned (.tuple #[v, .bool true]) ∧ Kd.R (Kd.int .i64) 3 W' W.heap.size (fun _ => True) v co ∧ Below W.heap.size W W')
    (hFirst : ∀ W, Kd.C (Kd.int .i64) W As s.length s → Calls Try.prog 27 #[.slice As s.length cs] W fun e W' => ∃ v, e = .returned v ∧ Kd.R (Kd.int .i64) 3 W' W.heap.size (fun _ => True) v fs ∧ Below W.heap.size W W')
        (hEq : ∀ W A B c d, ri.length ≤ c → fs.length ≤ d → Kd.C (Kd.int .i64) W A ri.length ri → Kd.C (Kd.int .i64) W B fs.length fs →
      Calls Try.prog 25 #[.slice A ri.length c, .slice B fs.length d] W fun e W' => e = .returned (.bool true) ∧ Drawn0 W W') :
    CallsIn Fence.wide n Try.prog 28 #[.slice As s.length cs, .int .i64 k, .slice Af first.length cf] w fun e w' => ∃ v, e = .returned (.tuple #[v, .bool true]) ∧ Kd.R (Kd.int .i64) 3 w' w.heap.size (fun _ => True) v [] ∧ Below w.heap.size w w' := by
  have h1 : 1 ≤ n := by omega
  refine callsIn_of_wp_marks Try.func28 rfl trivial ?_ rfl
  simp only [Try.ntmps28, List.size_toArray, List.length_cons, List.length_nil, Nat.reduceAdd, Nat.reduceSub, Array.replicate_succ, Array.replicate_zero, List.push_toArray, List.append_toArray, List.nil_append, List.cons_append]
  have CS := Aside0.mk (hCounts w hs)
  have HS := Aside0.mk hs
  have HF := Aside0.mk hf
  have HFI := Aside0.mk hFirst
  have HEQ := Aside0.mk hEq
  have HRI := Go.Lib.hid hri
  have HS0 := Go.Lib.hid hs0
  clear hs0 hri hs hf hCounts hFirst hEq
  gi_wp2_with (fail)
  refine ⟨trivial, (callsIn_wide.2 CS.out).mono ?_⟩
  rintro e w1 ⟨v1, rfl, r1, b1⟩
  obtain ⟨Ac, cc, rfl, hcc, _⟩ := Kd.R_reads r1
  have R1 := Aside0.mk r1
  have HCC := Go.Lib.hid hcc
  clear hcc
  have B1 := Aside0.mk b1
  clear r1 b1
  gi_wp2_with (fail)
  refine ⟨trivial, (callsIn_wide.2 (values_calls _ _ _ _)).mono ?_⟩
  rintro e w2 ⟨rfl, ew2⟩
  have bB2 : Below w1.heap.size w1 w2 := by rw [ew2]; exact (Below.refl _ w1).alloc (Nat.le_refl _) _
  have hc2 : w2.cell? ⟨w1.heap.size, 0, none⟩ = some (.slice Af first.length cf) := by rw [ew2]; exact (Boxed.new w1 23 (.slice Af first.length cf)).cell
  have hs2 : w1.heap.size < w2.heap.size := by rw [ew2]; simp
  clear ew2
  have cI := C_Ints (c := cf) (Kd.C_below HF.out (B1.out.trans (bB2.mono B1.out.size))) (Nat.le_refl _)
  have cS := sorted_calls w1.heap.size (.slice Af first.length cf) first (by have : maxLen = 9223372036854775807 := rfl; omega) (by omega) w2 hs2 hc2 cI
  have B2 := Aside0.mk (B1.out.trans (bB2.mono B1.out.size))
  have BB2 := Aside0.mk bB2
  clear bB2 cI hc2 hs2
  gi_wp2_with (fail)
  refine ⟨trivial, (callsIn_wide.2 cS).mono ?_⟩
  clear cS
  rintro e w3 ⟨v3, rfl, o3, _, b3⟩
  have r3 := R_sorted o3
  rw [HRI.out] at r3
  obtain ⟨A3, c3, rfl, hc3, _⟩ := Kd.R_reads r3
  have R3 := Aside0.mk r3
  have HC3 := Go.Lib.hid hc3
  clear hc3
  have BB3 := Aside0.mk b3
  have B3 := Aside0.mk (B2.out.trans (b3.mono B2.out.size))
  clear r3 b3 o3
  gi_wp2_with (fail)
  have bw3 : Below w.heap.size w w3 := B3.out
  refine ⟨trivial, (callsIn_wide.2 (HFI.out w3 (Kd.C_below HS.out bw3))).mono ?_⟩
  rintro e w4 ⟨v4, rfl, r4, b4⟩
  obtain ⟨A4, c4, rfl, hc4, _⟩ := Kd.R_reads r4
  have R4 := Aside0.mk r4
  have HC4 := Go.Lib.hid hc4
  clear hc4
  have BB4 := Aside0.mk b4
  have B4 := Aside0.mk (B3.out.trans (b4.mono B3.out.size))
  clear r4 b4 bw3
  gi_wp2_with (fail)
  have f3 := Kd.C_below (Kd.F_now (Kd.R_F R3.out)) BB4.out
  have f4 := Kd.F_now (Kd.R_F R4.out)
  have cE := HEQ.out w4 A3 A4 c3 c4 HC3.out HC4.out f3 f4
  clear f3 f4
  refine ⟨trivial, (callsIn_wide.2 cE).mono ?_⟩
  clear cE
  rintro e w5 ⟨rfl, ⟨m5, rfl⟩⟩
  have b5 : Below w4.heap.size w4 (w4.drewN m5) := pw_below_drewN (Below.refl _ _) m5
  have BB5 := Aside0.mk b5
  have B5 := Aside0.mk (B4.out.trans (b5.mono B4.out.size))
  generalize w4.drewN m5 = w5 at *
  clear b5
  have hs0 := HS0.out
  gi_wp2_with (fail)
  have l5 := B5.out.size
  have bb5 := B5.out
  refine ⟨_, results_tmp2 rfl _ _ _, .slice (some ⟨w5.heap.size, 0, none⟩) 0 0, rfl, ?_, bb5.alloc (by omega) _⟩
  exact Re.R_fill (v := 0) (n := 0) (g := w5.heap.size) (World.alloc_heap_new w5 _) (by omega) (by decide)
def sortL (s first co : List Int) (sm : List Bool) (st : List Int) : Option (List Int) :=
  (lastAll s first.reverse (endsL co co.length 0 st) (List.replicate s.length (-1))).bind fun x =>
  (firstF s st x.2 ((s.length : Int) - 1)).bind fun y =>
  (largeL s sm x.2.length 0 y.1 y.2).bind fun r =>
  (clearL sm r.length 0 r).bind fun c => smallL s sm r.length (endsL co co.length 0 st) c
theorem sort_calls {w : World} {As Af : Option Addr} {cs cf : Nat} {s first co fs st row3 ri : List Int} {sm : List Bool} {k : Int}
    (hs : Kd.C (Kd.int .i64) w As s.length s) (hf : Kd.C (Kd.int .i64) w Af first.length first) (hfl : first.length ≤ 1000000) (hs0 : 0 < s.length) (hsl : s.length ≤ 1000000) (hstl : st.length = co.length) (hco : 0 < co.length) (hcol : co.length < 4611686018427387904) (hml : sm.length < 4611686018427387904)
    (hall : sortL s first co sm st = some row3) (hri : first.mergeSort (fun x y => decide (x ≤ y)) = ri)
    (hCounts : ∀ W, Kd.C (Kd.int .i64) W As s.length s → Calls Try.prog 17 #[.slice As s.length cs, .int .i64 k] W fun e W' => ∃ v, e = .returned (.tuple #[v, .bool true]) ∧ Kd.R (Kd.int .i64) 3 W' W.heap.size (fun _ => True) v co ∧ Below W.heap.size W W')
    (hFirst : ∀ W, Kd.C (Kd.int .i64) W As s.length s → Calls Try.prog 27 #[.slice As s.length cs] W fun e W' => ∃ v, e = .returned v ∧ Kd.R (Kd.int .i64) 3 W' W.heap.size (fun _ => True) v fs ∧ Below W.heap.size W W')
    (hEq : ∀ W A B c d, ri.length ≤ c → fs.length ≤ d → Kd.C (Kd.int .i64) W A ri.length ri → Kd.C (Kd.int .i64) W B fs.length fs →
      Calls Try.prog 25 #[.slice A ri.length c, .slice B fs.length d] W fun e W' => e = .returned (.bool true) ∧ Drawn0 W W')
    (hSmall : ∀ W, Kd.C (Kd.int .i64) W As s.length s → Calls Try.prog 45 #[.slice As s.length cs] W fun e W' => ∃ v, e = .returned v ∧ Kd.R Kd.bool 4 W' W.heap.size (fun _ => True) v sm ∧ Below W.heap.size W W')
    (hStarts : ∀ W A c, co.length ≤ c → Kd.C (Kd.int .i64) W A co.length co → Calls Try.prog 35 #[.slice A co.length c] W fun e W' => ∃ v, e = .returned v ∧ Kd.R (Kd.int .i64) 3 W' W.heap.size (fun _ => True) v st ∧ Below W.heap.size W W') :
    Calls Try.prog 28 #[.slice As s.length cs, .int .i64 k, .slice Af first.length cf] w fun e w' => ∃ v, e = .returned (.tuple #[v, .bool true]) ∧ Kd.R (Kd.int .i64) 3 w' w.heap.size (fun _ => True) v row3 ∧ Below w.heap.size w w' := by
  unfold sortL at hall
  cases h1 : lastAll s first.reverse (endsL co co.length 0 st) (List.replicate s.length (-1)) with
  | none => rw [h1] at hall; simp at hall
  | some x =>
    rw [h1, Option.bind_some] at hall
    cases h2 : firstF s st x.2 ((s.length : Int) - 1) with
    | none => rw [h2] at hall; simp at hall
    | some y =>
      rw [h2, Option.bind_some] at hall
      cases h3 : largeL s sm x.2.length 0 y.1 y.2 with
      | none => rw [h3] at hall; simp at hall
      | some r =>
        rw [h3, Option.bind_some] at hall
        cases h4 : clearL sm r.length 0 r with
        | none => rw [h4] at hall; simp at hall
        | some c =>
          rw [h4, Option.bind_some] at hall
          exact (callsIn_wide (n := 6)).1 (sort_main 6 (by omega) hs hf hfl hs0 hsl hstl hco hcol (by rw [endsL_length, hstl]; exact hco) rfl h2 h3 hml h4 hall h1 hCounts hFirst hri hEq hSmall hStarts)
end Go.Proofs.Ytbbpplnnegdenaa.St
end
section
set_option linter.unusedVariables false
namespace Go.Proofs.Ytbbpplnnegdenaa.Rk
open Go Go.RowKit Go.Shelf Go.Proofs Go.Proofs.YtbbpplnnegdenaaW.PrintWords Go.Proofs.Ytbbpplnnegdenaa.So Go.Proofs.Ytbbpplnnegdenaa.It Go.Proofs.Ytbbpplnnegdenaa.St
def ranksL (F : Int → Option (Int × Bool)) (s : List Int) : Nat → Nat → List Int → Option (List Int)
  | 0, _, l => some l
  | d + 1, i, l => (F (s.getD i 0)).bind fun r => ranksL F s d (i + 1) (l.set i r.1)
set_option maxHeartbeats 4000000 in
set_option maxRecDepth 100000 in
theorem ranks_calls {w : World} {As : Option Addr} {cs : Nat} {s od res : List Int} {F : Int → Option (Int × Bool)}
    (hs : Kd.C (Kd.int .i64) w As s.length s) (hsl : s.length ≤ 1000000) (hod : s.mergeSort (fun x y => decide (x ≤ y)) = od)
    (hBS : ∀ W A c x r1 r2, od.length ≤ c → Kd.C (Kd.int .i64) W A od.length od → F x = some (r1, r2) → Calls Try.prog 58 #[.slice A od.length c, .int .i64 x] W fun e W' => e = .returned (.tuple #[.int .i64 r1, .bool r2]) ∧ Drawn0 W W')
    (h : ranksL F s s.length 0 (List.replicate s.length 0) = some res) :
    Calls Try.prog 36 #[.slice As s.length cs] w fun e w' => ∃ v, e = .returned v ∧ Kd.R (Kd.int .i64) 3 w' w.heap.size (fun _ => True) v res ∧ Below w.heap.size w w' := by
  have HS := Aside0.mk hs
  have HOD := Go.Lib.hid hod
  have HBS := Aside0.mk hBS
  have HH := Go.Lib.hid h
  clear hs hod hBS h
  go_enter Try.func36, Try.ntmps36
  go_wp2_with (fail)
  refine (values_calls _ _ _ _).mono ?_
  rintro e w2 ⟨rfl, ew2⟩
  have bB2 : Below w.heap.size w w2 := by rw [ew2]; exact (Below.refl _ w).alloc (Nat.le_refl _) _
  have hc2 : w2.cell? ⟨w.heap.size, 0, none⟩ = some (.slice As s.length cs) := by rw [ew2]; exact (Boxed.new w 23 (.slice As s.length cs)).cell
  have hs2 : w.heap.size < w2.heap.size := by rw [ew2]; simp
  clear ew2
  have cI := C_Ints (c := cs) (Kd.C_below HS.out bB2) (Nat.le_refl _)
  have cS := sorted_calls w.heap.size (.slice As s.length cs) s (by have : maxLen = 9223372036854775807 := rfl; omega) (by omega) w2 hs2 hc2 cI
  have B2 := Aside0.mk bB2
  clear bB2 cI hc2 hs2
  go_wp2_with (fail)
  refine cS.mono ?_
  clear cS
  rintro e w3 ⟨v3, rfl, o3, _, b3⟩
  have r3 := R_sorted o3
  rw [HOD.out] at r3
  obtain ⟨A3, c3, rfl, hc3, _⟩ := Kd.R_reads r3
  obtain ⟨W1, hmk, hrow, hB1⟩ := Re.made w3 s.length (by omega)
  have R3 := Aside0.mk r3
  have HC3 := Go.Lib.hid hc3
  have B3 := Aside0.mk (B2.out.trans (b3.mono B2.out.size))
  have B31 := Aside0.mk hB1
  have HRW := Go.Lib.hid hrow
  clear r3 o3 b3 hc3 hB1 hrow
  go_wp2_with (fail)
  have R0 : Aside0 (Kd.R (Kd.int .i64) 3 W1 w3.heap.size (fun _ => True) (.slice (some ⟨w3.heap.size, 0, none⟩) (List.replicate s.length (0 : Int)).length s.length) (List.replicate s.length 0)) := by
    refine ⟨?_⟩
    rw [List.length_replicate]
    refine Re.R_fill (v := 0) ?_ (Nat.le_refl _) (by have : maxLen = 9223372036854775807 := rfl; omega)
    have e : Re.fill 0 s.length s.length = Re.fill 0 0 s.length := by simp [Re.fill]
    rw [e]; exact HRW.out
  clear hmk HRW
  go_loopw [15] (fun v15 wr => ∃ (i : Nat) (lx : List Int), v15 = .int .i64 i ∧ Aside0 (i ≤ s.length) ∧ Hid (ranksL F s (s.length - i) i lx = some res) ∧ Aside0 (Kd.R (Kd.int .i64) 3 wr w3.heap.size (fun _ => True) (.slice (some ⟨w3.heap.size, 0, none⟩) lx.length s.length) lx) ∧
      Hid (lx.length = s.length) ∧ Aside0 (Below w3.heap.size w3 wr))
    (fun v15 _ => s.length - (intOf v15).toNat)
  case atStart => exact ⟨0, List.replicate s.length 0, rfl, ⟨Nat.zero_le _⟩, HH, R0, Go.Lib.hid (List.length_replicate ..), B31⟩
  case round =>
    obtain ⟨i, lx, rfl, hi, hF, hR, hl, hB⟩ := hrel
    by_cases hlt : i < s.length
    · have hF2 := hF.out
      rw [show s.length - i = (s.length - (i + 1)) + 1 by omega, ranksL] at hF2
      obtain ⟨x, hx⟩ : ∃ x, s.getD i 0 = x := ⟨_, rfl⟩
      rw [hx] at hF2
      cases hFx : F x with
      | none => rw [hFx] at hF2; simp at hF2
      | some r =>
        obtain ⟨r1, r2⟩ := r
        rw [hFx, Option.bind_some] at hF2
        obtain ⟨ads, hAs, hcc⟩ := Kd.at_int (Kd.C_below HS.out (B3.out.trans (hB.out.mono B3.out.size))) (i : Int) (by omega) (by omega)
        subst hAs
        rw [Int.toNat_natCast, show rd s (i : Int) = x by simp [rd]; rw [← hx, List.getD_eq_getElem?_getD]] at hcc
        have cB := HBS.out wr A3 c3 x r1 r2 HC3.out (Kd.C_below (Kd.F_now (Kd.R_F R3.out)) hB.out) hFx
        have HF2 := Go.Lib.hid hF2
        have HX := Go.Lib.hid hx
        clear hF2 hx hFx
        go_wp2_with (fail)
        (with_reducible refine cB.mono ?_)
        clear cB
        rintro e w5 ⟨rfl, ⟨m5, rfl⟩⟩
        have hR5 := Kd.R_drewN hR.out m5
        have hB5 : Below w3.heap.size w3 (wr.drewN m5) := pw_below_drewN hB.out m5
        generalize wr.drewN m5 = w5 at *
        obtain ⟨hcell, hfro⟩ := Kd.R_cell 0 hR5 (i : Int) (by omega) (by have := hl.out; omega)
        rw [Int.toNat_natCast] at hfro hcell
        have r1' := Kd.R_putg hR5 (i : Int) r1
        rw [Int.toNat_natCast] at r1'
        have R1 := Aside0.mk r1'.1
        have BB := Aside0.mk (hB5.grown r1'.2 hB5.size (fun k e => by cases e; exact Nat.le_refl _))
        have HL := Go.Lib.hid (show (lx.set i r1).length = s.length by rw [List.length_set]; exact hl.out)
        clear hcc r1' hR5 hB5
        go_wp2
        go_roundw
        case rel => exact ⟨i + 1, lx.set i r1, by go_num, ⟨by omega⟩, HF2, ⟨by rw [List.length_set]; exact R1.out⟩, HL, BB⟩
        case measure => simp [intOf]; omega
    · have hie : i = s.length := by have := hi.out; omega
      have hF2 := hF.out
      rw [hie, Nat.sub_self] at hF2
      obtain rfl : lx = res := by simpa [ranksL] using hF2
      have hge : s.length ≤ i := by omega
      have R3' := Aside0.mk hR.out
      clear hF hF2 hie
      go_wp2
      go_ret
      have r := R3'.out
      have b3 := B3.out
      have hb := hB.out
      rw [hl.out] at r
      exact ⟨_, rfl, Kd.R_lower r b3.size, b3.trans (hb.mono b3.size)⟩
end Go.Proofs.Ytbbpplnnegdenaa.Rk
end
section
set_option linter.unusedVariables false
namespace Go.Proofs.Ytbbpplnnegdenaa.Nm
open Go Go.RowKit Go.Shelf Go.Proofs Go.Proofs.YtbbpplnnegdenaaW.PrintWords Go.Proofs.YtbbpplnnegdenaaW.PrintLast Go.Proofs.YtbbpplnnegdenaaW.PrintMore Go.Proofs.Ytbbpplnnegdenaa.So Go.Proofs.Ytbbpplnnegdenaa.St
def pieceL (s nx : List Int) (i : Int) : Option (List Int) :=
  if 0 ≤ i ∧ i < nx.length then
    (if 0 ≤ nx.getD i.toNat 0 ∧ nx.getD i.toNat 0 < 4611686018427387904 ∧ i ≤ min (nx.getD i.toNat 0 + 1) s.length then some ((s.take (min (nx.getD i.toNat 0 + 1) s.length).toNat).drop i.toNat) else none) else none
set_option maxHeartbeats 4000000 in
set_option maxRecDepth 100000 in
theorem piece_calls {W : World} {As An : Option Addr} {cs cn : Nat} {s nx p : List Int} {i : Int}
    (hs : Kd.C (Kd.int .i64) W As s.length s) (hn : Kd.C (Kd.int .i64) W An nx.length nx) (hc : s.length ≤ cs) (hsl : s.length ≤ 1000000) (h : pieceL s nx i = some p) :
    Calls Try.prog 54 #[.slice As s.length cs, .slice An nx.length cn, .int .i64 i] W fun e W' => ∃ A c, e = .returned (.slice A p.length c) ∧ p.length ≤ c ∧ Kd.C (Kd.int .i64) W' A p.length p ∧ Drawn0 W W' := by
  unfold pieceL at h
  by_cases h1 : 0 ≤ i ∧ i < nx.length
  case neg => rw [if_neg h1] at h; exact absurd h (by simp)
  rw [if_pos h1] at h
  obtain ⟨adn, hAn, hcn⟩ := Kd.at_int hn i h1.1 h1.2
  subst hAn
  obtain ⟨x, hx⟩ : ∃ x, nx.getD i.toNat 0 = x := ⟨_, rfl⟩
  rw [hx] at h
  rw [show rd nx i = x from hx] at hcn
  by_cases h2 : 0 ≤ x ∧ x < 4611686018427387904 ∧ i ≤ min (x + 1) s.length
  case neg => rw [if_neg h2] at h; exact absurd h (by simp)
  rw [if_pos h2] at h
  have hp := Option.some.inj h
  clear h
  obtain ⟨i0, hi0, hz0, hz1, hz2⟩ := info_parts Re.info3
  have hm1 : min (x + 1) (s.length : Int) ≤ s.length := by omega
  have hcut := cut_mid (P := Try.prog) 23 3 .i64 .i64 Try.underlying23 hi0 1 hz1 As s.length cs i (min (x + 1) (s.length : Int)) h1.1 h2.2.2 hm1 hc
  have hmid := Kd.F_mid (lo := i.toNat) (hi := (min (x + 1) (s.length : Int)).toNat) (c := cs) (Kd.C_F (Kd.heap_int _) hs) (by omega) (by omega) hc
  have hpl : p.length = (min (x + 1) (s.length : Int)).toNat - i.toNat := by rw [← hp, List.length_drop, List.length_take]; omega
  have hpc : p.length ≤ cs - i.toNat := by omega
  rw [hp] at hmid
  obtain ⟨A', hA'⟩ : ∃ A', A' = (if cs = i.toNat then As else As.map (·.add (i.toNat * 1))) := ⟨_, rfl⟩
  obtain ⟨c', hc'⟩ : ∃ c', c' = cs - i.toNat := ⟨_, rfl⟩
  rw [← hpl, ← hA', ← hc'] at hcut
  rw [← hc'] at hpc
  replace hmid : Kd.C (Kd.int .i64) W A' p.length p := by rw [hA']; exact Kd.F_now hmid
  have HM := Aside0.mk hmid
  have HPC := Go.Lib.hid hpc
  have hw : wrap64 (x + 1) = x + 1 := by clear hcut hmid HM; unfold wrap64; omega
  have i0' := h1.1
  have i1' := h1.2
  have H2 := Go.Lib.hid h2
  clear hs hn hmid h1 h2 hx hp hA' hc' hpc hpl hm1 hz0 hz2 hz1 hi0 hc
  go_enter Try.func54, Try.ntmps54
  go_wp2_with (fail)
  go_ret
  exact ⟨A', c', rfl, HPC.out, HM.out, Drawn0.refl _⟩
def nextL (n : Int) (fi : List Int) : Nat → Nat → List Int → Option (List Int)
  | 0, _, nx => some nx
  | d + 1, i, nx => if 0 ≤ fi.getD i 0 ∧ fi.getD i 0 < nx.length then nextL n fi d (i + 1) (nx.set (fi.getD i 0).toNat (if i + 1 < fi.length then fi.getD (i + 1) 0 else n)) else none
def differL (E : List Int → List Int → Option Bool) (s nx : List Int) (last j : Int) : Option Bool :=
  if 0 ≤ last then (if nx.getD j.toNat 0 = s.length then some true else (if last < nx.length then (if nx.getD last.toNat 0 = s.length then some true else
    (pieceL s nx last).bind fun p => (pieceL s nx j).bind fun q => (E p q).bind fun b => some (!b)) else none)) else some false
def namesL (E : List Int → List Int → Option Bool) (s nx od : List Int) : Nat → Nat → List Int → Int → Int → Option (List Int × Int)
  | 0, _, nm, n, _ => some (nm, n)
  | d + 1, i, nm, n, last =>
    if 0 ≤ od.getD i 0 ∧ od.getD i 0 < nx.length then (if nx.getD (od.getD i 0).toNat 0 = 0 then namesL E s nx od d (i + 1) nm n last else
      (differL E s nx last (od.getD i 0)).bind fun b => if 0 ≤ n ∧ n < 1000000000 then namesL E s nx od d (i + 1) (nm.set (od.getD i 0).toNat (if b then n + 1 else n)) (if b then n + 1 else n) (od.getD i 0) else none) else none
def outL (nm fi : List Int) : Nat → Nat → List Int → Option (List Int)
  | 0, _, o => some o
  | d + 1, i, o => if 0 ≤ fi.getD i 0 ∧ fi.getD i 0 < nm.length then outL nm fi d (i + 1) (o ++ [nm.getD (fi.getD i 0).toNat 0]) else none
theorem nextL_length {n : Int} {fi : List Int} : ∀ {d i : Nat} {nx r : List Int}, nextL n fi d i nx = some r → r.length = nx.length
  | 0, _, _, _, h => by cases h; rfl
  | d + 1, i, nx, r, h => by
    unfold nextL at h
    by_cases c : 0 ≤ fi.getD i 0 ∧ fi.getD i 0 < nx.length
    · rw [if_pos c] at h; rw [nextL_length h, List.length_set]
    · rw [if_neg c] at h; simp at h
set_option maxHeartbeats 8000000 in
set_option maxRecDepth 100000 in
theorem named_calls {w : World} {As Af Ao : Option Addr} {cs cf cO : Nat} {s fi od nx nm out : List Int} {n0 : Int} {E : List Int → List Int → Option Bool}
    (hs : Kd.C (Kd.int .i64) w As s.length s) (hsc : s.length ≤ cs) (hf : Kd.C (Kd.int .i64) w Af fi.length fi) (ho : Kd.C (Kd.int .i64) w Ao od.length od) (hsl : s.length ≤ 1000000) (hfl : fi.length ≤ 1000000) (hol : od.length ≤ 1000000)
    (hE : ∀ W A B c d p q b, p.length ≤ c → q.length ≤ d → Kd.C (Kd.int .i64) W A p.length p → Kd.C (Kd.int .i64) W B q.length q → E p q = some b →
      Calls Try.prog 25 #[.slice A p.length c, .slice B q.length d] W fun e W' => e = .returned (.bool b) ∧ Drawn0 W W')
    (h1 : nextL s.length fi fi.length 0 (List.replicate s.length 0) = some nx) (h2 : namesL E s nx od od.length 0 (List.replicate s.length 0) 0 (-1) = some (nm, n0)) (h3 : outL nm fi fi.length 0 [] = some out) :
    Calls Try.prog 29 #[.slice As s.length cs, .slice Af fi.length cf, .slice Ao od.length cO] w fun e w' => ∃ v, e = .returned (.tuple #[v, .int .i64 (wrap64 (n0 + 1))]) ∧ Kd.R (Kd.int .i64) 3 w' w.heap.size (fun _ => True) v out ∧ Below w.heap.size w w' := by
  have hnl : nx.length = s.length := by rw [nextL_length h1, List.length_replicate]
  have HS := Aside0.mk hs
  have HF := Aside0.mk hf
  have HO := Aside0.mk ho
  have HE := Aside0.mk hE
  have H1 := Go.Lib.hid h1
  have H2 := Go.Lib.hid h2
  have H3 := Go.Lib.hid h3
  have HSC := Go.Lib.hid hsc
  have HNL := Go.Lib.hid hnl
  obtain ⟨W1, hmk, hrow, hB1⟩ := Re.made w s.length (by omega)
  have B1 := Aside0.mk hB1
  have R0 : Aside0 (Kd.R (Kd.int .i64) 3 W1 w.heap.size (fun _ => True) (.slice (some ⟨w.heap.size, 0, none⟩) (List.replicate s.length (0 : Int)).length s.length) (List.replicate s.length 0)) := by
    refine ⟨?_⟩
    rw [List.length_replicate]
    refine Re.R_fill (v := 0) ?_ (Nat.le_refl _) (by have : maxLen = 9223372036854775807 := rfl; omega)
    have e : Re.fill 0 s.length s.length = Re.fill 0 0 s.length := by simp [Re.fill]
    rw [e]; exact hrow
  clear hs hf ho hE h1 h2 h3 hsc hnl hrow hB1
  go_enter Try.func29, Try.ntmps29
  go_wp2_with (fail)
  clear hmk
  go_loopw [24] (fun v24 wr => ∃ (i : Nat) (lx : List Int), v24 = .int .i64 i ∧ Aside0 (i ≤ fi.length) ∧ Hid (nextL s.length fi (fi.length - i) i lx = some nx) ∧ Aside0 (Kd.R (Kd.int .i64) 3 wr w.heap.size (fun _ => True) (.slice (some ⟨w.heap.size, 0, none⟩) lx.length s.length) lx) ∧
      Hid (lx.length = s.length) ∧ Aside0 (Below w.heap.size w wr))
    (fun v24 _ => fi.length - (intOf v24).toNat)
  case atStart => exact ⟨0, List.replicate s.length 0, rfl, ⟨Nat.zero_le _⟩, H1, R0, Go.Lib.hid (List.length_replicate ..), B1⟩
  case round =>
    obtain ⟨i, lx, rfl, hi, hF, hR, hl, hB⟩ := hrel
    by_cases hlt : i < fi.length
    · have hF2 := hF.out
      rw [show fi.length - i = (fi.length - (i + 1)) + 1 by omega, nextL] at hF2
      obtain ⟨x, hx⟩ : ∃ x, fi.getD i 0 = x := ⟨_, rfl⟩
      rw [hx] at hF2
      by_cases hc : 0 ≤ x ∧ x < lx.length
      case neg => rw [if_neg hc] at hF2; exact absurd hF2 (by simp)
      rw [if_pos hc] at hF2
      have hlo := hl.out
      obtain ⟨adf, hAf, hcf⟩ := Kd.at_int (Kd.C_below HF.out hB.out) (i : Int) (by omega) (by omega)
      subst hAf
      rw [Int.toNat_natCast, show rd fi (i : Int) = x by simp [rd]; rw [← hx, List.getD_eq_getElem?_getD]] at hcf
      obtain ⟨m, rfl⟩ : ∃ m : Nat, x = (m : Int) := ⟨x.toNat, by omega⟩
      obtain ⟨hcell, hfro⟩ := Kd.R_cell 0 hR.out (m : Int) (by omega) (by omega)
      have r1 := Kd.R_putg hR.out (m : Int) (s.length : Int)
      have BB1 := hB.out.grown r1.2 hB.out.size (fun k e => by cases e; exact Nat.le_refl _)
      have hw : wrap64 ((i : Int) + 1) = (i : Int) + 1 := by unfold wrap64; omega
      rw [Int.toNat_natCast] at *
      have hms : m < s.length := by omega
      by_cases hn : i + 1 < fi.length
      · rw [if_pos hn] at hF2
        obtain ⟨y, hy⟩ : ∃ y, fi.getD (i + 1) 0 = y := ⟨_, rfl⟩
        rw [hy] at hF2
        obtain ⟨adf', hAf', hcf2⟩ := Kd.at_int (Kd.C_below HF.out BB1) ((i + 1 : Nat) : Int) (by omega) (by omega)
        cases hAf'
        rw [Int.toNat_natCast, show rd fi ((i + 1 : Nat) : Int) = y by simp only [rd]; rw [Int.toNat_natCast]; exact hy] at hcf2
        rw [show adf.add (i + 1) = ⟨adf.block, adf.off + (i + 1), none⟩ by unfold Addr.add; simp] at hcf2
        have h1' : (List.set lx m (s.length : Int)).length = lx.length := List.length_set
        have r1a := r1.1
        rw [← h1'] at r1a
        obtain ⟨hcell2, hfro2⟩ := Kd.R_cell 0 r1a (m : Int) (by omega) (by omega)
        have r2 := Kd.R_putg r1a (m : Int) y
        rw [Int.toNat_natCast] at hcell2 hfro2 r2
        rw [List.set_set, h1'] at r2
        have BB2 := BB1.grown r2.2 BB1.size (fun k e => by cases e; exact Nat.le_refl _)
        have R2 := Aside0.mk r2.1
        have BB := Aside0.mk BB2
        have HF2 := Go.Lib.hid hF2
        have HL := Go.Lib.hid (show (lx.set m y).length = s.length by rw [List.length_set]; exact hlo)
        clear r1 r1a r2 BB1 BB2 hF2 hy hx hF hR h1' hc
        go_wp2
        go_roundw
        case rel => exact ⟨i + 1, lx.set m y, by go_num, ⟨by omega⟩, HF2, ⟨by rw [List.length_set]; exact R2.out⟩, HL, BB⟩
        case measure => simp [intOf]; omega
      · rw [if_neg hn] at hF2
        have R2 := Aside0.mk r1.1
        have BB := Aside0.mk BB1
        have HF2 := Go.Lib.hid hF2
        have HL := Go.Lib.hid (show (lx.set m (s.length : Int)).length = s.length by rw [List.length_set]; exact hlo)
        have hn' : fi.length ≤ i + 1 := by omega
        clear r1 BB1 hF2 hx hF hR hc
        go_wp2
        go_roundw
        case rel => exact ⟨i + 1, lx.set m (s.length : Int), by go_num, ⟨by omega⟩, HF2, ⟨by rw [List.length_set]; exact R2.out⟩, HL, BB⟩
        case measure => simp [intOf]; omega
    · have hie : i = fi.length := by have := hi.out; omega
      have hF2 := hF.out
      rw [hie, Nat.sub_self] at hF2
      obtain rfl : nx = lx := by simpa [nextL] using hF2.symm
      have hge : fi.length ≤ i := by omega
      have RN := Aside0.mk hR.out
      have BN := Aside0.mk hB.out
      obtain ⟨W2, hmk2, hrow2, hB2⟩ := Re.made wr s.length (by omega)
      have B2 := Aside0.mk hB2
      have R02 : Aside0 (Kd.R (Kd.int .i64) 3 W2 wr.heap.size (fun _ => True) (.slice (some ⟨wr.heap.size, 0, none⟩) (List.replicate s.length (0 : Int)).length s.length) (List.replicate s.length 0)) := by
        refine ⟨?_⟩
        rw [List.length_replicate]
        refine Re.R_fill (v := 0) ?_ (Nat.le_refl _) (by have : maxLen = 9223372036854775807 := rfl; omega)
        have e : Re.fill 0 s.length s.length = Re.fill 0 0 s.length := by simp [Re.fill]
        rw [e]; exact hrow2
      clear hF hF2 hie hR hB hrow2 hB2 hl
      generalize wr = wz at *
      go_wp2_with (fail)
      clear hmk2
      go_loopw [53, 12, 13] (fun v53 v12 v13 wq => ∃ (i : Nat) (lx : List Int) (n last : Int), v53 = .int .i64 i ∧ v12 = .int .i64 n ∧ v13 = .int .i64 last ∧ Aside0 (i ≤ od.length) ∧ Hid (namesL E s nx od (od.length - i) i lx n last = some (nm, n0)) ∧ Aside0 (Kd.R (Kd.int .i64) 3 wq wz.heap.size (fun _ => True) (.slice (some ⟨wz.heap.size, 0, none⟩) lx.length s.length) lx) ∧
          Hid (lx.length = s.length) ∧ Aside0 (Below wz.heap.size wz wq) ∧ Aside0 (-1 ≤ last ∧ last < 1000000))
        (fun v53 _ _ _ => od.length - (intOf v53).toNat)
      case atStart => exact ⟨0, List.replicate s.length 0, 0, -1, rfl, rfl, rfl, ⟨Nat.zero_le _⟩, H2, R02, Go.Lib.hid (List.length_replicate ..), B2, ⟨by omega⟩⟩
      case round =>
        obtain ⟨i, lx, n, last, rfl, rfl, rfl, hi, hF, hR, hl, hB, hla⟩ := hrel
        by_cases hlt : i < od.length
        · have hF2 := hF.out
          rw [show od.length - i = (od.length - (i + 1)) + 1 by omega, namesL] at hF2
          obtain ⟨x, hx⟩ : ∃ x, od.getD i 0 = x := ⟨_, rfl⟩
          rw [hx] at hF2
          have hlo := hl.out
          have hnl := HNL.out
          by_cases hc : 0 ≤ x ∧ x < nx.length
          case neg => rw [if_neg hc] at hF2; exact absurd hF2 (by simp)
          rw [if_pos hc] at hF2
          obtain ⟨ado, hAo, hco⟩ := Kd.at_int (Kd.C_below HO.out (BN.out.trans (hB.out.mono BN.out.size))) (i : Int) (by omega) (by omega)
          subst hAo
          rw [Int.toNat_natCast, show rd od (i : Int) = x by simp [rd]; rw [← hx, List.getD_eq_getElem?_getD]] at hco
          obtain ⟨m, rfl⟩ : ∃ m : Nat, x = (m : Int) := ⟨x.toNat, by omega⟩
          rw [Int.toNat_natCast] at hF2
          have hms : m < s.length := by omega
          have hRN := Kd.R_below RN.out hB.out
          obtain ⟨y, hy⟩ : ∃ y, nx.getD m 0 = y := ⟨_, rfl⟩
          obtain ⟨hcN, _⟩ := Kd.R_cell 0 hRN (m : Int) (by omega) (by omega)
          rw [Int.toNat_natCast, show rdOf 0 nx (m : Int) = y by rw [← hy]; simp [rdOf]] at hcN
          rw [hy] at hF2
          have hw : wrap64 ((i : Int) + 1) = (i : Int) + 1 := by unfold wrap64; omega
          by_cases hz : y = 0
          · rw [if_pos hz] at hF2
            have HF2 := Go.Lib.hid hF2
            have BB := Aside0.mk hB.out
            subst hz
            clear hF2 hRN hx hF hc
            go_wp2
            go_roundw
            case rel => exact ⟨i + 1, lx, n, last, by go_num, rfl, rfl, ⟨by omega⟩, HF2, hR, hl, BB, hla⟩
            case measure => simp [intOf]; omega
          · rw [if_neg hz] at hF2
            cases hD : differL E s nx last (m : Int) with
            | none => rw [hD] at hF2; simp at hF2
            | some b =>
            rw [hD, Option.bind_some] at hF2
            by_cases hN : 0 ≤ n ∧ n < 1000000000
            case neg => rw [if_neg hN] at hF2; exact absurd hF2 (by simp)
            rw [if_pos hN] at hF2
            have hR0 := hR.out
            have hB0 := hB.out
            have hlaq := hla.out
            have hwn : wrap64 (n + 1) = n + 1 := by unfold wrap64; omega
            unfold differL at hD
            rw [Int.toNat_natCast, hy] at hD
            by_cases d1 : 0 ≤ last
            · rw [if_pos d1] at hD
              have d1' := decide_eq_true d1
              by_cases d2 : y = s.length
              · rw [if_pos d2] at hD
                obtain rfl := Option.some.inj hD
                rw [if_pos rfl] at hF2
                clear hD
                obtain ⟨hcM, hfM⟩ := Kd.R_cell 0 hR0 (m : Int) (by omega) (by omega)
                rw [Int.toNat_natCast] at hcM hfM
                have r1 := Kd.R_putg hR0 (m : Int) (n + 1)
                rw [Int.toNat_natCast] at r1
                have R1 := Aside0.mk r1.1
                have BB := Aside0.mk (hB0.grown r1.2 hB0.size (fun k e => by cases e; exact Nat.le_refl _))
                have HL := Go.Lib.hid (show (lx.set m (n + 1)).length = s.length by rw [List.length_set]; exact hlo)
                have HF2 := Go.Lib.hid hF2
                clear r1 hF2 hF hx hc hy
                go_wp2
                go_roundw
                case rel => exact ⟨i + 1, lx.set m (n + 1), (n + 1), m, by go_num, by go_num, rfl, ⟨by omega⟩, HF2, ⟨by rw [List.length_set]; exact R1.out⟩, HL, BB, ⟨by omega⟩⟩
                case measure => simp [intOf]; omega
              · rw [if_neg d2] at hD
                by_cases d3 : last < nx.length
                case neg => rw [if_neg d3] at hD; exact absurd hD (by simp)
                rw [if_pos d3] at hD
                obtain ⟨q, rfl⟩ : ∃ q : Nat, last = (q : Int) := ⟨last.toNat, by omega⟩
                rw [Int.toNat_natCast] at hD
                obtain ⟨z, hz2⟩ : ∃ z, nx.getD q 0 = z := ⟨_, rfl⟩
                obtain ⟨hcL, _⟩ := Kd.R_cell 0 hRN (q : Int) (by omega) (by omega)
                rw [Int.toNat_natCast, show rdOf 0 nx (q : Int) = z by rw [← hz2]; simp [rdOf]] at hcL
                rw [hz2] at hD
                have hqs : q < s.length := by omega
                by_cases d4 : z = s.length
                · rw [if_pos d4] at hD
                  obtain rfl := Option.some.inj hD
                  rw [if_pos rfl] at hF2
                  clear hD
                  obtain ⟨hcM, hfM⟩ := Kd.R_cell 0 hR0 (m : Int) (by omega) (by omega)
                  rw [Int.toNat_natCast] at hcM hfM
                  have r1 := Kd.R_putg hR0 (m : Int) (n + 1)
                  rw [Int.toNat_natCast] at r1
                  have R1 := Aside0.mk r1.1
                  have BB := Aside0.mk (hB0.grown r1.2 hB0.size (fun k e => by cases e; exact Nat.le_refl _))
                  have HL := Go.Lib.hid (show (lx.set m (n + 1)).length = s.length by rw [List.length_set]; exact hlo)
                  have HF2 := Go.Lib.hid hF2
                  clear r1 hF2 hF hx hc hy
                  go_wp2
                  go_roundw
                  case rel => exact ⟨i + 1, lx.set m (n + 1), (n + 1), m, by go_num, by go_num, rfl, ⟨by omega⟩, HF2, ⟨by rw [List.length_set]; exact R1.out⟩, HL, BB, ⟨by omega⟩⟩
                  case measure => simp [intOf]; omega
                · rw [if_neg d4] at hD
                  cases hp : pieceL s nx (q : Int) with
                  | none => rw [hp] at hD; simp at hD
                  | some p =>
                  rw [hp, Option.bind_some] at hD
                  cases hp2 : pieceL s nx (m : Int) with
                  | none => rw [hp2] at hD; simp at hD
                  | some p2 =>
                  rw [hp2, Option.bind_some] at hD
                  cases he : E p p2 with
                  | none => rw [he] at hD; simp at hD
                  | some eq =>
                  rw [he, Option.bind_some] at hD
                  obtain rfl := Option.some.inj hD
                  have cP := piece_calls (cs := cs) (cn := s.length) (Kd.C_below HS.out (BN.out.trans (hB0.mono BN.out.size))) (Kd.F_now (Kd.R_F hRN)) HSC.out hsl hp
                  rw [hnl] at cP
                  have HP2 := Go.Lib.hid hp2
                  have HE2 := Go.Lib.hid he
                  have HF2 := Go.Lib.hid hF2
                  have HY := Go.Lib.hid hy
                  have HZ := Go.Lib.hid hz2
                  clear hD hp hp2 he hF2 hy hz2 hx hF
                  go_wp2_with (fail)
                  (with_reducible refine cP.mono ?_)
                  clear cP
                  rintro e w5 ⟨A5, c5, rfl, hc5, C5, ⟨m5, rfl⟩⟩
                  have hB5 : Below wz.heap.size wz (wr.drewN m5) := pw_below_drewN hB0 m5
                  have hR5 := Kd.R_drewN hR0 m5
                  generalize wr.drewN m5 = w5 at *
                  have hRN5 := Kd.R_below RN.out hB5
                  have cP := piece_calls (cs := cs) (cn := s.length) (Kd.C_below HS.out (BN.out.trans (hB5.mono BN.out.size))) (Kd.F_now (Kd.R_F hRN5)) HSC.out hsl HP2.out
                  rw [hnl] at cP
                  have CC5 := Aside0.mk C5
                  have HC5 := Go.Lib.hid hc5
                  clear C5 hc5 hRN5
                  go_wp2_with (fail)
                  (with_reducible refine cP.mono ?_)
                  clear cP
                  rintro e w6 ⟨A6, c6, rfl, hc6, C6, ⟨m6, rfl⟩⟩
                  have C56 := Kd.C_drewN CC5.out m6
                  have hB6 : Below wz.heap.size wz (w5.drewN m6) := pw_below_drewN hB5 m6
                  have hR6 := Kd.R_drewN hR5 m6
                  generalize w5.drewN m6 = w6 at *
                  have cE := HE.out w6 A5 A6 c5 c6 p p2 eq HC5.out hc6 C56 C6 HE2.out
                  clear C56 C6 hc6
                  go_wp2_with (fail)
                  (with_reducible refine cE.mono ?_)
                  clear cE
                  rintro e w7 ⟨rfl, ⟨m7, rfl⟩⟩
                  have hB7 : Below wz.heap.size wz (w6.drewN m7) := pw_below_drewN hB6 m7
                  have hR7 := Kd.R_drewN hR6 m7
                  generalize w6.drewN m7 = w7 at *
                  have hF3 := HF2.out
                  clear HF2
                  have e1 : (y == (s.length : Int)) = false := by simp [d2]
                  have e2 : (z == (s.length : Int)) = false := by simp [d4]
                  cases eq with
                  | true =>
                    rw [if_neg (by simp)] at hF3
                    have HF2 := Go.Lib.hid hF3
                    clear hF3
                    obtain ⟨hcM, hfM⟩ := Kd.R_cell 0 hR7 (m : Int) (by omega) (by omega)
                    rw [Int.toNat_natCast] at hcM hfM
                    have r1 := Kd.R_putg hR7 (m : Int) n
                    rw [Int.toNat_natCast] at r1
                    have R1 := Aside0.mk r1.1
                    have BB := Aside0.mk (hB7.grown r1.2 hB7.size (fun k e => by cases e; exact Nat.le_refl _))
                    have HL := Go.Lib.hid (show (lx.set m n).length = s.length by rw [List.length_set]; exact hlo)
                    clear r1 hc
                    go_wp2
                    go_roundw
                    case rel => exact ⟨i + 1, lx.set m n, n, m, by go_num, by go_num, rfl, ⟨by omega⟩, HF2, ⟨by rw [List.length_set]; exact R1.out⟩, HL, BB, ⟨by omega⟩⟩
                    case measure => simp [intOf]; omega
                  | false =>
                    rw [if_pos (by simp)] at hF3
                    have HF2 := Go.Lib.hid hF3
                    clear hF3
                    obtain ⟨hcM, hfM⟩ := Kd.R_cell 0 hR7 (m : Int) (by omega) (by omega)
                    rw [Int.toNat_natCast] at hcM hfM
                    have r1 := Kd.R_putg hR7 (m : Int) (n + 1)
                    rw [Int.toNat_natCast] at r1
                    have R1 := Aside0.mk r1.1
                    have BB := Aside0.mk (hB7.grown r1.2 hB7.size (fun k e => by cases e; exact Nat.le_refl _))
                    have HL := Go.Lib.hid (show (lx.set m (n + 1)).length = s.length by rw [List.length_set]; exact hlo)
                    clear r1 hc
                    go_wp2
                    go_roundw
                    case rel => exact ⟨i + 1, lx.set m (n + 1), (n + 1), m, by go_num, by go_num, rfl, ⟨by omega⟩, HF2, ⟨by rw [List.length_set]; exact R1.out⟩, HL, BB, ⟨by omega⟩⟩
                    case measure => simp [intOf]; omega
            · rw [if_neg d1] at hD
              obtain rfl := Option.some.inj hD
              rw [if_neg (by simp)] at hF2
              have d1' : last < 0 := by omega
              clear hD
              obtain ⟨hcM, hfM⟩ := Kd.R_cell 0 hR0 (m : Int) (by omega) (by omega)
              rw [Int.toNat_natCast] at hcM hfM
              have r1 := Kd.R_putg hR0 (m : Int) n
              rw [Int.toNat_natCast] at r1
              have R1 := Aside0.mk r1.1
              have BB := Aside0.mk (hB0.grown r1.2 hB0.size (fun k e => by cases e; exact Nat.le_refl _))
              have HL := Go.Lib.hid (show (lx.set m n).length = s.length by rw [List.length_set]; exact hlo)
              have HF2 := Go.Lib.hid hF2
              clear r1 hF2 hF hx hc hy
              go_wp2
              go_roundw
              case rel => exact ⟨i + 1, lx.set m n, n, m, by go_num, by go_num, rfl, ⟨by omega⟩, HF2, ⟨by rw [List.length_set]; exact R1.out⟩, HL, BB, ⟨by omega⟩⟩
              case measure => simp [intOf]; omega
        · have hie : i = od.length := by have := hi.out; omega
          have hF2 := hF.out
          rw [hie, Nat.sub_self] at hF2
          have hF3 : some (lx, n) = some (nm, n0) := hF2
          cases hF3
          have hge2 : od.length ≤ i := by omega
          have RM := Aside0.mk hR.out
          have BM := Aside0.mk (BN.out.trans (hB.out.mono BN.out.size))
          have HLM := Go.Lib.hid hl.out
          clear hF hF2 hie hR hB hl hla
          generalize wr = wt at *
          go_wp2_with (fail)
          go_loopw [104, 16] (fun v104 v16 wq => ∃ (i : Nat) (o : List Int), v104 = .int .i64 i ∧ Aside0 (i ≤ fi.length) ∧ Hid (outL nm fi (fi.length - i) i o = some out) ∧ Aside0 (Kd.R (Kd.int .i64) 3 wq wt.heap.size (fun _ => True) v16 o) ∧
              Hid (o.length = i) ∧ Aside0 (Below wt.heap.size wt wq))
            (fun v104 _ _ => fi.length - (intOf v104).toNat)
          case atStart => exact ⟨0, [], rfl, ⟨Nat.zero_le _⟩, H3, ⟨Kd.R_nil _ _ _ _ _⟩, Go.Lib.hid rfl, ⟨Below.refl _ _⟩⟩
          case round =>
            obtain ⟨i, o, rfl, hi, hF, hR, hl, hB⟩ := hrel
            by_cases hlt : i < fi.length
            · have hF2 := hF.out
              rw [show fi.length - i = (fi.length - (i + 1)) + 1 by omega, outL] at hF2
              obtain ⟨x, hx⟩ : ∃ x, fi.getD i 0 = x := ⟨_, rfl⟩
              rw [hx] at hF2
              have hlm := HLM.out
              by_cases hc : 0 ≤ x ∧ x < nm.length
              case neg => rw [if_neg hc] at hF2; exact absurd hF2 (by simp)
              rw [if_pos hc] at hF2
              have hB4 := hB.out
              obtain ⟨adf, hAf, hcf⟩ := Kd.at_int (Kd.C_below HF.out (BM.out.trans (hB4.mono BM.out.size))) (i : Int) (by omega) (by omega)
              subst hAf
              rw [Int.toNat_natCast, show rd fi (i : Int) = x by simp [rd]; rw [← hx, List.getD_eq_getElem?_getD]] at hcf
              obtain ⟨m, rfl⟩ : ∃ m : Nat, x = (m : Int) := ⟨x.toNat, by omega⟩
              rw [Int.toNat_natCast] at hF2
              have hms : m < s.length := by omega
              have hRM := Kd.R_below RM.out hB4
              obtain ⟨y, hy⟩ : ∃ y, nm.getD m 0 = y := ⟨_, rfl⟩
              obtain ⟨hcN, _⟩ := Kd.R_cell 0 hRM (m : Int) (by omega) (by omega)
              rw [Int.toNat_natCast, show rdOf 0 nm (m : Int) = y by rw [← hy]; simp [rdOf]] at hcN
              rw [hy] at hF2
              have HF2 := Go.Lib.hid hF2
              clear hF2 hF hx hy hRM hc
              go_wp2_with ((with_reducible refine gate_builtin (b := .append) (xs := #[.tmp 108, .tmp 113]) rfl ?_); at_builtin; refine Kd.R_append (Kd.int .i64) (w0 := wt) wt.heap.size rfl (.tmp 108) (.tmp 113) 23 3 (.int .i64 0) 8 rfl Try.underlying23 Re.info3 rfl (by decide) (by omega) _ o y [.int .i64 y] (fun _ => True) (fun _ => False) rfl rfl ?aP (fun _ hk => hk.elim) ?aF ?aO ?aB ?aS ?aL ?_; (case aP => exact rfl); (case aB => exact hB.out); (case aF => exact (fun _ _ => trivial)); (case aO => exact hR.out); (case aS => exact hB.out.size); (case aL => have := hl.out; omega); intro v124 w18 ho hb hg hat; have RO := Aside0.mk ho; have BO := Aside0.mk hb; clear ho hb hg hat)
              go_roundw
              case rel => exact ⟨i + 1, o ++ [y], by go_num, ⟨by omega⟩, HF2, RO, Go.Lib.hid (by rw [List.length_append, hl.out]; rfl), BO⟩
              case measure => simp [intOf]; omega
            · have hie : i = fi.length := by have := hi.out; omega
              have hF2 := hF.out
              rw [hie, Nat.sub_self] at hF2
              obtain rfl : out = o := by simpa [outL] using hF2.symm
              have hge3 : fi.length ≤ i := by omega
              have R3 := Aside0.mk hR.out
              have B3 := Aside0.mk hB.out
              clear hF hF2 hie
              go_wp2
              refine bodyPost_ret (results_tmp2 rfl _ _ _) rfl ?_
              have r := R3.out
              have bm := BM.out
              have bb := B3.out
              exact ⟨_, rfl, Kd.R_lower r bm.size, bm.trans (bb.mono bm.size)⟩
end Go.Proofs.Ytbbpplnnegdenaa.Nm
end
section
set_option linter.unusedVariables false
namespace Go.Proofs.Ytbbpplnnegdenaa.Cr
open Go Go.RowKit Go.Shelf Go.Proofs Go.Proofs.YtbbpplnnegdenaaW.PrintWords Go.Proofs.Ytbbpplnnegdenaa.So Go.Proofs.Ytbbpplnnegdenaa.St
set_option maxHeartbeats 2000000 in
set_option maxRecDepth 100000 in
theorem new_calls (w : World) : Calls Try.prog 15 #[] w fun e w' => ∃ g, e = .returned (.pointer (some ⟨g, 0, none⟩)) ∧ w.heap.size ≤ g ∧ w'.heap[g]? = some (.cells #[.int .i64 0, .int .i64 0, .int .i64 0] 51 (0, 0)) ∧ Below w.heap.size w w' := by
  go_enter Try.func15, Try.ntmps15
  go_wp2
  go_ret
  exact ⟨w.heap.size, rfl, Nat.le_refl _, World.alloc_heap_new w _, (Below.refl _ w).alloc (Nat.le_refl _) _⟩
theorem set_grown (W : World) (g i : Nat) (v : Value) : W.grownBy (W.setCell ⟨g, i, none⟩ v) (some g) :=
  ⟨rfl, rfl, rfl, by simp [World.setCell], fun k _ hk => Below.heap_setCell _ _ _ _ (fun e => hk (by simp [e]))⟩
theorem set_same {W : World} {g i : Nat} {cs : Array Value} {T : TypeId} (h : W.heap[g]? = some (.cells cs T (0, 0))) (v : Value) : (W.setCell ⟨g, i, none⟩ v).heap[g]? = some (.cells (cs.setIfInBounds i v) T (0, 0)) := by
  simp [World.setCell, Array.getElem?_modify, h]
theorem add_run (w : World) (a : Addr) (x d : Int) (h : w.cell? a = some (.int .i64 x)) (hf : w.frozen? a = false) :
    (callFunc 60 #[.pointer (some a), .int .i64 d]).run Try.prog w = .ok (.value (.int .i64 (wrap64 (x + d)))) (w.setCell a (.int .i64 (wrap64 (x + d)))) := by
  rw [run_callFunc_extern (e := Go.Extern.Atomic.update (Op.intArith .add) .i64 true) Try.func60 (by kernel_rfl) (by kernel_rfl) (by rfl) (by rfl)]
  have e : Go.Extern.Atomic.update (Op.intArith .add) .i64 true #[.pointer (some a), .int .i64 d] = (do
      let a ← asAddr (.pointer (some a))
      let old ← Go.Extern.Atomic.read (.int .i64) a
      let new ← Op.intArith .add .i64 (← asInt old) (← asInt (.int .i64 d))
      store a new .atomic
      pure new) := rfl
  rw [e]
  have e2 : ∀ a, Go.Extern.Atomic.read (.int .i64) a = (do
      let v ← load a .atomic
      match Go.Extern.Atomic.T.int .i64, v with
      | .int k, .int k' _ => if k = k' then pure v else unsupported (.unsafePointer "atomic: a cell of another type")
      | .int .u64, .pointer (some _) => pure v
      | .ptr, .pointer _ => pure v
      | _, _ => unsupported (.unsafePointer "atomic: a cell of another type")) := fun a => rfl
  simp [e2, go_sem, h, hf]
  have hw : IntKind.i64.wrap (x + d) = wrap64 (x + d) := by
    unfold wrap64 IntKind.wrap
    simp only [show IntKind.i64.signed = true from rfl, show IntKind.i64.bits = 64 from rfl, Bool.true_and, decide_eq_true_eq, show (2 : Int) ^ 64 = 18446744073709551616 from rfl, show (2 : Int) ^ (64 - 1) = 9223372036854775808 from rfl]
    split <;> omega
  rw [hw]
  exact ⟨rfl, rfl⟩
set_option maxHeartbeats 2000000 in
set_option maxRecDepth 100000 in
theorem add_calls (w : World) (g i : Nat) (x d : Int) (h : w.cell? ⟨g, i, none⟩ = some (.int .i64 x)) (hf : w.frozen? ⟨g, i, none⟩ = false) :
    Calls Try.prog 38 #[.pointer (some ⟨g, i, none⟩), .int .i64 d] w fun e w' => e = .returned (.int .i64 (wrap64 (x + d))) ∧ w' = w.setCell ⟨g, i, none⟩ (.int .i64 (wrap64 (x + d))) := by
  have ha := add_run w ⟨g, i, none⟩ x d h hf
  go_enter Try.func38, Try.ntmps38
  go_wp2_with (fail)
  go_ret
  exact ⟨rfl, rfl⟩
set_option maxHeartbeats 4000000 in
set_option maxRecDepth 100000 in
theorem sort0_calls (w : World) (g : Nat) (x0 x1 x2 : Int) (A : Option Addr) (n c : Nat) (r : List Int) (hg : w.heap[g]? = some (.cells #[.int .i64 x0, .int .i64 x1, .int .i64 x2] 51 (0, 0)))
    (hS : Calls Try.prog 4 #[.slice A n c] w fun e w' => ∃ v, e = .returned (.tuple #[v, .int .i64 0]) ∧ Kd.R (Kd.int .i64) 3 w' w.heap.size (fun _ => True) v r ∧ Below w.heap.size w w') :
    Calls Try.prog 22 #[.pointer (some ⟨g, 0, none⟩), .int .i64 0, .slice A n c] w fun e w' => ∃ v, e = .returned (.tuple #[v, .int .i64 0]) ∧ Kd.R (Kd.int .i64) 3 w' w.heap.size (fun _ => True) v r ∧ w.grownBy w' (some g) ∧
      ∃ y0 y1 y2, w'.heap[g]? = some (.cells #[.int .i64 y0, .int .i64 y1, .int .i64 y2] 51 (0, 0)) := by
  have hgl : g < w.heap.size := blk_lt hg
  have HG := Go.Lib.hid hg
  clear hg
  go_enter Try.func22, Try.ntmps22
  have hix : (Instr.index 64 (.agg #[.func (.func 4) #[] #[], .func (.func 5) #[] #[], .func (.func 6) #[] #[]]) (.int .i64 0)).run Try.prog w = .ok (.func (.func 4) #[] #[]) w := rfl
  go_wp2_with (fail)
  (with_reducible refine hS.mono ?_)
  clear hS
  rintro e w1 ⟨v1, rfl, r1, b1⟩
  obtain ⟨A1, c1, rfl⟩ := Kd.R_slice r1
  have hg1 := (b1.block g hgl).trans HG.out
  have cA := add_calls w1 g 0 x0 1 (blk_cell hg1 0) (blk_frozen hg1 0)
  have R1 := Aside0.mk r1
  have B1 := Aside0.mk b1
  have HG1 := Go.Lib.hid hg1
  clear r1 b1 hg1
  go_wp2_with (fail)
  (with_reducible refine cA.mono ?_)
  clear cA
  rintro e w2 ⟨rfl, hw2⟩
  have hg2 : w2.heap[g]? = some (.cells (#[.int .i64 x0, .int .i64 x1, .int .i64 x2].setIfInBounds 0 (.int .i64 (wrap64 (x0 + 1)))) 51 (0, 0)) := by rw [hw2]; exact set_same HG1.out _
  have HG2 := Go.Lib.hid hg2
  have GR : Aside0 (w.grownBy w2 (some g)) := ⟨by rw [hw2]; exact grown_trans (grown_below B1.out (some g)) (set_grown w1 g 0 _) (fun b e => .inr (by rw [e]))⟩
  have RR : Aside0 (Kd.R (Kd.int .i64) 3 w2 w.heap.size (fun _ => True) (.slice A1 r.length c1) r) := ⟨by rw [hw2]; exact Kd.R_step (Kd.R_bound R1.out) (fun k hk _ => Below.heap_setCell w1 ⟨g, 0, none⟩ _ k (by have := hk.2.1; show k ≠ g; omega)) |> fun h => Kd.R_mono h (fun _ _ => trivial)⟩
  clear hw2 hg2
  go_wp2_with (fail)
  go_ret2
  exact ⟨_, rfl, RR.out, GR.out, _, _, _, HG2.out⟩
set_option maxHeartbeats 4000000 in
set_option maxRecDepth 100000 in
theorem sort1_calls (w : World) (g : Nat) (x0 x1 x2 : Int) (A : Option Addr) (n c : Nat) (r : List Int) (hg : w.heap[g]? = some (.cells #[.int .i64 x0, .int .i64 x1, .int .i64 x2] 51 (0, 0)))
    (hS : Calls Try.prog 5 #[.slice A n c] w fun e w' => ∃ v, e = .returned (.tuple #[v, .int .i64 0]) ∧ Kd.R (Kd.int .i64) 3 w' w.heap.size (fun _ => True) v r ∧ Below w.heap.size w w') :
    Calls Try.prog 22 #[.pointer (some ⟨g, 0, none⟩), .int .i64 1, .slice A n c] w fun e w' => ∃ v, e = .returned (.tuple #[v, .int .i64 0]) ∧ Kd.R (Kd.int .i64) 3 w' w.heap.size (fun _ => True) v r ∧ w.grownBy w' (some g) ∧
      ∃ y0 y1 y2, w'.heap[g]? = some (.cells #[.int .i64 y0, .int .i64 y1, .int .i64 y2] 51 (0, 0)) := by
  have hgl : g < w.heap.size := blk_lt hg
  have HG := Go.Lib.hid hg
  clear hg
  go_enter Try.func22, Try.ntmps22
  have hix : (Instr.index 64 (.agg #[.func (.func 4) #[] #[], .func (.func 5) #[] #[], .func (.func 6) #[] #[]]) (.int .i64 1)).run Try.prog w = .ok (.func (.func 5) #[] #[]) w := rfl
  go_wp2_with (fail)
  (with_reducible refine hS.mono ?_)
  clear hS
  rintro e w1 ⟨v1, rfl, r1, b1⟩
  obtain ⟨A1, c1, rfl⟩ := Kd.R_slice r1
  have hg1 := (b1.block g hgl).trans HG.out
  have cA := add_calls w1 g 1 x1 1 (blk_cell hg1 1) (blk_frozen hg1 1)
  have R1 := Aside0.mk r1
  have B1 := Aside0.mk b1
  have HG1 := Go.Lib.hid hg1
  clear r1 b1 hg1
  go_wp2_with (fail)
  (with_reducible refine cA.mono ?_)
  clear cA
  rintro e w2 ⟨rfl, hw2⟩
  have hg2 : w2.heap[g]? = some (.cells (#[.int .i64 x0, .int .i64 x1, .int .i64 x2].setIfInBounds 1 (.int .i64 (wrap64 (x1 + 1)))) 51 (0, 0)) := by rw [hw2]; exact set_same HG1.out _
  have HG2 := Go.Lib.hid hg2
  have GR : Aside0 (w.grownBy w2 (some g)) := ⟨by rw [hw2]; exact grown_trans (grown_below B1.out (some g)) (set_grown w1 g 1 _) (fun b e => .inr (by rw [e]))⟩
  have RR : Aside0 (Kd.R (Kd.int .i64) 3 w2 w.heap.size (fun _ => True) (.slice A1 r.length c1) r) := ⟨by rw [hw2]; exact Kd.R_step (Kd.R_bound R1.out) (fun k hk _ => Below.heap_setCell w1 ⟨g, 1, none⟩ _ k (by have := hk.2.1; show k ≠ g; omega)) |> fun h => Kd.R_mono h (fun _ _ => trivial)⟩
  clear hw2 hg2
  go_wp2_with (fail)
  go_ret2
  exact ⟨_, rfl, RR.out, GR.out, _, _, _, HG2.out⟩
set_option maxHeartbeats 4000000 in
set_option maxRecDepth 100000 in
theorem sort2_calls (w : World) (g : Nat) (x0 x1 x2 : Int) (A : Option Addr) (n c : Nat) (r : List Int) (hg : w.heap[g]? = some (.cells #[.int .i64 x0, .int .i64 x1, .int .i64 x2] 51 (0, 0)))
    (hS : Calls Try.prog 6 #[.slice A n c] w fun e w' => ∃ v, e = .returned (.tuple #[v, .int .i64 0]) ∧ Kd.R (Kd.int .i64) 3 w' w.heap.size (fun _ => True) v r ∧ Below w.heap.size w w') :
    Calls Try.prog 22 #[.pointer (some ⟨g, 0, none⟩), .int .i64 2, .slice A n c] w fun e w' => ∃ v, e = .returned (.tuple #[v, .int .i64 0]) ∧ Kd.R (Kd.int .i64) 3 w' w.heap.size (fun _ => True) v r ∧ w.grownBy w' (some g) ∧
      ∃ y0 y1 y2, w'.heap[g]? = some (.cells #[.int .i64 y0, .int .i64 y1, .int .i64 y2] 51 (0, 0)) := by
  have hgl : g < w.heap.size := blk_lt hg
  have HG := Go.Lib.hid hg
  clear hg
  go_enter Try.func22, Try.ntmps22
  have hix : (Instr.index 64 (.agg #[.func (.func 4) #[] #[], .func (.func 5) #[] #[], .func (.func 6) #[] #[]]) (.int .i64 2)).run Try.prog w = .ok (.func (.func 6) #[] #[]) w := rfl
  go_wp2_with (fail)
  (with_reducible refine hS.mono ?_)
  clear hS
  rintro e w1 ⟨v1, rfl, r1, b1⟩
  obtain ⟨A1, c1, rfl⟩ := Kd.R_slice r1
  have hg1 := (b1.block g hgl).trans HG.out
  have cA := add_calls w1 g 2 x2 1 (blk_cell hg1 2) (blk_frozen hg1 2)
  have R1 := Aside0.mk r1
  have B1 := Aside0.mk b1
  have HG1 := Go.Lib.hid hg1
  clear r1 b1 hg1
  go_wp2_with (fail)
  (with_reducible refine cA.mono ?_)
  clear cA
  rintro e w2 ⟨rfl, hw2⟩
  have hg2 : w2.heap[g]? = some (.cells (#[.int .i64 x0, .int .i64 x1, .int .i64 x2].setIfInBounds 2 (.int .i64 (wrap64 (x2 + 1)))) 51 (0, 0)) := by rw [hw2]; exact set_same HG1.out _
  have HG2 := Go.Lib.hid hg2
  have GR : Aside0 (w.grownBy w2 (some g)) := ⟨by rw [hw2]; exact grown_trans (grown_below B1.out (some g)) (set_grown w1 g 2 _) (fun b e => .inr (by rw [e]))⟩
  have RR : Aside0 (Kd.R (Kd.int .i64) 3 w2 w.heap.size (fun _ => True) (.slice A1 r.length c1) r) := ⟨by rw [hw2]; exact Kd.R_step (Kd.R_bound R1.out) (fun k hk _ => Below.heap_setCell w1 ⟨g, 2, none⟩ _ k (by have := hk.2.1; show k ≠ g; omega)) |> fun h => Kd.R_mono h (fun _ _ => trivial)⟩
  clear hw2 hg2
  go_wp2_with (fail)
  go_ret2
  exact ⟨_, rfl, RR.out, GR.out, _, _, _, HG2.out⟩
end Go.Proofs.Ytbbpplnnegdenaa.Cr
end
section
set_option linter.unusedVariables false
namespace Go.Proofs.Ytbbpplnnegdenaa.Rn
open Go Go.RowKit Go.Shelf Go.Proofs Go.Proofs.YtbbpplnnegdenaaW.PrintWords Go.Proofs.Ytbbpplnnegdenaa.So Go.Proofs.Ytbbpplnnegdenaa.St Go.Proofs.Ytbbpplnnegdenaa.Cr
abbrev SortsTo (F : Nat) (s r : List Int) : Prop := ∀ W A c, s.length ≤ c → Kd.C (Kd.int .u8) W A s.length s → Calls Try.prog F #[.slice A s.length c] W fun e W' => ∃ v, e = .returned (.tuple #[v, .int .i64 0]) ∧ Kd.R (Kd.int .i64) 3 W' W.heap.size (fun _ => True) v r ∧ Below W.heap.size W W'
abbrev LcpTo (F : Nat) (s r x : List Int) : Prop := ∀ W A c B d, s.length ≤ c → r.length ≤ d → Kd.C (Kd.int .u8) W A s.length s → Kd.C (Kd.int .i64) W B r.length r → Calls Try.prog F #[.slice A s.length c, .slice B r.length d] W fun e W' => ∃ v b, e = .returned (.tuple #[v, .bool b]) ∧ Kd.R (Kd.int .i64) 3 W' W.heap.size (fun _ => True) v x ∧ Below W.heap.size W W'
abbrev SameTo (r : List Int) : Prop := ∀ W A c B d, r.length ≤ c → r.length ≤ d → Kd.C (Kd.int .i64) W A r.length r → Kd.C (Kd.int .i64) W B r.length r → Calls Try.prog 25 #[.slice A r.length c, .slice B r.length d] W fun e W' => e = .returned (.bool true) ∧ Drawn0 W W'
theorem load38 (W : World) (b : Nat) (x y z : Value) (h0 : W.cell? ⟨b, 0, none⟩ = some x) (h1 : W.cell? ⟨b, 1, none⟩ = some y) (h2 : W.cell? ⟨b, 2, none⟩ = some z) : (loadVar 38 ⟨b, 0, none⟩).run Try.prog W = .ok (.agg #[x, y, z]) W := by
  go_simp
theorem results_cell {P : Program} {fn : Func} {a u : Tmp} {T : TypeId} {w : World} {v : Value} {ad : Addr} (h : fn.results = #[.cell a T, .tmp u]) (tmps : Array Value) (ha : tmps.getD a undef = .pointer (some ad)) (hl : (loadVar T ad).run P w = .ok v w) :
    (results fn tmps).run P w = .ok (.tuple #[v, tmps.getD u undef]) w := by
  have ha' : tmps[a]?.getD undef = .pointer (some ad) := by simpa using ha
  simp [results, h, ha', hl, asAddr]
structure RI (w : World) (g i : Nat) (r : List Int) (W : World) : Prop where
  gr : w.grownBy W (some g)
  sz : w.heap.size + 2 ≤ W.heap.size
  cg : ∃ y0 y1 y2, W.heap[g]? = some (.cells #[.int .i64 y0, .int .i64 y1, .int .i64 y2] 51 (0, 0))
  res : W.heap[w.heap.size]? = some (.cells #[.slice none 0 0, .slice none 0 0, .bool false] 38 (0, 0))
  l : ∃ v0 v1 v2, W.heap[w.heap.size + 1]? = some (.cells #[v0, v1, v2] 52 (0, 0)) ∧ (0 < i → Kd.R (Kd.int .i64) 3 W (w.heap.size + 2) (fun k => w.heap.size + 2 ≤ k) v0 r) ∧ (1 < i → Kd.R (Kd.int .i64) 3 W (w.heap.size + 2) (fun k => w.heap.size + 2 ≤ k) v1 r) ∧ (2 < i → Kd.R (Kd.int .i64) 3 W (w.heap.size + 2) (fun k => w.heap.size + 2 ≤ k) v2 r)
set_option maxHeartbeats 4000000 in
set_option maxRecDepth 100000 in
theorem run_calls (w : World) (g : Nat) (x0 x1 x2 : Int) (A : Option Addr) (c : Nat) (s r x : List Int) (hg : w.heap[g]? = some (.cells #[.int .i64 x0, .int .i64 x1, .int .i64 x2] 51 (0, 0)))
    (hs : Kd.C (Kd.int .u8) w A s.length s) (hsc : s.length ≤ c) (hAg : ∀ ad, A = some ad → ad.block ≠ g)
    (h4 : SortsTo 4 s r) (h5 : SortsTo 5 s r) (h6 : SortsTo 6 s r) (h23 : LcpTo 23 s r x) (h24 : LcpTo 24 s r x) (hr : SameTo r) (hx : SameTo x)
    (h26 : ∀ W A c B d C e, s.length ≤ c → r.length ≤ d → x.length ≤ e → Kd.C (Kd.int .u8) W A s.length s → Kd.C (Kd.int .i64) W B r.length r → Kd.C (Kd.int .i64) W C x.length x → Calls Try.prog 26 #[.slice A s.length c, .slice B r.length d, .slice C x.length e] W fun e W' => e = .returned (.bool true) ∧ Below W.heap.size W W') :
    Calls Try.prog 16 #[.pointer (some ⟨g, 0, none⟩), .slice A s.length c] w fun e w' => ∃ v Au nu cu, e = .returned (.tuple #[.agg #[v, .slice Au nu cu, .bool true], .int .i64 0]) ∧ Kd.R (Kd.int .i64) 3 w' w.heap.size (fun _ => True) v r ∧ w.grownBy w' (some g) := by
  go_enter Try.func16, Try.ntmps16
  go_wp2_with (fail)
  have hgl : g < w.heap.size := blk_lt hg
  obtain ⟨W0, hW0⟩ : ∃ W0, (w.alloc (.cells #[.slice none 0 0, .slice none 0 0, .bool false] 38)).alloc (.cells #[.slice none 0 0, .slice none 0 0, .slice none 0 0] 52) = W0 := ⟨_, rfl⟩
  have I0 : RI w g 0 r W0 := by
    have hb : Below w.heap.size w W0 := by rw [← hW0]; exact (((Below.refl _ w).alloc (Nat.le_refl _) _).alloc (by simp) _)
    refine ⟨grown_below hb _, by rw [← hW0]; simp, ⟨_, _, _, (hb.block g hgl).trans hg⟩, ?_, ⟨.slice none 0 0, .slice none 0 0, .slice none 0 0, ?_, by omega, by omega, by omega⟩⟩
    · rw [← hW0]; exact (Below.heap_alloc _ _ _ (by simp)).trans (World.alloc_heap_new w _)
    · rw [← hW0]; have := World.alloc_heap_new (w.alloc (.cells #[.slice none 0 0, .slice none 0 0, .bool false] 38)) (.cells #[.slice none 0 0, .slice none 0 0, .slice none 0 0] 52); rwa [World.size_alloc] at this
  rw [hW0]
  have HS := Aside0.mk hs
  have II := Aside0.mk I0
  clear hg hs I0 hW0
  go_loopw [15] (fun v15 wr => ∃ i : Nat, v15 = .int .i64 i ∧ Aside0 (i ≤ 3) ∧ Aside0 (RI w g i r wr)) (fun v15 _ => 3 - (intOf v15).toNat)
  case atStart => exact ⟨0, rfl, ⟨by omega⟩, II⟩
  case round =>
    obtain ⟨i, rfl, hi, hI⟩ := hrel
    obtain ⟨gr, sz, ⟨y0, y1, y2, cg⟩, res, ⟨v0, v1, v2, hl, q0, q1, q2⟩⟩ := hI.out
    have hsW : Kd.C (Kd.int .u8) wr A s.length s := Kd.C_foot_ne (g := g) (fun h => h) HS.out (fun ad e _ => hAg ad e) wr ⟨gr.size, fun k hk hne _ => gr.block k hk (fun e => hne (by cases e; rfl))⟩
    have hi3 : i = 0 ∨ i = 1 ∨ i = 2 ∨ i = 3 := by have := hi.out; omega
    rcases hi3 with rfl | rfl | rfl | rfl
    · have cS := sort0_calls wr g y0 y1 y2 A s.length c r cg (h4 wr A c hsc hsW)
      have HG := Go.Lib.hid hl
      have HI := Aside0.mk (show w.grownBy wr (some g) from gr)
      have HRES := Go.Lib.hid res
      have HQ0 := Aside0.mk q0
      have HQ1 := Aside0.mk q1
      have HQ2 := Aside0.mk q2
      clear gr cg res hl q0 q1 q2 hsW hI II
      go_wp2_with (fail)
      (with_reducible refine cS.mono ?_)
      clear cS
      rintro e w2 ⟨v, rfl, rv, gv, ⟨z0, z1, z2, hc⟩⟩
      obtain ⟨Av, cv, rfl⟩ := Kd.R_slice rv
      have hl2 := (gv.block (w.heap.size + 1) (by omega) (fun e => by cases e; omega)).trans HG.out
      have hr2 := (gv.block w.heap.size (by omega) (fun e => by cases e; omega)).trans HRES.out
      have hlc := blk_cell hl2 0
      have hlf := blk_frozen hl2 0
      have nI : Aside0 (RI w g 1 r (w2.setCell ⟨w.heap.size + 1, 0, none⟩ (.slice Av r.length cv))) := by
        refine ⟨⟨?_, ?_, ⟨z0, z1, z2, ?_⟩, ?_, ⟨.slice Av r.length cv, v1, v2, set_same hl2 _, ?_, ?_, ?_⟩⟩⟩
        · exact grown_trans (grown_trans HI.out gv (fun b e => .inr (by rw [e]))) (set_grown w2 (w.heap.size + 1) 0 _) (fun b e => .inl (by cases e; omega))
        · have := gv.size; have := (set_grown w2 (w.heap.size + 1) 0 (.slice Av r.length cv)).size; omega
        · exact blk_far hc (by show g ≠ w.heap.size + 1; omega) _
        · exact blk_far hr2 (by show w.heap.size ≠ w.heap.size + 1; omega) _
        · exact fun _ => Kd.R_far (p := ⟨w.heap.size + 1, 0, none⟩) (Kd.R_mono (Kd.R_lower (Kd.R_bound rv) sz) (fun q hq => by have := hq.2.1; omega)) (fun q hq => by show q ≠ w.heap.size + 1; omega) _
        · exact fun h => absurd h (by omega)
        · exact fun h => absurd h (by omega)
      clear hl2 hr2 hc gv rv
      go_wp2_with (fail)
      go_roundw
      case rel => exact ⟨1, by go_num, ⟨by omega⟩, nI⟩
      case measure => simp [intOf]
    · have cS := sort1_calls wr g y0 y1 y2 A s.length c r cg (h5 wr A c hsc hsW)
      have HG := Go.Lib.hid hl
      have HI := Aside0.mk (show w.grownBy wr (some g) from gr)
      have HRES := Go.Lib.hid res
      have HQ0 := Aside0.mk q0
      have HQ1 := Aside0.mk q1
      have HQ2 := Aside0.mk q2
      clear gr cg res hl q0 q1 q2 hsW hI II
      go_wp2_with (fail)
      (with_reducible refine cS.mono ?_)
      clear cS
      rintro e w2 ⟨v, rfl, rv, gv, ⟨z0, z1, z2, hc⟩⟩
      obtain ⟨Av, cv, rfl⟩ := Kd.R_slice rv
      have hl2 := (gv.block (w.heap.size + 1) (by omega) (fun e => by cases e; omega)).trans HG.out
      have hr2 := (gv.block w.heap.size (by omega) (fun e => by cases e; omega)).trans HRES.out
      have hlc := blk_cell hl2 1
      have hlf := blk_frozen hl2 1
      have nI : Aside0 (RI w g 2 r (w2.setCell ⟨w.heap.size + 1, 1, none⟩ (.slice Av r.length cv))) := by
        refine ⟨⟨?_, ?_, ⟨z0, z1, z2, ?_⟩, ?_, ⟨v0, .slice Av r.length cv, v2, set_same hl2 _, ?_, ?_, ?_⟩⟩⟩
        · exact grown_trans (grown_trans HI.out gv (fun b e => .inr (by rw [e]))) (set_grown w2 (w.heap.size + 1) 1 _) (fun b e => .inl (by cases e; omega))
        · have := gv.size; have := (set_grown w2 (w.heap.size + 1) 1 (.slice Av r.length cv)).size; omega
        · exact blk_far hc (by show g ≠ w.heap.size + 1; omega) _
        · exact blk_far hr2 (by show w.heap.size ≠ w.heap.size + 1; omega) _
        · exact fun _ => Kd.R_far (p := ⟨w.heap.size + 1, 1, none⟩) (Kd.R_grown (HQ0.out (by omega)) gv (fun q hq e => by cases e; omega)) (fun q hq => by show q ≠ w.heap.size + 1; omega) _
        · exact fun _ => Kd.R_far (p := ⟨w.heap.size + 1, 1, none⟩) (Kd.R_mono (Kd.R_lower (Kd.R_bound rv) sz) (fun q hq => by have := hq.2.1; omega)) (fun q hq => by show q ≠ w.heap.size + 1; omega) _
        · exact fun h => absurd h (by omega)
      clear hl2 hr2 hc gv rv
      go_wp2_with (fail)
      go_roundw
      case rel => exact ⟨2, by go_num, ⟨by omega⟩, nI⟩
      case measure => simp [intOf]
    · have cS := sort2_calls wr g y0 y1 y2 A s.length c r cg (h6 wr A c hsc hsW)
      have HG := Go.Lib.hid hl
      have HI := Aside0.mk (show w.grownBy wr (some g) from gr)
      have HRES := Go.Lib.hid res
      have HQ0 := Aside0.mk q0
      have HQ1 := Aside0.mk q1
      have HQ2 := Aside0.mk q2
      clear gr cg res hl q0 q1 q2 hsW hI II
      go_wp2_with (fail)
      (with_reducible refine cS.mono ?_)
      clear cS
      rintro e w2 ⟨v, rfl, rv, gv, ⟨z0, z1, z2, hc⟩⟩
      obtain ⟨Av, cv, rfl⟩ := Kd.R_slice rv
      have hl2 := (gv.block (w.heap.size + 1) (by omega) (fun e => by cases e; omega)).trans HG.out
      have hr2 := (gv.block w.heap.size (by omega) (fun e => by cases e; omega)).trans HRES.out
      have hlc := blk_cell hl2 2
      have hlf := blk_frozen hl2 2
      have nI : Aside0 (RI w g 3 r (w2.setCell ⟨w.heap.size + 1, 2, none⟩ (.slice Av r.length cv))) := by
        refine ⟨⟨?_, ?_, ⟨z0, z1, z2, ?_⟩, ?_, ⟨v0, v1, .slice Av r.length cv, set_same hl2 _, ?_, ?_, ?_⟩⟩⟩
        · exact grown_trans (grown_trans HI.out gv (fun b e => .inr (by rw [e]))) (set_grown w2 (w.heap.size + 1) 2 _) (fun b e => .inl (by cases e; omega))
        · have := gv.size; have := (set_grown w2 (w.heap.size + 1) 2 (.slice Av r.length cv)).size; omega
        · exact blk_far hc (by show g ≠ w.heap.size + 1; omega) _
        · exact blk_far hr2 (by show w.heap.size ≠ w.heap.size + 1; omega) _
        · exact fun _ => Kd.R_far (p := ⟨w.heap.size + 1, 2, none⟩) (Kd.R_grown (HQ0.out (by omega)) gv (fun q hq e => by cases e; omega)) (fun q hq => by show q ≠ w.heap.size + 1; omega) _
        · exact fun _ => Kd.R_far (p := ⟨w.heap.size + 1, 2, none⟩) (Kd.R_grown (HQ1.out (by omega)) gv (fun q hq e => by cases e; omega)) (fun q hq => by show q ≠ w.heap.size + 1; omega) _
        · exact fun _ => Kd.R_far (p := ⟨w.heap.size + 1, 2, none⟩) (Kd.R_mono (Kd.R_lower (Kd.R_bound rv) sz) (fun q hq => by have := hq.2.1; omega)) (fun q hq => by show q ≠ w.heap.size + 1; omega) _
      clear hl2 hr2 hc gv rv
      go_wp2_with (fail)
      go_roundw
      case rel => exact ⟨3, by go_num, ⟨by omega⟩, nI⟩
      case measure => simp [intOf]
    · have Q0 := q0 (by omega)
      have Q1 := q1 (by omega)
      have Q2 := q2 (by omega)
      obtain ⟨A0, c0, rfl, hc0, C0⟩ := Kd.R_reads Q0
      obtain ⟨A1, c1, rfl, hc1, C1⟩ := Kd.R_reads Q1
      obtain ⟨A2, c2, rfl, hc2, C2⟩ := Kd.R_reads Q2
      have hlc := blk_cell hl 0
      have cK := h23 wr A c A0 c0 hsc hc0 hsW C0
      have HG := Go.Lib.hid hl
      have HRES := Go.Lib.hid res
      have HC0 := Aside0.mk C0
      have HC1 := Aside0.mk C1
      have HC2 := Aside0.mk C2
      have HSW := Aside0.mk hsW
      have HQ0 := Aside0.mk Q0
      have HGR := Aside0.mk (show w.grownBy wr (some g) from gr)
      clear gr cg res hl q0 q1 q2 hsW hI II Q0 Q1 Q2 C0 C1 C2
      go_wp2_with (fail)
      (with_reducible refine cK.mono ?_)
      clear cK
      rintro e w3 ⟨v3, b3, rfl, r3, k3⟩
      obtain ⟨A3, c3, rfl, hc3, C3⟩ := Kd.R_reads r3
      have hl3 := (k3.block (w.heap.size + 1) (by omega)).trans HG.out
      have hlc3 := blk_cell hl3 0
      have cP := h24 w3 A c A0 c0 hsc hc0 (Kd.C_below HSW.out k3) (Kd.C_below HC0.out k3)
      have K3 := Aside0.mk k3
      have CC3 := Aside0.mk C3
      clear hl3 k3 C3 r3 hlc
      go_wp2_with (fail)
      (with_reducible refine cP.mono ?_)
      clear cP
      rintro e w4 ⟨v4, b4, rfl, r4, k4⟩
      obtain ⟨A4, c4, rfl, hc4, C4⟩ := Kd.R_reads r4
      have K4 := Aside0.mk (K3.out.trans (k4.mono K3.out.size))
      have hl4 := (K4.out.block (w.heap.size + 1) (by omega)).trans HG.out
      have hlc40 := blk_cell hl4 0
      have hlc41 := blk_cell hl4 1
      have hlc42 := blk_cell hl4 2
      have cE := hr w4 A0 c0 A1 c1 hc0 hc1 (Kd.C_below HC0.out K4.out) (Kd.C_below HC1.out K4.out)
      have CC4 := Aside0.mk C4
      have CC34 := Aside0.mk (Kd.C_below CC3.out k4)
      clear hl4 k4 C4 r4 hlc3
      go_wp2_with (fail)
      (with_reducible refine cE.mono ?_)
      clear cE
      rintro e w5 ⟨rfl, ⟨m5, rfl⟩⟩
      have hE5 := hr (w4.drewN m5) A0 c0 A2 c2 hc0 hc2 (Kd.C_drewN (Kd.C_below HC0.out K4.out) m5) (Kd.C_drewN (Kd.C_below HC2.out K4.out) m5)
      have K5 := Aside0.mk (show Below wr.heap.size wr (w4.drewN m5) from pw_below_drewN K4.out m5)
      have C5a := Aside0.mk (Kd.C_drewN CC34.out m5)
      have C5b := Aside0.mk (Kd.C_drewN CC4.out m5)
      generalize w4.drewN m5 = w5 at *
      have hl5 := (K5.out.block (w.heap.size + 1) (by omega)).trans HG.out
      have hlc50 := blk_cell hl5 0
      have hlc52 := blk_cell hl5 2
      clear hl5 hlc40 hlc41 hlc42
      go_wp2_with (fail)
      (with_reducible refine hE5.mono ?_)
      clear hE5
      rintro e w6 ⟨rfl, ⟨m6, rfl⟩⟩
      have hE6 := hx (w5.drewN m6) A3 c3 A4 c4 hc3 hc4 (Kd.C_drewN C5a.out m6) (Kd.C_drewN C5b.out m6)
      have K6 := Aside0.mk (show Below wr.heap.size wr (w5.drewN m6) from pw_below_drewN K5.out m6)
      have C6a := Aside0.mk (Kd.C_drewN C5a.out m6)
      generalize w5.drewN m6 = w6 at *
      clear hlc50 hlc52
      go_wp2_with (fail)
      (with_reducible refine hE6.mono ?_)
      clear hE6
      rintro e w7 ⟨rfl, ⟨m7, rfl⟩⟩
      have HSW7 := Aside0.mk (Kd.C_drewN (Kd.C_below HSW.out K6.out) m7)
      have HC07 := Aside0.mk (Kd.C_drewN (Kd.C_below HC0.out K6.out) m7)
      have C7a := Aside0.mk (Kd.C_drewN C6a.out m7)
      have K7 := Aside0.mk (show Below wr.heap.size wr (w6.drewN m7) from pw_below_drewN K6.out m7)
      generalize w6.drewN m7 = w7 at *
      have hl7 := (K7.out.block (w.heap.size + 1) (by omega)).trans HG.out
      have hlc7 := blk_cell hl7 0
      have hr7 := (K7.out.block w.heap.size (by omega)).trans HRES.out
      have HL7 := Go.Lib.hid hl7
      have HR7 := Go.Lib.hid hr7
      have H26 := Aside0.mk h26
      clear hl7 hr7 h26
      go_upto_region 13 with (fail)
      have cC := Aside0.mk (H26.out w7.drew A c A0 c0 A3 c3 hsc hc0 hc3 (Kd.C_drew HSW7.out) (Kd.C_drew HC07.out) (Kd.C_drew C7a.out))
      have KK := Aside0.mk (show ∀ w8, Below w7.drew.heap.size w7.drew w8 → Below w7.heap.size w7 w8 from fun w8 h => (below_drew1 (Below.refl _ w7)).trans (h.mono (by simp)))
      go_region_with (go_at_call 26; go_loud (with_reducible refine cC.out.mono ?_; rintro e w8 ⟨rfl, k80⟩; have k8 := KK.out _ k80; clear k80; have hsz7 : w.heap.size + 1 < w7.heap.size := (by have := K7.out.size; omega); have hlc8 := blk_cell ((k8.block (w.heap.size + 1) hsz7).trans HL7.out) 0; have hr8 := (k8.block w.heap.size (show w.heap.size < w7.heap.size by omega)).trans HR7.out; have hrc0 := blk_cell hr8 0; have hrc1 := blk_cell hr8 1; have hrc2 := blk_cell hr8 2; have hrf0 := blk_frozen hr8 0; have hrf1 := blk_frozen hr8 1; have hrf2 := blk_frozen hr8 2; have HR8 := Go.Lib.hid hr8; have K8 := Aside0.mk k8; clear hr8 k8 hsz7))
      all_goals go_wp2_with (fail)
      all_goals (refine bodyPost_ret (results_cell (ad := ⟨w.heap.size, 0, none⟩) (v := .agg #[.slice A0 r.length c0, .slice A3 x.length c3, .bool true]) rfl _ rfl (load38 _ _ _ _ _ (by go_simp) (by go_simp) (by go_simp))) rfl ?_)
      all_goals (refine ⟨_, _, _, _, rfl, ?_, grown_trans (grown_trans (grown_trans (grown_trans HGR.out (grown_below (K7.out.trans (K8.out.mono K7.out.size)) none) (fun b e => by cases e)) (set_grown _ w.heap.size 0 _) (fun b e => .inl (by cases e; omega))) (set_grown _ w.heap.size 1 _) (fun b e => .inl (by cases e; omega))) (set_grown _ w.heap.size 2 _) (fun b e => .inl (by cases e; omega))⟩)
      all_goals (have QR := Kd.R_lower (base' := w.heap.size) (Kd.R_below HQ0.out (K7.out.trans (K8.out.mono K7.out.size))) (by omega))
      all_goals exact Kd.R_mono (Kd.R_far (p := ⟨w.heap.size, 2, none⟩) (Kd.R_far (p := ⟨w.heap.size, 1, none⟩) (Kd.R_far (p := ⟨w.heap.size, 0, none⟩) QR (fun q hq => by show q ≠ w.heap.size; omega) _) (fun q hq => by show q ≠ w.heap.size; omega) _) (fun q hq => by show q ≠ w.heap.size; omega) _) (fun _ _ => trivial)
end Go.Proofs.Ytbbpplnnegdenaa.Rn
end
section
set_option linter.unusedVariables false
set_option linter.unusedSimpArgs false
namespace Go.Proofs.Ytbbpplnnegdenaa
open Go.RowKit Go.Proofs.YtbbpplnnegdenaaW.PrintWords Go.Proofs.YtbbpplnnegdenaaW.PrintLast Go.Proofs.YtbbpplnnegdenaaW.PrintMore
theorem lit_reads (kd : IntKind) (W : World) (e : TypeId) (xs : List Int) (fr : Nat × Nat) (hn : xs.length ≤ 9223372036854775807) {C : Array Value} (hC : (xs.map (Value.int kd)).toArray = C) :
    Kd.C (Kd.int kd) (W.alloc (.cells C e fr)) (some ⟨W.heap.size, 0, none⟩) xs.length xs := by
  subst hC
  refine Kd.C_of_reads (h1 := fun _ => rfl) (d := 0) ⟨rfl, hn, fun _ => ⟨_, rfl, fun j hj => ?_⟩⟩
  rw [add_plain, World.cell?_alloc_mark]
  simp [List.getD_eq_getElem?_getD, List.getElem?_eq_getElem hj]
end Go.Proofs.Ytbbpplnnegdenaa
end
section
namespace Go.Proofs.Ytbbpplnnegdenaa.PTopThree
open Go.RowKit Go.Proofs.YtbbpplnnegdenaaW.PrintWords Go.Proofs.YtbbpplnnegdenaaW.PrintLast Go.Proofs.YtbbpplnnegdenaaW.PrintMore
attribute [local go_sem] max2_int min2_int max_two min_two max_three min_three max_four min_four
set_option linter.unusedVariables false
set_option linter.unusedSimpArgs false
def errW : Option Int → Value
  | none => .nilIface
  | some c => .iface 0 (.int .i64 c)
theorem errW_none : errW none = .nilIface := rfl
theorem errW_some (c : Int) : errW (some c) = .iface 0 (.int .i64 c) := rfl
theorem info3 : (Try.prog.info? 3).map (fun i => (i.zero, i.size, i.bytes)) = some (some (.int .i64 0), 1, 8) := by kernel_rfl
theorem info4 : (Try.prog.info? 4).map (fun i => (i.zero, i.size, i.bytes)) = some (some (.bool false), 1, 1) := by kernel_rfl
theorem info5 : (Try.prog.info? 5).map (fun i => (i.zero, i.size, i.bytes)) = some (some (.int .u8 0), 1, 1) := by kernel_rfl
end Go.Proofs.Ytbbpplnnegdenaa.PTopThree
end
section
namespace Go.Proofs.Ytbbpplnnegdenaa.PTopThree
open Go.RowKit Go.Proofs.YtbbpplnnegdenaaW.PrintWords Go.Proofs.YtbbpplnnegdenaaW.PrintLast Go.Proofs.YtbbpplnnegdenaaW.PrintMore
attribute [local go_sem] max2_int min2_int max_two min_two max_three min_three max_four min_four
set_option linter.unusedVariables false
set_option linter.unusedSimpArgs false
mutual
def bucket_Counts.j0 : Nat → List Int → Int → Bool → Option (List Int × Bool)
  | 0, _, _, _ => none
  | k + 1, x0, x1, x14 => if x14 = true then (some (([] : List Int), false)) else (if 0 ≤ x1 then (if (x1 : Int).toNat ≤ 35184372088832 then (bucket_Counts.l0 k x1 (List.replicate (x1 : Int).toNat 0) x0 (x0.length : Int) 0) else (none)) else (none))
def bucket_Counts.l0 : Nat → Int → List Int → List Int → Int → Int → Option (List Int × Bool)
  | 0, _, _, _, _, _ => none
  | k + 1, x1, x6, x17, x18, x19 => if x19 < x18 then (if 0 ≤ x19 then (if x19 < (x17.length : Int) then (if (rd x17 x19) < 0 then (some (([] : List Int), false)) else (if (rd x17 x19) ≥ x1 then (some (([] : List Int), false)) else (if 0 ≤ (rd x17 x19) then (if (rd x17 x19) < (x6.length : Int) then (bucket_Counts.l0 k x1 (x6.set ((rd x17 x19) : Int).toNat (wrap64 ((rd x6 (rd x17 x19)) + 1))) x17 x18 (wrap64 (x19 + 1))) else (none)) else (none)))) else (none)) else (none)) else (some (x6, true))
end
def bucket_Counts.f (k : Nat) (l0 : List Int) (a1 : Int) : Option (List Int × Bool) := if a1 < 0 then (bucket_Counts.j0 k l0 a1 true) else (bucket_Counts.j0 k l0 a1 (decide (a1 > 1048576)))
theorem bucket_Counts.mono_l : ∀ k, (∀ y0 y1 y2, LeO (bucket_Counts.j0 k y0 y1 y2) (bucket_Counts.j0 (k + 1) y0 y1 y2)) ∧ (∀ y0 y1 y2 y3 y4, LeO (bucket_Counts.l0 k y0 y1 y2 y3 y4) (bucket_Counts.l0 (k + 1) y0 y1 y2 y3 y4))
  | 0 => ⟨fun _ _ _ r h => by simp [bucket_Counts.j0] at h, fun _ _ _ _ _ r h => by simp [bucket_Counts.l0] at h⟩
  | k + 1 => by
    obtain ⟨ih0, ih1⟩ := bucket_Counts.mono_l k
    refine ⟨?_, ?_⟩
    · intro y0 y1 y2
      unfold bucket_Counts.j0
      exact mB
    · intro y0 y1 y2 y3 y4
      unfold bucket_Counts.l0
      exact mB
theorem bucket_Counts.mono : ∀ a0 a1 k, LeO (bucket_Counts.f k a0 a1) (bucket_Counts.f (k + 1) a0 a1) := by
  intro a0 a1 k
  obtain ⟨ih0, ih1⟩ := bucket_Counts.mono_l k
  unfold bucket_Counts.f
  exact mB
set_option maxHeartbeats 8000000 in
set_option maxRecDepth 100000 in
theorem bucket_Counts.calls (k : Nat) (A0 : Option Addr) (c0 : Nat) (l0 : List Int) (a1 : Int) (r1 : List Int) (r2 : Bool) (w : World) (hr0 : Kd.C (Kd.int .i64) w A0 l0.length l0) (hc0 : l0.length ≤ c0) (h : bucket_Counts.f k l0 a1 = some (r1, r2)) :
    Calls Try.prog 17 #[.slice A0 l0.length c0, .int .i64 a1] w fun e w' => ∃ v0_ : Value, e = .returned (.tuple #[v0_, .bool r2]) ∧ Kd.R (Kd.int .i64) 3 w' w.heap.size (fun _ => True) v0_ r1 ∧ Below w.heap.size w w' := by
 have HR0 := Aside0.mk hr0
 have HC0 := Aside0.mk hc0
 clear hr0 hc0
 have HB := Aside0.mk (Below.refl w.heap.size w)
 have H := h
 clear h
 unfold bucket_Counts.f at H
 have HC3 := Aside0.mk H
 clear H
 go_enter Try.func17, Try.ntmps17
 go_upto_region 1 with (fail)
 go_cut [14] (fun v14 wc => ∃ (kq : Nat) (x14_2 : Bool), v14 = .bool x14_2 ∧ Aside0 (bucket_Counts.j0 kq l0 a1 x14_2 = some (r1, r2)) ∧ Aside0 (kq ≤ k) ∧ Aside0 (Below w.heap.size w wc))
 case first =>
  have H := HC3.out
  clear HC3
  rcases ifC H with ⟨c4b0, H⟩ | ⟨c4b0, H⟩
  ·(first | rw [c4b0] | (simp only [i64_w, i32_w]; rw [c4b0]) | skip)
   have H' := Aside0.mk H
   clear H
   go_wp2
   go_meet
   case rel => exact ⟨_, (true), sD, H', ⟨by first | omega | exact Nat.le_refl _⟩, ⟨uB⟩⟩
  ·(first | rw [c4b0] | (simp only [i64_w, i32_w]; rw [c4b0]) | skip)
   have H' := Aside0.mk H
   clear H
   go_wp2
   go_meet
   case rel => exact ⟨_, (decide (a1 > 1048576)), sD, H', ⟨by first | omega | exact Nat.le_refl _⟩, ⟨uB⟩⟩
 case rest =>
  clear HC3
  try clear c1
  try clear p2
  try clear c4
  try clear c4b0
  obtain ⟨kq, x14_2, rfl, HA, HJ2, HB⟩ := hcut
  cases kq with
  | zero => exact absurd HA.out (by simp [bucket_Counts.j0])
  | succ kj2 =>
   have H := HA.out
   clear HA
   simp only [bucket_Counts.j0] at H
   by_cases c5 : x14_2 = true
   ·subst c5
    rw [if_pos rfl] at H
    simp only [Option.some.injEq, Prod.mk.injEq] at H
    obtain ⟨rfl, rfl⟩ := H
    go_wp2
    go_ret2
    exact ⟨_, eR, nL, uB⟩
   ·replace c5 := Bool.eq_false_iff.mpr c5
    subst c5
    rw [if_neg (by decide)] at H
    obtain ⟨c6b0, c6b1, H⟩ := ifE H
    obtain ⟨c7b0, c7b1, H⟩ := ifE H
    generalize hy101 : (List.replicate (a1 : Int).toNat 0 : List Int) = y101 at H
    try simp only [Option.bind_some] at H
    have Ny101 := Aside0.mk hy101.symm
    clear hy101
    have H' := Aside0.mk H
    clear H
    go_wp2_with (first | ((with_reducible refine gate_dst (N := 16) rfl ?_); refine Kd.R_make (Kd.int .i64) _ 3 rfl (N := 16) rfl 23 _ _ rfl a1 rfl rfl Try.underlying23 (.int .i64 0) 8 info3 rfl (by decide) (by omega) 0 (ok := fun _ => True) (okp := fun _ => True) rfl (fun _ hk => hk) trivial dT (Nat.le_trans (Nat.mul_le_mul_right _ (dT : a1.toNat ≤ 35184372088832)) (by omega)) (Below.refl _ _) (Nat.le_refl _) ?_; intro v102 w8 ho9 hb hg_ hnew_; clear hg_ hnew_; (first | rw [← Ny101.out] at ho9 | (simp only [Int.reduceToNat] at ho9; rw [← Ny101.out] at ho9)); have n0_ := Aside0.mk (Kd.R_lower ho9 (below_size uB)); have n1_ := Aside0.mk (below_step uB hb); clear HB; have HO103 := n0_; have HB := n1_; clear n0_ n1_; clear hb ho9))
    go_loopg [19] kj2 (fun kq v19 w' => ∃ (x6_2 : List Int) (x19_2 : Int), v19 = .int .i64 x19_2 ∧ Aside0 (bucket_Counts.l0 kq a1 x6_2 l0 (l0.length : Int) x19_2 = some (r1, r2)) ∧ Aside0 (kq ≤ kj2) ∧ Aside0 (Kd.R (Kd.int .i64) 3 w' w.heap.size (fun _ => True) v102 x6_2) ∧ Aside0 (Below w.heap.size w w'))
    case atStart => exact ⟨(y101), (0), sD, H', ⟨Nat.le_refl _⟩, ⟨uR HO103.out⟩, ⟨uB⟩⟩
    case round =>
     clear H'
     try clear c1
     try clear p2
     try clear c4
     try clear c4b0
     try clear c5
     try clear c6
     try clear c6b0
     try clear c6b1
     try clear c7
     try clear c7b0
     try clear c7b1
     try clear p2
     obtain ⟨x6_2, x19_2, rfl, HA, HK2, HO_6, HB⟩ := hrel
     cases gk with
     | zero => exact absurd HA.out (by simp [bucket_Counts.l0])
     | succ k2 =>
      have H := HA.out
      clear HA
      simp only [bucket_Counts.l0] at H
      rcases ifC H with ⟨c10b0, H⟩ | ⟨c10b0, H⟩
      ·obtain ⟨c11b0, c12b0, H⟩ := ifD2 H
       rcases ifC H with ⟨c13b0, H⟩ | ⟨c13b0, H⟩
       ·simp only [Option.some.injEq, Prod.mk.injEq] at H
        obtain ⟨rfl, rfl⟩ := H
        obtain ⟨ad104, e104, hx104_0, p104, q104⟩ := rIO HB.out HR0.out x19_2
        cases e104
        go_wp2
        go_ret2
        exact ⟨_, eR, nL, uB⟩
       ·rcases ifG H with ⟨c14b0, H⟩ | ⟨c14b0, H⟩
        ·simp only [Option.some.injEq, Prod.mk.injEq] at H
         obtain ⟨rfl, rfl⟩ := H
         obtain ⟨ad104, e104, hx104_0, p104, q104⟩ := rIO HB.out HR0.out x19_2
         cases e104
         go_wp2
         go_ret2
         exact ⟨_, eR, nL, uB⟩
        ·obtain ⟨c15b0, c16b0, H⟩ := ifD2 H
         generalize hy106 : (x6_2.set ((rd l0 x19_2) : Int).toNat (wrap64 ((rd x6_2 (rd l0 x19_2)) + 1)) : List Int) = y106 at H
         try simp only [Option.bind_some] at H
         have Ny106 := Aside0.mk hy106.symm
         clear hy106
         have H' := Aside0.mk H
         clear H
         obtain ⟨ad104, e104, hx104_0, p104, q104⟩ := rIO HB.out HR0.out x19_2
         cases e104
         obtain ⟨Ao18, co18, eo18⟩ := Kd.R_slice HO_6.out
         subst eo18
         obtain ⟨ad105, e105, hx105_0, p105, q105⟩ := rI (Kd.R_reads' HO_6.out).2.2 (rd l0 x19_2)
         cases e105
         have p17 : 0 ≤ ((rd l0 x19_2) : Int) := dT
         have q17 : ((rd l0 x19_2) : Int) < ((x6_2.length : Int) : Int) := dT
         obtain ⟨go17, co17, eo17, gb17, gl17, cl17, HG17⟩ := Kd.R_form HO_6.out (by omega)
         (first | cases eo17 | (injection eo17 with ea_ en_ ec_; (first | subst ea_ | (injection ea_ with ea_; subst ea_)); subst ec_; clear en_))
         have GB17 := Aside0.mk gb17
         have GG17 := Aside0.mk HG17
         clear gb17 gl17 HG17
         (first | simp only [add_plain] at hx105_0 | skip)
         obtain ⟨hx17_0, hf17_0⟩ := Kd.R_celln 0 HO_6.out ((rd l0 x19_2) : Int) p17 q17
         replace p17 := eq_true p17
         replace q17 := eq_true q17
         have HP19 := Kd.R_putg HO_6.out ((rd l0 x19_2) : Int) (wrap64 ((rd x6_2 (rd l0 x19_2)) + 1))
         go_wp2_with (first | ((with_reducible refine gate_store (t := 3) (p := 35) rfl ?_); refine store_event (t := 3) (p := 35) (v := ?vo_w20) (w1 := (wr.setCell ⟨go17, ((rd l0 x19_2) : Int).toNat, none⟩ (.int .i64 (wrap64 ((rd x6_2 (rd l0 x19_2)) + 1))))) ?hg ?ho ?hn ?hr ?_; (case ho => rfl); (case hg => rfl); (case hn => rfl); (case hr => first | (go_simp; done) | (go_simp; rfl)); intro w20 hw; have hg : wr.grownBy w20 (some go17) := (by rw [hw]; exact HP19.2); have hp_ : Kd.R (Kd.int .i64) 3 w20 w.heap.size (fun _ => True) (.slice (some ⟨go17, 0, none⟩) x6_2.length co18) y106 := (by rw [hw, Ny106.out]; exact HP19.1); clear HP19; have n0_ := Aside0.mk (hp_); have n1_ := Aside0.mk ((by rw [hw]; exact below_set (HB.out) GB17.out : Below w.heap.size w w20)); clear HO_6; clear HB; have HO_6 := n0_; have HB := n1_; clear n0_ n1_; clear hg hw hp_))
         go_roundg k2
         case measure => have := HJ2.out; have := HK2.out; omega
         case rel => exact ⟨(y106), (wrap64 (x19_2 + 1)), sD, H', ⟨by have := HJ2.out; have := HK2.out; omega⟩, ⟨uR HO_6.out⟩, ⟨uB⟩⟩
      ·simp only [Option.some.injEq, Prod.mk.injEq] at H
       obtain ⟨rfl, rfl⟩ := H
       go_wp2
       go_ret2
       exact ⟨_, eR, uR HO_6.out, uB⟩
end Go.Proofs.Ytbbpplnnegdenaa.PTopThree
end
section
namespace Go.Proofs.Ytbbpplnnegdenaa.PTopThree
open Go.RowKit Go.Proofs.YtbbpplnnegdenaaW.PrintWords Go.Proofs.YtbbpplnnegdenaaW.PrintLast Go.Proofs.YtbbpplnnegdenaaW.PrintMore
attribute [local go_sem] max2_int min2_int max_two min_two max_three min_three max_four min_four
set_option linter.unusedVariables false
set_option linter.unusedSimpArgs false
def kinds_Small.l0 : Nat → List Int → List Bool → Int → Option (List Bool)
  | 0, _, _, _ => none
  | k + 1, x0, x3, x4 => if x4 ≥ 0 then (if 0 ≤ x4 then (if x4 < (x0.length : Int) then (if 0 ≤ (wrap64 (x4 + 1)) then (if (wrap64 (x4 + 1)) < (x0.length : Int) then (if (rd x0 x4) < (rd x0 (wrap64 (x4 + 1))) then (if x4 < (x3.length : Int) then (kinds_Small.l0 k x0 (x3.set (x4 : Int).toNat true) (wrap64 (x4 - 1))) else (none)) else (if (rd x0 x4) = (rd x0 (wrap64 (x4 + 1))) then (if (wrap64 (x4 + 1)) < (x3.length : Int) then (if x4 < (x3.length : Int) then (kinds_Small.l0 k x0 (x3.set (x4 : Int).toNat (rdOf false x3 (wrap64 (x4 + 1)))) (wrap64 (x4 - 1))) else (none)) else (none)) else (if x4 < (x3.length : Int) then (kinds_Small.l0 k x0 (x3.set (x4 : Int).toNat false) (wrap64 (x4 - 1))) else (none)))) else (none)) else (none)) else (none)) else (none)) else (some x3)
def kinds_Small.f (k : Nat) (l0 : List Int) : Option (List Bool) := if 0 ≤ (l0.length : Int) then (if ((l0.length : Int) : Int).toNat ≤ 281474976710656 then (kinds_Small.l0 k l0 (List.replicate ((l0.length : Int) : Int).toNat false) (wrap64 ((l0.length : Int) - 2))) else (none)) else (none)
theorem kinds_Small.mono_l : ∀ k, (∀ y0 y1 y2, LeO (kinds_Small.l0 k y0 y1 y2) (kinds_Small.l0 (k + 1) y0 y1 y2))
  | 0 => fun _ _ _ r h => by simp [kinds_Small.l0] at h
  | k + 1 => by
    have ih0 := kinds_Small.mono_l k
    · intro y0 y1 y2
      unfold kinds_Small.l0
      exact mB
theorem kinds_Small.mono : ∀ a0 k, LeO (kinds_Small.f k a0) (kinds_Small.f (k + 1) a0) := by
  intro a0 k
  have ih0 := kinds_Small.mono_l k
  unfold kinds_Small.f
  exact mB
def kinds_Small.T5 : Bool × List (List Nat × List Nat) := (true, [([], []), ([], []), ([], []), ([], []), ([2, 3], [2, 3]), ([4], [4]), ([], []), ([], []), ([7], [7]), ([6, 8], [6, 8]), ([9], [9]), ([5, 10], [5, 10]), ([11], [11]), ([12], [12]), ([12], [12]), ([13, 14, 12], [12, 13, 14]), ([15, 12], [12, 15]), ([12], [12]), ([12], [12]), ([18, 12], [12, 18]), ([17, 19, 12], [12, 17, 19]), ([20, 12], [12, 20]), ([16, 21, 12], [12, 16, 21]), ([22, 12, 12], [12, 22]), ([23], [23]), ([23], [23]), ([25, 23], [23, 25]), ([24, 26, 23], [23, 24, 26]), ([27, 23], [23, 27]), ([23, 28, 12], [12, 23, 28]), ([12, 29], [12, 29]), ([0, 1, 0, 1, 2, 3, 4, 5, 6, 7, 8, 9, 10, 11, 12, 13, 14, 15, 16, 17, 18, 19, 20, 21, 22, 23, 24, 25, 26, 27, 28, 29, 30], [0, 1]), ([31, 30, 23, 0, 1, 2, 3, 4, 5, 6, 7, 8, 9, 10, 11, 12, 13, 14, 15, 16, 17, 18, 19, 20, 21, 22, 23, 24, 25, 26, 27, 28, 29, 30], [30, 31])])
def kinds_Small.B5 : List Nat := [0, 0, 0, 0, 12, 28, 0, 0, 128, 448, 960, 2044, 4092, 8188, 8188, 32764, 65532, 8188, 8188, 270332, 925692, 1974268, 4194300, 8388604, 16777212, 16777212, 50331644, 134217724, 268435452, 536870908, 1073741820, 2147483647, 4294967295]
theorem kinds_Small.tab5 : rtab .any (opsOf Try.f45 5) = kinds_Small.T5 := by kernel_rfl
theorem kinds_Small.bits5 : waitsOk kinds_Small.T5.2 kinds_Small.B5 = true := by kernel_rfl
set_option maxHeartbeats 8000000 in
set_option maxRecDepth 100000 in
theorem kinds_Small.calls (k : Nat) (A0 : Option Addr) (c0 : Nat) (l0 : List Int) (r : List Bool) (w : World) (hr0 : Kd.C (Kd.int .i64) w A0 l0.length l0) (hc0 : l0.length ≤ c0) (h : kinds_Small.f k l0 = some r) :
    Calls Try.prog 45 #[.slice A0 l0.length c0] w fun e w' => ∃ v0_ : Value, e = .returned (v0_) ∧ Kd.R Kd.bool 4 w' w.heap.size (fun _ => True) v0_ r ∧ Below w.heap.size w w' := by
 have HR0 := Aside0.mk hr0
 have HC0 := Aside0.mk hc0
 clear hr0 hc0
 have HB := Aside0.mk (Below.refl w.heap.size w)
 have H := h
 clear h
 unfold kinds_Small.f at H
 obtain ⟨c2b0, c2b1, H⟩ := ifE H
 obtain ⟨c3b0, c3b1, H⟩ := ifE H
 generalize hy107 : (List.replicate ((l0.length : Int) : Int).toNat false : List Bool) = y107 at H
 try simp only [Option.bind_some] at H
 have Ny107 := Aside0.mk hy107.symm
 clear hy107
 have H' := Aside0.mk H
 clear H
 go_enter Try.func45, Try.ntmps45
 go_wp2_with (first | ((with_reducible refine gate_dst (N := 7) rfl ?_); refine Kd.R_make Kd.bool _ 4 rfl (N := 7) rfl 69 _ _ rfl (l0.length : Int) rfl rfl Try.underlying69 (.bool false) 1 info4 rfl (by decide) (by omega) false (ok := fun _ => True) (okp := fun _ => True) rfl (fun _ hk => hk) trivial dT (Nat.le_trans (Nat.mul_le_mul_right _ (dT : (l0.length : Int).toNat ≤ 281474976710656)) (by omega)) (Below.refl _ _) (Nat.le_refl _) ?_; intro v108 w4 ho5 hb hg_ hnew_; clear hg_ hnew_; (first | rw [← Ny107.out] at ho5 | (simp only [Int.reduceToNat] at ho5; rw [← Ny107.out] at ho5)); have n0_ := Aside0.mk (Kd.R_lower ho5 (below_size uB)); have n1_ := Aside0.mk (below_step uB hb); clear HB; have HO109 := n0_; have HB := n1_; clear n0_ n1_; clear hb ho5))
 go_loopg [4] k (fun kq v4 w' => ∃ (x3_1 : List Bool) (x4_1 : Int), v4 = .int .i64 x4_1 ∧ Aside0 (kinds_Small.l0 kq l0 x3_1 x4_1 = some r) ∧ Aside0 (kq ≤ k) ∧ Aside0 (Kd.R Kd.bool 4 w' w.heap.size (fun _ => True) v108 x3_1) ∧ Aside0 (Below w.heap.size w w'))
 case atStart => exact ⟨(y107), (wrap64 ((l0.length : Int) - 2)), sD, H', ⟨Nat.le_refl _⟩, ⟨uR HO109.out⟩, ⟨uB⟩⟩
 case round =>
  clear H'
  try clear c2
  try clear c2b0
  try clear c2b1
  try clear p2
  try clear c3
  try clear c3b0
  try clear c3b1
  try clear c4
  obtain ⟨x3_1, x4_1, rfl, HA, HK1, HO_3, HB⟩ := hrel
  cases gk with
  | zero => exact absurd HA.out (by simp [kinds_Small.l0])
  | succ k1 =>
   have H := HA.out
   clear HA
   simp only [kinds_Small.l0] at H
   rcases ifG H with ⟨c6b0, H⟩ | ⟨c6b0, H⟩
   ·obtain ⟨c7b0, c8b0, H⟩ := ifD2 H
    obtain ⟨ji9, hji9⟩ : ∃ j_ : Int, (wrap64 (x4_1 + 1)) = j_ := ⟨_, rfl⟩
    first | rw [hji9] at H | simp only [hji9] at H
    have hji9w : (IntKind.i64.wrap (x4_1 + 1)) = ji9 := (i64_w _).trans hji9
    obtain ⟨c10b0, c11b0, H⟩ := ifD2 H
    rcases ifC H with ⟨c12b0, H⟩ | ⟨c12b0, H⟩
    ·obtain ⟨c13b0, H⟩ := ifD H
     generalize hy112 : (x3_1.set (x4_1 : Int).toNat true : List Bool) = y112 at H
     try simp only [Option.bind_some] at H
     have Ny112 := Aside0.mk hy112.symm
     clear hy112
     have H' := Aside0.mk H
     clear H
     try go_wp2
     have n0_ := Aside0.mk (Kd.R_drew HO_3.out)
     have n1_ := Aside0.mk (below_drew1 HB.out)
     clear HO_3
     clear HB
     have HO_3 := n0_
     have HB := n1_
     clear n0_ n1_
     obtain ⟨ad110, e110, hx110_0, p110, q110⟩ := rI HR0.out x4_1
     have hw110_0 := hx110_0
     cases e110
     replace hx110_0 := (HB.out.cell (World.block_lt_of_cell? w _ hx110_0)).trans hx110_0
     obtain ⟨ad111, e111, hx111_0, p111, q111⟩ := rI HR0.out (ji9)
     have hw111_0 := hx111_0
     obtain rfl : ad110 = ad111 := (by injection e111)
     replace hx111_0 := (HB.out.cell (World.block_lt_of_cell? w _ hx111_0)).trans hx111_0
     have p14 : 0 ≤ (x4_1 : Int) := dT
     have q14 : (x4_1 : Int) < ((x3_1.length : Int) : Int) := dT
     obtain ⟨go14, co14, eo14, gb14, gl14, cl14, HG14⟩ := Kd.R_form HO_3.out (by omega)
     (first | cases eo14 | (injection eo14 with ea_ en_ ec_; (first | subst ea_ | (injection ea_ with ea_; subst ea_)); subst ec_; clear en_))
     have GB14 := Aside0.mk gb14
     have GG14 := Aside0.mk HG14
     clear gb14 gl14 HG14
     obtain ⟨hx14_0, hf14_0⟩ := Kd.R_celln false HO_3.out (x4_1 : Int) p14 q14
     replace p14 := eq_true p14
     replace q14 := eq_true q14
     have HP16 := Kd.R_putn HO_3.out (x4_1 : Int) true
     rw [← Ny112.out] at HP16
     have HQ16 := Aside0.mk HP16
     clear HP16
     refine start_ (n := 33) (S := fun w' => w'.cell? (ad110.add (x4_1).toNat) = some (.int .i64 (rd l0 x4_1)) ∧ w'.cell? (ad110.add ((ji9)).toNat) = some (.int .i64 (rd l0 (ji9)))) (ds := [32]) #[false, false, false, false, false, false, false, false, false, false, false, false, false, false, false, false, false, false, false, false, false, false, false, false, false, false, false, false, false, false, false, false, false] (by kernel_rfl) rfl rfl ⟨((HB.out.cell (World.block_lt_of_cell? w _ hw110_0)).trans hw110_0), ((HB.out.cell (World.block_lt_of_cell? w _ hw111_0)).trans hw111_0)⟩ (fun hHeld => ?_); refine with_tabW kinds_Small.tab5 kinds_Small.bits5 (fun HT_ HW_ => ?_)
     generalize wr.drew = w15 at HO_3 HB GG14 HQ16 hf14_0 hx110_0 hx111_0 hx14_0 hHeld ⊢
     refine pY (i := 0) (N := some 15) (bs 0 33) ?_
     refine pY (i := 1) (N := some 16) (bs 1 33) ?_
     refine pY (i := 2) (N := some 17) (bs 2 33) ?_
     refine pY (i := 3) (N := some 18) (bs 3 33) ?_
     refine pY (i := 4) (N := some 19) (bs 4 33) ?_
     refine pY (i := 6) (N := some 21) #[true, true, true, true, true, false, true, false, false, false, false, false, false, false, false, false, false, false, false, false, false, false, false, false, false, false, false, false, false, false, false, false, false] ?_
     refine pY (i := 7) (N := some 22) #[true, true, true, true, true, false, true, true, false, false, false, false, false, false, false, false, false, false, false, false, false, false, false, false, false, false, false, false, false, false, false, false, false] ?_
     refine pY (i := 8) (N := some 23) #[true, true, true, true, true, false, true, true, true, false, false, false, false, false, false, false, false, false, false, false, false, false, false, false, false, false, false, false, false, false, false, false, false] ?_
     refine pY (i := 9) (N := some 24) #[true, true, true, true, true, false, true, true, true, true, false, false, false, false, false, false, false, false, false, false, false, false, false, false, false, false, false, false, false, false, false, false, false] ?_
     refine take_ (i := 5) (N := some 20) (v := ?_) (a' := ?_) (bs 9 33) rfl rfl (take_ofW HT_.out HW_.out (by kernel_rfl)) (fun _ _ _ h => h) (Or.inl ⟨by rfl, ?_⟩) hHeld ?_ ?_
     rotate_left
     ·rintro w' ⟨s0, s1⟩
      go_simp
      with_reducible rfl
     rotate_left
     ·simp only [Act.put, List.setIfInBounds_toArray, List.set_cons_zero, List.set_cons_succ, i64_w, i32_w]
      rfl
     refine take_ (i := 10) (N := some 25) (v := ?_) (a' := ?_) (bs 10 33) rfl rfl (take_ofW HT_.out HW_.out (by kernel_rfl)) (fun _ _ _ h => h) (Or.inl ⟨by rfl, ?_⟩) hHeld ?_ ?_
     rotate_left
     ·rintro w' ⟨s0, s1⟩
      go_simp
      with_reducible rfl
     rotate_left
     ·simp only [Act.put, List.setIfInBounds_toArray, List.set_cons_zero, List.set_cons_succ, i64_w, i32_w]
      rfl
     refine pY (i := 11) (N := some 26) (bs 11 33) ?_
     refine pY (i := 12) (N := some 27) (bs 12 33) ?_
     refine pU (i := 13) (N := some 28) (bs 13 33) ?_
     refine pU (i := 14) (N := some 29) (bs 14 33) ?_
     refine pU (i := 15) (N := some 30) (bs 15 33) ?_
     refine pU (i := 16) (N := some 31) (bs 16 33) ?_
     refine pU (i := 17) (N := some 32) (bs 17 33) ?_
     refine pU (i := 18) (N := some 33) (bs 18 33) ?_
     refine pU (i := 19) (N := some 34) (bs 19 33) ?_
     refine pU (i := 20) (N := some 35) (bs 20 33) ?_
     refine pU (i := 21) (N := some 36) (bs 21 33) ?_
     refine pU (i := 22) (N := some 37) (bs 22 33) ?_
     refine pU (i := 23) (N := some 38) (bs 23 33) ?_
     refine pU (i := 24) (N := some 39) (bs 24 33) ?_
     refine pU (i := 25) (N := some 40) (bs 25 33) ?_
     refine pU (i := 26) (N := some 41) (bs 26 33) ?_
     refine pU (i := 27) (N := some 42) (bs 27 33) ?_
     refine pU (i := 28) (N := some 43) (bs 28 33) ?_
     refine pU (i := 29) (N := some 44) (bs 29 33) ?_
     refine pY (i := 30) (N := some 45) (bs 30 33) ?_
     refine pY (i := 31) (N := some 46) (bs 31 33) ?_
     refine last_ (i := 32) (N := none) (bs 32 33) rfl rfl (one_of HT_.out (by kernel_rfl)) (by decide) (fun K hK => ?_)
     refine skip_ (w1 := ?_) (by rfl) rfl ?_ ?_
     rotate_left
     ·go_simp
      rfl
     refine hK.out _ _ ?_
     clear hK K
     refine done_ (done_of HT_.out (by kernel_rfl)) ?_
     try go_wp2
     go_roundg k1
     case measure => have := HK1.out; omega
     case rel => exact ⟨(y112), (wrap64 (x4_1 - 1)), sD, H', ⟨by have := HK1.out; omega⟩, ⟨uR HQ16.out⟩, ⟨by repeat (first | (with_reducible first | exact HB.out | apply below_alloc | apply pw_below_drewN | apply below_drew1 | refine below_set ?_ GB14.out) | exact HB.out)⟩⟩
    ·by_cases c17 : (rd l0 x4_1) = (rd l0 (ji9))
     ·rw [if_pos c17] at H
      have c17b0 : ((rd l0 x4_1) == (rd l0 (ji9))) = true := beq_iff_eq.mpr c17
      have c17b1 : ((rd l0 x4_1) != (rd l0 (ji9))) = false := bne_eq_false_iff_eq.mpr c17
      clear c17
      obtain ⟨c18b0, c19b0, H⟩ := ifD2 H
      generalize hy116 : (x3_1.set (x4_1 : Int).toNat (rdOf false x3_1 (ji9)) : List Bool) = y116 at H
      try simp only [Option.bind_some] at H
      have Ny116 := Aside0.mk hy116.symm
      clear hy116
      have H' := Aside0.mk H
      clear H
      try go_wp2
      have n0_ := Aside0.mk (Kd.R_drew HO_3.out)
      have n1_ := Aside0.mk (below_drew1 HB.out)
      clear HO_3
      clear HB
      have HO_3 := n0_
      have HB := n1_
      clear n0_ n1_
      obtain ⟨ad110, e110, hx110_0, p110, q110⟩ := rI HR0.out x4_1
      have hw110_0 := hx110_0
      cases e110
      replace hx110_0 := (HB.out.cell (World.block_lt_of_cell? w _ hx110_0)).trans hx110_0
      obtain ⟨ad111, e111, hx111_0, p111, q111⟩ := rI HR0.out (ji9)
      have hw111_0 := hx111_0
      obtain rfl : ad110 = ad111 := (by injection e111)
      replace hx111_0 := (HB.out.cell (World.block_lt_of_cell? w _ hx111_0)).trans hx111_0
      obtain ⟨ad113, e113, hx113_0, p113, q113⟩ := rI HR0.out x4_1
      have hw113_0 := hx113_0
      obtain rfl : ad110 = ad113 := (by injection e113)
      replace hx113_0 := (HB.out.cell (World.block_lt_of_cell? w _ hx113_0)).trans hx113_0
      obtain ⟨ad114, e114, hx114_0, p114, q114⟩ := rI HR0.out (ji9)
      have hw114_0 := hx114_0
      obtain rfl : ad110 = ad114 := (by injection e114)
      replace hx114_0 := (HB.out.cell (World.block_lt_of_cell? w _ hx114_0)).trans hx114_0
      obtain ⟨Ao22, co22, eo22⟩ := Kd.R_slice HO_3.out
      (first | subst eo22 | (injection eo22 with f1_ f2_ f3_; have f4_ := f1_.symm; have f5_ := f3_.symm; clear f1_ f2_ f3_; subst f4_; subst f5_))
      obtain ⟨ad115, e115, hx115_0, p115, q115⟩ := rL (Kd.R_reads' HO_3.out).2.2 (ji9)
      cases e115
      have p20 : 0 ≤ (x4_1 : Int) := dT
      have q20 : (x4_1 : Int) < ((x3_1.length : Int) : Int) := dT
      obtain ⟨go20, co20, eo20, gb20, gl20, cl20, HG20⟩ := Kd.R_form HO_3.out (by omega)
      (first | cases eo20 | (injection eo20 with ea_ en_ ec_; (first | subst ea_ | (injection ea_ with ea_; subst ea_)); subst ec_; clear en_))
      have GB20 := Aside0.mk gb20
      have GG20 := Aside0.mk HG20
      clear gb20 gl20 HG20
      (first | simp only [add_plain] at hx115_0 | skip)
      obtain ⟨hx20_0, hf20_0⟩ := Kd.R_celln false HO_3.out (x4_1 : Int) p20 q20
      replace p20 := eq_true p20
      replace q20 := eq_true q20
      have HP23 := Kd.R_putn HO_3.out (x4_1 : Int) (rdOf false x3_1 (ji9))
      rw [← Ny116.out] at HP23
      have HQ23 := Aside0.mk HP23
      clear HP23
      refine start_ (n := 33) (S := fun w' => w'.cell? (ad110.add (x4_1).toNat) = some (.int .i64 (rd l0 x4_1)) ∧ w'.cell? (ad110.add ((ji9)).toNat) = some (.int .i64 (rd l0 (ji9))) ∧ w'.cell? (ad110.add (x4_1).toNat) = some (.int .i64 (rd l0 x4_1)) ∧ w'.cell? (ad110.add ((ji9)).toNat) = some (.int .i64 (rd l0 (ji9))) ∧ w'.cell? ⟨go20, ((ji9)).toNat, none⟩ = some (.bool (rdOf false x3_1 (ji9)))) (ds := [32]) #[false, false, false, false, false, false, false, false, false, false, false, false, false, false, false, false, false, false, false, false, false, false, false, false, false, false, false, false, false, false, false, false, false] (by kernel_rfl) rfl rfl ⟨((HB.out.cell (World.block_lt_of_cell? w _ hw110_0)).trans hw110_0), ((HB.out.cell (World.block_lt_of_cell? w _ hw111_0)).trans hw111_0), ((HB.out.cell (World.block_lt_of_cell? w _ hw113_0)).trans hw113_0), ((HB.out.cell (World.block_lt_of_cell? w _ hw114_0)).trans hw114_0), hx115_0⟩ (fun hHeld => ?_); refine with_tabW kinds_Small.tab5 kinds_Small.bits5 (fun HT_ HW_ => ?_)
      generalize wr.drew = w21 at HO_3 HB GG20 HQ23 hf20_0 hx110_0 hx111_0 hx113_0 hx114_0 hx115_0 hx20_0 hHeld ⊢
      refine pY (i := 0) (N := some 15) (bs 0 33) ?_
      refine pY (i := 1) (N := some 16) (bs 1 33) ?_
      refine pY (i := 2) (N := some 17) (bs 2 33) ?_
      refine pY (i := 3) (N := some 18) (bs 3 33) ?_
      refine pY (i := 4) (N := some 19) (bs 4 33) ?_
      refine pY (i := 6) (N := some 21) #[true, true, true, true, true, false, true, false, false, false, false, false, false, false, false, false, false, false, false, false, false, false, false, false, false, false, false, false, false, false, false, false, false] ?_
      refine pY (i := 7) (N := some 22) #[true, true, true, true, true, false, true, true, false, false, false, false, false, false, false, false, false, false, false, false, false, false, false, false, false, false, false, false, false, false, false, false, false] ?_
      refine pY (i := 8) (N := some 23) #[true, true, true, true, true, false, true, true, true, false, false, false, false, false, false, false, false, false, false, false, false, false, false, false, false, false, false, false, false, false, false, false, false] ?_
      refine pY (i := 9) (N := some 24) #[true, true, true, true, true, false, true, true, true, true, false, false, false, false, false, false, false, false, false, false, false, false, false, false, false, false, false, false, false, false, false, false, false] ?_
      refine take_ (i := 5) (N := some 20) (v := ?_) (a' := ?_) (bs 9 33) rfl rfl (take_ofW HT_.out HW_.out (by kernel_rfl)) (fun _ _ _ h => h) (Or.inl ⟨by rfl, ?_⟩) hHeld ?_ ?_
      rotate_left
      ·rintro w' ⟨s0, s1, s2, s3, s4⟩
       go_simp
       with_reducible rfl
      rotate_left
      ·simp only [Act.put, List.setIfInBounds_toArray, List.set_cons_zero, List.set_cons_succ, i64_w, i32_w]
       rfl
      refine take_ (i := 10) (N := some 25) (v := ?_) (a' := ?_) (bs 10 33) rfl rfl (take_ofW HT_.out HW_.out (by kernel_rfl)) (fun _ _ _ h => h) (Or.inl ⟨by rfl, ?_⟩) hHeld ?_ ?_
      rotate_left
      ·rintro w' ⟨s0, s1, s2, s3, s4⟩
       go_simp
       with_reducible rfl
      rotate_left
      ·simp only [Act.put, List.setIfInBounds_toArray, List.set_cons_zero, List.set_cons_succ, i64_w, i32_w]
       rfl
      refine pY (i := 11) (N := some 26) (bs 11 33) ?_
      refine pY (i := 12) (N := some 27) (bs 12 33) ?_
      refine pY (i := 13) (N := some 28) (bs 13 33) ?_
      refine pY (i := 14) (N := some 29) (bs 14 33) ?_
      refine pY (i := 15) (N := some 30) (bs 15 33) ?_
      refine pY (i := 17) (N := some 32) #[true, true, true, true, true, true, true, true, true, true, true, true, true, true, true, true, false, true, false, false, false, false, false, false, false, false, false, false, false, false, false, false, false] ?_
      refine pY (i := 18) (N := some 33) #[true, true, true, true, true, true, true, true, true, true, true, true, true, true, true, true, false, true, true, false, false, false, false, false, false, false, false, false, false, false, false, false, false] ?_
      refine pY (i := 19) (N := some 34) #[true, true, true, true, true, true, true, true, true, true, true, true, true, true, true, true, false, true, true, true, false, false, false, false, false, false, false, false, false, false, false, false, false] ?_
      refine pY (i := 20) (N := some 35) #[true, true, true, true, true, true, true, true, true, true, true, true, true, true, true, true, false, true, true, true, true, false, false, false, false, false, false, false, false, false, false, false, false] ?_
      refine take_ (i := 16) (N := some 31) (v := ?_) (a' := ?_) (bs 20 33) rfl rfl (take_ofW HT_.out HW_.out (by kernel_rfl)) (fun _ _ _ h => h) (Or.inl ⟨by rfl, ?_⟩) hHeld ?_ ?_
      rotate_left
      ·rintro w' ⟨s0, s1, s2, s3, s4⟩
       go_simp
       with_reducible rfl
      rotate_left
      ·simp only [Act.put, List.setIfInBounds_toArray, List.set_cons_zero, List.set_cons_succ, i64_w, i32_w]
       rfl
      refine take_ (i := 21) (N := some 36) (v := ?_) (a' := ?_) (bs 21 33) rfl rfl (take_ofW HT_.out HW_.out (by kernel_rfl)) (fun _ _ _ h => h) (Or.inl ⟨by rfl, ?_⟩) hHeld ?_ ?_
      rotate_left
      ·rintro w' ⟨s0, s1, s2, s3, s4⟩
       go_simp
       with_reducible rfl
      rotate_left
      ·simp only [Act.put, List.setIfInBounds_toArray, List.set_cons_zero, List.set_cons_succ, i64_w, i32_w]
       rfl
      refine pY (i := 22) (N := some 37) (bs 22 33) ?_
      refine pY (i := 23) (N := some 38) (bs 23 33) ?_
      refine pY (i := 24) (N := some 39) (bs 24 33) ?_
      refine pY (i := 25) (N := some 40) (bs 25 33) ?_
      refine pY (i := 26) (N := some 41) (bs 26 33) ?_
      refine pY (i := 27) (N := some 42) (bs 27 33) ?_
      refine take_ (i := 28) (N := some 43) (v := ?_) (a' := ?_) (bs 28 33) rfl rfl (take_ofW HT_.out HW_.out (by kernel_rfl)) (fun _ _ _ h => h) (Or.inl ⟨by rfl, ?_⟩) hHeld ?_ ?_
      rotate_left
      ·rintro w' ⟨s0, s1, s2, s3, s4⟩
       go_simp
       with_reducible rfl
      rotate_left
      ·simp only [Act.put, List.setIfInBounds_toArray, List.set_cons_zero, List.set_cons_succ, i64_w, i32_w]
       rfl
      refine pY (i := 29) (N := some 44) (bs 29 33) ?_
      refine pY (i := 30) (N := some 45) (bs 30 33) ?_
      refine pY (i := 31) (N := some 46) (bs 31 33) ?_
      refine last_ (i := 32) (N := none) (bs 32 33) rfl rfl (one_of HT_.out (by kernel_rfl)) (by decide) (fun K hK => ?_)
      refine skip_ (w1 := ?_) (by rfl) rfl ?_ ?_
      rotate_left
      ·go_simp
       rfl
      refine hK.out _ _ ?_
      clear hK K
      refine done_ (done_of HT_.out (by kernel_rfl)) ?_
      try go_wp2
      go_roundg k1
      case measure => have := HK1.out; omega
      case rel => exact ⟨(y116), (wrap64 (x4_1 - 1)), sD, H', ⟨by have := HK1.out; omega⟩, ⟨uR HQ23.out⟩, ⟨by repeat (first | (with_reducible first | exact HB.out | apply below_alloc | apply pw_below_drewN | apply below_drew1 | refine below_set ?_ GB20.out) | exact HB.out)⟩⟩
     ·rw [if_neg c17] at H
      have c17b0 : ((rd l0 x4_1) == (rd l0 (ji9))) = false := beq_eq_false_iff_ne.mpr c17
      have c17b1 : ((rd l0 x4_1) != (rd l0 (ji9))) = true := bne_iff_ne.mpr c17
      obtain ⟨c24b0, H⟩ := ifD H
      generalize hy117 : (x3_1.set (x4_1 : Int).toNat false : List Bool) = y117 at H
      try simp only [Option.bind_some] at H
      have Ny117 := Aside0.mk hy117.symm
      clear hy117
      have H' := Aside0.mk H
      clear H
      try go_wp2
      have n0_ := Aside0.mk (Kd.R_drew HO_3.out)
      have n1_ := Aside0.mk (below_drew1 HB.out)
      clear HO_3
      clear HB
      have HO_3 := n0_
      have HB := n1_
      clear n0_ n1_
      obtain ⟨ad110, e110, hx110_0, p110, q110⟩ := rI HR0.out x4_1
      have hw110_0 := hx110_0
      cases e110
      replace hx110_0 := (HB.out.cell (World.block_lt_of_cell? w _ hx110_0)).trans hx110_0
      obtain ⟨ad111, e111, hx111_0, p111, q111⟩ := rI HR0.out (ji9)
      have hw111_0 := hx111_0
      obtain rfl : ad110 = ad111 := (by injection e111)
      replace hx111_0 := (HB.out.cell (World.block_lt_of_cell? w _ hx111_0)).trans hx111_0
      obtain ⟨ad113, e113, hx113_0, p113, q113⟩ := rI HR0.out x4_1
      have hw113_0 := hx113_0
      obtain rfl : ad110 = ad113 := (by injection e113)
      replace hx113_0 := (HB.out.cell (World.block_lt_of_cell? w _ hx113_0)).trans hx113_0
      obtain ⟨ad114, e114, hx114_0, p114, q114⟩ := rI HR0.out (ji9)
      have hw114_0 := hx114_0
      obtain rfl : ad110 = ad114 := (by injection e114)
      replace hx114_0 := (HB.out.cell (World.block_lt_of_cell? w _ hx114_0)).trans hx114_0
      have p25 : 0 ≤ (x4_1 : Int) := dT
      have q25 : (x4_1 : Int) < ((x3_1.length : Int) : Int) := dT
      obtain ⟨go25, co25, eo25, gb25, gl25, cl25, HG25⟩ := Kd.R_form HO_3.out (by omega)
      (first | cases eo25 | (injection eo25 with ea_ en_ ec_; (first | subst ea_ | (injection ea_ with ea_; subst ea_)); subst ec_; clear en_))
      have GB25 := Aside0.mk gb25
      have GG25 := Aside0.mk HG25
      clear gb25 gl25 HG25
      obtain ⟨hx25_0, hf25_0⟩ := Kd.R_celln false HO_3.out (x4_1 : Int) p25 q25
      replace p25 := eq_true p25
      replace q25 := eq_true q25
      have HP27 := Kd.R_putn HO_3.out (x4_1 : Int) false
      rw [← Ny117.out] at HP27
      have HQ27 := Aside0.mk HP27
      clear HP27
      refine start_ (n := 33) (S := fun w' => w'.cell? (ad110.add (x4_1).toNat) = some (.int .i64 (rd l0 x4_1)) ∧ w'.cell? (ad110.add ((ji9)).toNat) = some (.int .i64 (rd l0 (ji9))) ∧ w'.cell? (ad110.add (x4_1).toNat) = some (.int .i64 (rd l0 x4_1)) ∧ w'.cell? (ad110.add ((ji9)).toNat) = some (.int .i64 (rd l0 (ji9)))) (ds := [32]) #[false, false, false, false, false, false, false, false, false, false, false, false, false, false, false, false, false, false, false, false, false, false, false, false, false, false, false, false, false, false, false, false, false] (by kernel_rfl) rfl rfl ⟨((HB.out.cell (World.block_lt_of_cell? w _ hw110_0)).trans hw110_0), ((HB.out.cell (World.block_lt_of_cell? w _ hw111_0)).trans hw111_0), ((HB.out.cell (World.block_lt_of_cell? w _ hw113_0)).trans hw113_0), ((HB.out.cell (World.block_lt_of_cell? w _ hw114_0)).trans hw114_0)⟩ (fun hHeld => ?_); refine with_tabW kinds_Small.tab5 kinds_Small.bits5 (fun HT_ HW_ => ?_)
      generalize wr.drew = w26 at HO_3 HB GG25 HQ27 hf25_0 hx110_0 hx111_0 hx113_0 hx114_0 hx25_0 hHeld ⊢
      refine pY (i := 0) (N := some 15) (bs 0 33) ?_
      refine pY (i := 1) (N := some 16) (bs 1 33) ?_
      refine pY (i := 2) (N := some 17) (bs 2 33) ?_
      refine pY (i := 3) (N := some 18) (bs 3 33) ?_
      refine pY (i := 4) (N := some 19) (bs 4 33) ?_
      refine pY (i := 6) (N := some 21) #[true, true, true, true, true, false, true, false, false, false, false, false, false, false, false, false, false, false, false, false, false, false, false, false, false, false, false, false, false, false, false, false, false] ?_
      refine pY (i := 7) (N := some 22) #[true, true, true, true, true, false, true, true, false, false, false, false, false, false, false, false, false, false, false, false, false, false, false, false, false, false, false, false, false, false, false, false, false] ?_
      refine pY (i := 8) (N := some 23) #[true, true, true, true, true, false, true, true, true, false, false, false, false, false, false, false, false, false, false, false, false, false, false, false, false, false, false, false, false, false, false, false, false] ?_
      refine pY (i := 9) (N := some 24) #[true, true, true, true, true, false, true, true, true, true, false, false, false, false, false, false, false, false, false, false, false, false, false, false, false, false, false, false, false, false, false, false, false] ?_
      refine take_ (i := 5) (N := some 20) (v := ?_) (a' := ?_) (bs 9 33) rfl rfl (take_ofW HT_.out HW_.out (by kernel_rfl)) (fun _ _ _ h => h) (Or.inl ⟨by rfl, ?_⟩) hHeld ?_ ?_
      rotate_left
      ·rintro w' ⟨s0, s1, s2, s3⟩
       go_simp
       with_reducible rfl
      rotate_left
      ·simp only [Act.put, List.setIfInBounds_toArray, List.set_cons_zero, List.set_cons_succ, i64_w, i32_w]
       rfl
      refine take_ (i := 10) (N := some 25) (v := ?_) (a' := ?_) (bs 10 33) rfl rfl (take_ofW HT_.out HW_.out (by kernel_rfl)) (fun _ _ _ h => h) (Or.inl ⟨by rfl, ?_⟩) hHeld ?_ ?_
      rotate_left
      ·rintro w' ⟨s0, s1, s2, s3⟩
       go_simp
       with_reducible rfl
      rotate_left
      ·simp only [Act.put, List.setIfInBounds_toArray, List.set_cons_zero, List.set_cons_succ, i64_w, i32_w]
       rfl
      refine pY (i := 11) (N := some 26) (bs 11 33) ?_
      refine pY (i := 12) (N := some 27) (bs 12 33) ?_
      refine pY (i := 13) (N := some 28) (bs 13 33) ?_
      refine pY (i := 14) (N := some 29) (bs 14 33) ?_
      refine pY (i := 15) (N := some 30) (bs 15 33) ?_
      refine pY (i := 17) (N := some 32) #[true, true, true, true, true, true, true, true, true, true, true, true, true, true, true, true, false, true, false, false, false, false, false, false, false, false, false, false, false, false, false, false, false] ?_
      refine pY (i := 18) (N := some 33) #[true, true, true, true, true, true, true, true, true, true, true, true, true, true, true, true, false, true, true, false, false, false, false, false, false, false, false, false, false, false, false, false, false] ?_
      refine pY (i := 19) (N := some 34) #[true, true, true, true, true, true, true, true, true, true, true, true, true, true, true, true, false, true, true, true, false, false, false, false, false, false, false, false, false, false, false, false, false] ?_
      refine pY (i := 20) (N := some 35) #[true, true, true, true, true, true, true, true, true, true, true, true, true, true, true, true, false, true, true, true, true, false, false, false, false, false, false, false, false, false, false, false, false] ?_
      refine take_ (i := 16) (N := some 31) (v := ?_) (a' := ?_) (bs 20 33) rfl rfl (take_ofW HT_.out HW_.out (by kernel_rfl)) (fun _ _ _ h => h) (Or.inl ⟨by rfl, ?_⟩) hHeld ?_ ?_
      rotate_left
      ·rintro w' ⟨s0, s1, s2, s3⟩
       go_simp
       with_reducible rfl
      rotate_left
      ·simp only [Act.put, List.setIfInBounds_toArray, List.set_cons_zero, List.set_cons_succ, i64_w, i32_w]
       rfl
      refine take_ (i := 21) (N := some 36) (v := ?_) (a' := ?_) (bs 21 33) rfl rfl (take_ofW HT_.out HW_.out (by kernel_rfl)) (fun _ _ _ h => h) (Or.inl ⟨by rfl, ?_⟩) hHeld ?_ ?_
      rotate_left
      ·rintro w' ⟨s0, s1, s2, s3⟩
       go_simp
       with_reducible rfl
      rotate_left
      ·simp only [Act.put, List.setIfInBounds_toArray, List.set_cons_zero, List.set_cons_succ, i64_w, i32_w]
       rfl
      refine pY (i := 22) (N := some 37) (bs 22 33) ?_
      refine pY (i := 23) (N := some 38) (bs 23 33) ?_
      refine pU (i := 24) (N := some 39) (bs 24 33) ?_
      refine pU (i := 25) (N := some 40) (bs 25 33) ?_
      refine pU (i := 26) (N := some 41) (bs 26 33) ?_
      refine pU (i := 27) (N := some 42) (bs 27 33) ?_
      refine pU (i := 28) (N := some 43) (bs 28 33) ?_
      refine pY (i := 29) (N := some 44) (bs 29 33) ?_
      refine pY (i := 30) (N := some 45) (bs 30 33) ?_
      refine pY (i := 31) (N := some 46) (bs 31 33) ?_
      refine last_ (i := 32) (N := none) (bs 32 33) rfl rfl (one_of HT_.out (by kernel_rfl)) (by decide) (fun K hK => ?_)
      refine skip_ (w1 := ?_) (by rfl) rfl ?_ ?_
      rotate_left
      ·go_simp
       rfl
      refine hK.out _ _ ?_
      clear hK K
      refine done_ (done_of HT_.out (by kernel_rfl)) ?_
      try go_wp2
      go_roundg k1
      case measure => have := HK1.out; omega
      case rel => exact ⟨(y117), (wrap64 (x4_1 - 1)), sD, H', ⟨by have := HK1.out; omega⟩, ⟨uR HQ27.out⟩, ⟨by repeat (first | (with_reducible first | exact HB.out | apply below_alloc | apply pw_below_drewN | apply below_drew1 | refine below_set ?_ GB25.out) | exact HB.out)⟩⟩
   ·obtain rfl := Option.some.inj H
    go_wp2
    go_ret
    exact ⟨_, eR, uR HO_3.out, uB⟩
end Go.Proofs.Ytbbpplnnegdenaa.PTopThree
end
section
namespace Go.Proofs.Ytbbpplnnegdenaa.PTopThree
open Go.RowKit Go.Proofs.YtbbpplnnegdenaaW.PrintWords Go.Proofs.YtbbpplnnegdenaaW.PrintLast Go.Proofs.YtbbpplnnegdenaaW.PrintMore
attribute [local go_sem] max2_int min2_int max_two min_two max_three min_three max_four min_four
set_option linter.unusedVariables false
set_option linter.unusedSimpArgs false
def kinds_First.l0 : Nat → List Int → List Bool → Int → Int → Option (List Int)
  | 0, _, _, _, _ => none
  | k + 1, x3, x4, x9, x10 => if x10 < x9 then (if x10 > 0 then (if 0 ≤ x10 then (if x10 < (x4.length : Int) then (if rdOf false x4 x10 = true then (if 0 ≤ (wrap64 (x10 - 1)) then (if (wrap64 (x10 - 1)) < (x4.length : Int) then (if (rdOf false x4 (wrap64 (x10 - 1)) = true) then (kinds_First.l0 k x3 x4 x9 (wrap64 (x10 + 1))) else (if x3.length < 17592186044416 then (kinds_First.l0 k (x3 ++ [x10]) x4 x9 (wrap64 (x10 + 1))) else (none))) else (none)) else (none)) else (kinds_First.l0 k x3 x4 x9 (wrap64 (x10 + 1)))) else (none)) else (none)) else (kinds_First.l0 k x3 x4 x9 (wrap64 (x10 + 1)))) else (some x3)
def kinds_First.f (k : Nat) (l0 : List Int) : Option (List Int) := (kinds_Small.f k l0).bind fun t118 => (kinds_First.l0 k ([] : List Int) t118 (l0.length : Int) 0)
theorem kinds_First.mono_l : ∀ k, (∀ y0 y1 y2 y3, LeO (kinds_First.l0 k y0 y1 y2 y3) (kinds_First.l0 (k + 1) y0 y1 y2 y3))
  | 0 => fun _ _ _ _ r h => by simp [kinds_First.l0] at h
  | k + 1 => by
    have ih0 := kinds_First.mono_l k
    · intro y0 y1 y2 y3
      unfold kinds_First.l0
      have m0 := @kinds_Small.mono
      exact mB
theorem kinds_First.mono : ∀ a0 k, LeO (kinds_First.f k a0) (kinds_First.f (k + 1) a0) := by
  intro a0 k
  have ih0 := kinds_First.mono_l k
  unfold kinds_First.f
  have m0 := @kinds_Small.mono
  exact mB
set_option maxHeartbeats 8000000 in
set_option maxRecDepth 100000 in
theorem kinds_First.calls (k : Nat) (A0 : Option Addr) (c0 : Nat) (l0 : List Int) (r : List Int) (w : World) (hr0 : Kd.C (Kd.int .i64) w A0 l0.length l0) (hc0 : l0.length ≤ c0) (h : kinds_First.f k l0 = some r) :
    Calls Try.prog 27 #[.slice A0 l0.length c0] w fun e w' => ∃ v0_ : Value, e = .returned (v0_) ∧ Kd.R (Kd.int .i64) 3 w' w.heap.size (fun _ => True) v0_ r ∧ Below w.heap.size w w' := by
 have HR0 := Aside0.mk hr0
 have HC0 := Aside0.mk hc0
 clear hr0 hc0
 have HB := Aside0.mk (Below.refl w.heap.size w)
 have H := h
 clear h
 unfold kinds_First.f at H
 obtain ⟨t118, A2, H⟩ := bdS H
 try dsimp only at H
 have H' := Aside0.mk H
 clear H
 go_enter Try.func27, Try.ntmps27
 go_wp2_with (first | ((with_reducible refine gate_callee (f := 45) rfl ?_); refine goesL_ (some 7) rfl rfl Try.func45 (by kernel_rfl) rfl #[.slice A0 l0.length c0] rfl aE ?_; (with_reducible refine (kinds_Small.calls k _ _ l0 t118 _ ?side1 ?side2 A2.out).mono ?_); (case side1 => exact uC HR0.out); (case side2 => exact HC0.out); rintro e w3 ⟨v119, rfl, ho0, hb⟩; refine ⟨_, rfl, ?_⟩; have n0_ := Aside0.mk (Kd.R_lower ho0 (below_size uB)); have n1_ := Aside0.mk (below_step uB hb); clear HB; have HO120 := n0_; have HB := n1_; clear n0_ n1_; (try clear hb); (try clear hb2); (try clear hk); (try clear hi); (try clear ho0)))
 go_loopg [3, 10] k (fun kq v3 v10 w' => ∃ (x3_1 : List Int) (x10_1 : Int), v10 = .int .i64 x10_1 ∧ Aside0 (kinds_First.l0 kq x3_1 t118 (l0.length : Int) x10_1 = some r) ∧ Aside0 (kq ≤ k) ∧ Aside0 (Kd.R (Kd.int .i64) 3 w' w.heap.size (fun _ => True) v3 x3_1) ∧ Aside0 (Kd.R Kd.bool 4 w' w.heap.size (fun _ => True) v119 t118) ∧ Aside0 (Below w.heap.size w w'))
 case atStart => exact ⟨(([] : List Int)), (0), sD, H', ⟨Nat.le_refl _⟩, ⟨nL⟩, ⟨uR HO120.out⟩, ⟨uB⟩⟩
 case round =>
  clear H'
  try clear c2
  try clear p2
  obtain ⟨x3_1, x10_1, rfl, HA, HK1, HO_3, HO_4, HB⟩ := hrel
  cases gk with
  | zero => exact absurd HA.out (by simp [kinds_First.l0])
  | succ k1 =>
   have H := HA.out
   clear HA
   simp only [kinds_First.l0] at H
   rcases ifC H with ⟨c4b0, H⟩ | ⟨c4b0, H⟩
   ·rcases ifK H with ⟨c5b0, H⟩ | ⟨c5b0, H⟩
    ·obtain ⟨c6b0, c7b0, H⟩ := ifD2 H
     obtain ⟨bq8, hbq8⟩ : ∃ b_ : Bool, b_ = (rdOf false t118 x10_1) := ⟨_, rfl⟩
     replace H : (if bq8 = true then (if 0 ≤ (wrap64 (x10_1 - 1)) then (if (wrap64 (x10_1 - 1)) < (t118.length : Int) then (if (rdOf false t118 (wrap64 (x10_1 - 1)) = true) then (kinds_First.l0 k1 x3_1 t118 (l0.length : Int) (wrap64 (x10_1 + 1))) else (if x3_1.length < 17592186044416 then (kinds_First.l0 k1 (x3_1 ++ [x10_1]) t118 (l0.length : Int) (wrap64 (x10_1 + 1))) else (none))) else (none)) else (none)) else (kinds_First.l0 k1 x3_1 t118 (l0.length : Int) (wrap64 (x10_1 + 1)))) = some r := by rw [← hbq8] at H; exact H
     have Nbq8 := Aside0.mk hbq8
     clear hbq8
     by_cases c9 : bq8 = true
     ·subst c9
      rw [if_pos rfl] at H
      obtain ⟨ji10, hji10⟩ : ∃ j_ : Int, (wrap64 (x10_1 - 1)) = j_ := ⟨_, rfl⟩
      first | rw [hji10] at H | simp only [hji10] at H
      have hji10w : (IntKind.i64.wrap (x10_1 - 1)) = ji10 := (i64_w _).trans hji10
      obtain ⟨c11b0, c12b0, H⟩ := ifD2 H
      obtain ⟨bq13, hbq13⟩ : ∃ b_ : Bool, b_ = (rdOf false t118 (ji10)) := ⟨_, rfl⟩
      replace H : (if (bq13 = true) then (kinds_First.l0 k1 x3_1 t118 (l0.length : Int) (wrap64 (x10_1 + 1))) else (if x3_1.length < 17592186044416 then (kinds_First.l0 k1 (x3_1 ++ [x10_1]) t118 (l0.length : Int) (wrap64 (x10_1 + 1))) else (none))) = some r := by rw [← hbq13] at H; exact H
      have Nbq13 := Aside0.mk hbq13
      clear hbq13
      by_cases c14 : (bq13 = true)
      ·subst c14
       rw [if_pos rfl] at H
       have H' := Aside0.mk H
       clear H
       obtain ⟨Ao15, co15, eo15⟩ := Kd.R_slice HO_4.out
       subst eo15
       have p121 : 0 ≤ (x10_1 : Int) := dT
       have q121 : x10_1 < (t118.length : Int) := dT
       obtain ⟨ad121, e121, hx121_0⟩ := Kd.at_bool (Kd.R_reads' HO_4.out).2.2 x10_1 p121 q121
       (try rw [← Nbq8.out] at hx121_0)
       (try rw [← Nbq13.out] at hx121_0)
       cases e121
       replace p121 := eq_true p121
       replace q121 := eq_true q121
       have p122 : 0 ≤ ((ji10) : Int) := dT
       have q122 : (ji10) < (t118.length : Int) := dT
       obtain ⟨ad122, e122, hx122_0⟩ := Kd.at_bool (Kd.R_reads' HO_4.out).2.2 (ji10) p122 q122
       (try rw [← Nbq8.out] at hx122_0)
       (try rw [← Nbq13.out] at hx122_0)
       obtain rfl : ad121 = ad122 := (by injection e122)
       replace p122 := eq_true p122
       replace q122 := eq_true q122
       go_wp2
       go_roundg k1
       case measure => have := HK1.out; omega
       case rel => exact ⟨(x3_1), (wrap64 (x10_1 + 1)), sD, H', ⟨by have := HK1.out; omega⟩, ⟨uR HO_3.out⟩, ⟨uR HO_4.out⟩, ⟨uB⟩⟩
      ·replace c14 := Bool.eq_false_iff.mpr c14
       subst c14
       rw [if_neg (by decide)] at H
       obtain ⟨c16, H⟩ := ifP H
       have LMc16 := Aside0.mk c16
       clear c16
       generalize hy123 : (x3_1 ++ [x10_1] : List Int) = y123 at H
       try simp only [Option.bind_some] at H
       have Ny123 := Aside0.mk hy123.symm
       clear hy123
       have H' := Aside0.mk H
       clear H
       obtain ⟨Ao17, co17, eo17⟩ := Kd.R_slice HO_4.out
       subst eo17
       have p121 : 0 ≤ (x10_1 : Int) := dT
       have q121 : x10_1 < (t118.length : Int) := dT
       obtain ⟨ad121, e121, hx121_0⟩ := Kd.at_bool (Kd.R_reads' HO_4.out).2.2 x10_1 p121 q121
       (try rw [← Nbq8.out] at hx121_0)
       (try rw [← Nbq13.out] at hx121_0)
       cases e121
       replace p121 := eq_true p121
       replace q121 := eq_true q121
       have p122 : 0 ≤ ((ji10) : Int) := dT
       have q122 : (ji10) < (t118.length : Int) := dT
       obtain ⟨ad122, e122, hx122_0⟩ := Kd.at_bool (Kd.R_reads' HO_4.out).2.2 (ji10) p122 q122
       (try rw [← Nbq8.out] at hx122_0)
       (try rw [← Nbq13.out] at hx122_0)
       obtain rfl : ad121 = ad122 := (by injection e122)
       replace p122 := eq_true p122
       replace q122 := eq_true q122
       go_wp2_with (first | ((with_reducible refine gate_builtin (b := .append) (xs := #[.tmp 29, .tmp 31]) rfl ?_); at_builtin; refine Kd.R_append (Kd.int .i64) (w0 := w) w.heap.size rfl (.tmp 29) (.tmp 31) 23 3 (.int .i64 0) 8 rfl Try.underlying23 info3 rfl (by decide) (by omega) u3 x3_1 x10_1 [.int .i64 x10_1] (fun _ => True) (fun _ => False) rfl rfl ?aP (fun _ hk => hk.elim) ?aF ?aO ?aB ?aS ?aL ?_; (case aP => exact rfl); (case aB => exact uB); (case aF => exact (fun _ _ => trivial)); (case aO => exact (uR HO_3.out)); (case aS => exact (below_size uB)); (case aL => have := LMc16.out; omega); intro v124 w18 ho hb hg hat; rw [← Ny123.out] at ho; have n0_ := Aside0.mk (Kd.R_over' (uR HO_4.out) (Kd.R_typed (uR HO_3.out)) (by decide) hg); have n1_ := Aside0.mk (hb); have n2_ := Aside0.mk (ho); clear HO_4; clear HB; clear HO_3; have HO_4 := n0_; have HB := n1_; have HO125 := n2_; clear n0_ n1_ n2_; clear ho hb hg hat))
       go_roundg k1
       case measure => have := HK1.out; omega
       case rel => exact ⟨(y123), (wrap64 (x10_1 + 1)), sD, H', ⟨by have := HK1.out; omega⟩, ⟨uR HO125.out⟩, ⟨uR HO_4.out⟩, ⟨uB⟩⟩
     ·replace c9 := Bool.eq_false_iff.mpr c9
      subst c9
      rw [if_neg (by decide)] at H
      have H' := Aside0.mk H
      clear H
      obtain ⟨Ao19, co19, eo19⟩ := Kd.R_slice HO_4.out
      subst eo19
      have p121 : 0 ≤ (x10_1 : Int) := dT
      have q121 : x10_1 < (t118.length : Int) := dT
      obtain ⟨ad121, e121, hx121_0⟩ := Kd.at_bool (Kd.R_reads' HO_4.out).2.2 x10_1 p121 q121
      (try rw [← Nbq8.out] at hx121_0)
      cases e121
      replace p121 := eq_true p121
      replace q121 := eq_true q121
      go_wp2
      go_roundg k1
      case measure => have := HK1.out; omega
      case rel => exact ⟨(x3_1), (wrap64 (x10_1 + 1)), sD, H', ⟨by have := HK1.out; omega⟩, ⟨uR HO_3.out⟩, ⟨uR HO_4.out⟩, ⟨uB⟩⟩
    ·have H' := Aside0.mk H
     clear H
     go_wp2
     go_roundg k1
     case measure => have := HK1.out; omega
     case rel => exact ⟨(x3_1), (wrap64 (x10_1 + 1)), sD, H', ⟨by have := HK1.out; omega⟩, ⟨uR HO_3.out⟩, ⟨uR HO_4.out⟩, ⟨uB⟩⟩
   ·obtain rfl := Option.some.inj H
    go_wp2
    go_ret
    exact ⟨_, eR, uR HO_3.out, uB⟩
def slices_Equal_int_int.l0 : Nat → List Int → List Int → Int → Int → Option (Bool)
  | 0, _, _, _, _ => none
  | k + 1, x0, x1, x12, x13 => if x13 < x12 then (if 0 ≤ x13 then (if x13 < (x0.length : Int) then (if x13 < (x1.length : Int) then (if (rd x0 x13) = (rd x1 x13) then (slices_Equal_int_int.l0 k x0 x1 x12 (wrap64 (x13 + 1))) else (some false)) else (none)) else (none)) else (none)) else (some true)
def slices_Equal_int_int.f (k : Nat) (l0 : List Int) (l1 : List Int) : Option (Bool) := if (l0.length : Int) = (l1.length : Int) then (slices_Equal_int_int.l0 k l0 l1 (l0.length : Int) 0) else (some false)
theorem slices_Equal_int_int.mono_l : ∀ k, (∀ y0 y1 y2 y3, LeO (slices_Equal_int_int.l0 k y0 y1 y2 y3) (slices_Equal_int_int.l0 (k + 1) y0 y1 y2 y3))
  | 0 => fun _ _ _ _ r h => by simp [slices_Equal_int_int.l0] at h
  | k + 1 => by
    have ih0 := slices_Equal_int_int.mono_l k
    · intro y0 y1 y2 y3
      unfold slices_Equal_int_int.l0
      exact mB
theorem slices_Equal_int_int.mono : ∀ a0 a1 k, LeO (slices_Equal_int_int.f k a0 a1) (slices_Equal_int_int.f (k + 1) a0 a1) := by
  intro a0 a1 k
  have ih0 := slices_Equal_int_int.mono_l k
  unfold slices_Equal_int_int.f
  exact mB
set_option maxHeartbeats 8000000 in
set_option maxRecDepth 100000 in
theorem slices_Equal_int_int.calls (k : Nat) (A0 : Option Addr) (c0 : Nat) (l0 : List Int) (A1 : Option Addr) (c1 : Nat) (l1 : List Int) (r : Bool) (w : World) (hr0 : Kd.C (Kd.int .i64) w A0 l0.length l0) (hc0 : l0.length ≤ c0) (hr1 : Kd.C (Kd.int .i64) w A1 l1.length l1) (hc1 : l1.length ≤ c1) (h : slices_Equal_int_int.f k l0 l1 = some r) :
    Calls Try.prog 25 #[.slice A0 l0.length c0, .slice A1 l1.length c1] w fun e w' => e = .returned (.bool r) ∧ Drawn0 w w' := by
 have HR0 := Aside0.mk hr0
 have HC0 := Aside0.mk hc0
 clear hr0 hc0
 have HR1 := Aside0.mk hr1
 have HC1 := Aside0.mk hc1
 clear hr1 hc1
 have H := h
 clear h
 unfold slices_Equal_int_int.f at H
 by_cases c3 : (l0.length : Int) = (l1.length : Int)
 ·rw [if_pos c3] at H
  have c3b0 : ((l0.length : Int) == (l1.length : Int)) = true := beq_iff_eq.mpr c3
  have c3b1 : ((l0.length : Int) != (l1.length : Int)) = false := bne_eq_false_iff_eq.mpr c3
  have c3b2 : (l0.length == l1.length) = true := by first | simpa using c3 | (simp at c3 ⊢; omega)
  clear c3
  have H' := Aside0.mk H
  clear H
  go_enter Try.func25, Try.ntmps25
  go_wp2
  repeat (go_quiet (fail); try go_wp2)
  go_loopg [13] k (fun kq v13 w' => ∃ (x13_1 : Int), v13 = .int .i64 x13_1 ∧ Aside0 (slices_Equal_int_int.l0 kq l0 l1 (l0.length : Int) x13_1 = some r) ∧ Aside0 (kq ≤ k) ∧ Drawn0 w w')
  case atStart => exact ⟨(0), sD, H', ⟨Nat.le_refl _⟩, dD⟩
  case round =>
   clear H'
   try clear c1
   try clear c2
   try clear p2
   try clear c3
   try clear c3b0
   try clear c3b1
   try clear c3b2
   obtain ⟨x13_1, rfl, HA, HK1, ⟨m1, rfl⟩⟩ := hrel
   cases gk with
   | zero => exact absurd HA.out (by simp [slices_Equal_int_int.l0])
   | succ k1 =>
    have H := HA.out
    clear HA
    simp only [slices_Equal_int_int.l0] at H
    rcases ifC H with ⟨c4b0, H⟩ | ⟨c4b0, H⟩
    ·obtain ⟨c5b0, H⟩ := ifD H
     obtain ⟨c6b0, c7b0, H⟩ := ifD2 H
     by_cases c8 : (rd l0 x13_1) = (rd l1 x13_1)
     ·rw [if_pos c8] at H
      have c8b0 : ((rd l0 x13_1) == (rd l1 x13_1)) = true := beq_iff_eq.mpr c8
      have c8b1 : ((rd l0 x13_1) != (rd l1 x13_1)) = false := bne_eq_false_iff_eq.mpr c8
      clear c8
      have H' := Aside0.mk H
      clear H
      obtain ⟨ad126, e126, hx126_0, p126, q126⟩ := rI HR0.out x13_1
      cases e126
      obtain ⟨ad127, e127, hx127_0, p127, q127⟩ := rI HR1.out x13_1
      cases e127
      go_wp2
      repeat (go_quiet (fail); try go_wp2)
      go_roundg k1
      case measure => have := HK1.out; omega
      case rel => exact ⟨(wrap64 (x13_1 + 1)), sD, H', ⟨by have := HK1.out; omega⟩, dD⟩
     ·rw [if_neg c8] at H
      have c8b0 : ((rd l0 x13_1) == (rd l1 x13_1)) = false := beq_eq_false_iff_ne.mpr c8
      have c8b1 : ((rd l0 x13_1) != (rd l1 x13_1)) = true := bne_iff_ne.mpr c8
      obtain rfl := Option.some.inj H
      obtain ⟨ad126, e126, hx126_0, p126, q126⟩ := rI HR0.out x13_1
      cases e126
      obtain ⟨ad127, e127, hx127_0, p127, q127⟩ := rI HR1.out x13_1
      cases e127
      go_wp2
      repeat (go_quiet (fail); try go_wp2)
      go_ret
      exact ⟨sD, dD⟩
    ·obtain rfl := Option.some.inj H
     go_wp2
     repeat (go_quiet (fail); try go_wp2)
     go_ret
     exact ⟨sD, dD⟩
 ·rw [if_neg c3] at H
  have c3b0 : ((l0.length : Int) == (l1.length : Int)) = false := beq_eq_false_iff_ne.mpr c3
  have c3b1 : ((l0.length : Int) != (l1.length : Int)) = true := bne_iff_ne.mpr c3
  have c3b2 : (l0.length == l1.length) = false := by first | simpa using c3 | (simp at c3 ⊢; omega)
  obtain rfl := Option.some.inj H
  go_enter Try.func25, Try.ntmps25
  go_wp2
  repeat (go_quiet (fail); try go_wp2)
  go_ret
  exact ⟨sD, dD⟩
def cmp_isNaN_int.f (a0 : Int) : Option (Bool) := some (a0 != a0)
set_option maxHeartbeats 8000000 in
set_option maxRecDepth 100000 in
theorem cmp_isNaN_int.calls (a0 : Int) (r : Bool) (w : World) (h : cmp_isNaN_int.f a0 = some r) :
    Calls Try.prog 79 #[.int .i64 a0] w fun e w' => e = .returned (.bool r) ∧ Drawn0 w w' := by
 have H := h
 clear h
 unfold cmp_isNaN_int.f at H
 obtain rfl := Option.some.inj H
 go_enter Try.func79, Try.ntmps79
 go_wp2
 go_ret
 exact ⟨sD, dD⟩
def cmp_Less_int.f (a0 : Int) (a1 : Int) : Option (Bool) := (cmp_isNaN_int.f a0).bind fun t128 => (if t128 = true then ((cmp_isNaN_int.f a1).bind fun t129 => (if t129 = true then (some (decide (a0 < a1))) else (some true))) else (some (decide (a0 < a1))))
set_option maxHeartbeats 8000000 in
set_option maxRecDepth 100000 in
theorem cmp_Less_int.calls (a0 : Int) (a1 : Int) (r : Bool) (w : World) (h : cmp_Less_int.f a0 a1 = some r) :
    Calls Try.prog 71 #[.int .i64 a0, .int .i64 a1] w fun e w' => e = .returned (.bool r) ∧ Drawn0 w w' := by
 have H := h
 clear h
 unfold cmp_Less_int.f at H
 obtain ⟨t128, A3, H⟩ := bdS H
 try dsimp only at H
 by_cases c4 : t128 = true
 ·subst c4
  rw [if_pos rfl] at H
  obtain ⟨t129, A5, H⟩ := bdS H
  try dsimp only at H
  by_cases c6 : t129 = true
  ·subst c6
   rw [if_pos rfl] at H
   obtain rfl := Option.some.inj H
   go_enter Try.func71, Try.ntmps71
   go_wp2_with (first | ((with_reducible refine gate_callee (f := 79) rfl ?_); refine goesL_ (some 6) rfl rfl Try.func79 (by kernel_rfl) rfl #[.int .i64 a0] rfl aE ?_; (with_reducible refine (cmp_isNaN_int.calls a0 true _ A3.out).mono ?_); rintro e w' ⟨rfl, ⟨nd, rfl⟩⟩; refine ⟨_, rfl, ?_⟩) | (go_at_call 79; (with_reducible refine (cmp_isNaN_int.calls a1 true _ A5.out).mono ?_); rintro e w' ⟨rfl, ⟨nd, rfl⟩⟩))
   go_ret
   exact ⟨sD, dD⟩
  ·replace c6 := Bool.eq_false_iff.mpr c6
   subst c6
   rw [if_neg (by decide)] at H
   obtain rfl := Option.some.inj H
   go_enter Try.func71, Try.ntmps71
   go_wp2_with (first | ((with_reducible refine gate_callee (f := 79) rfl ?_); refine goesL_ (some 6) rfl rfl Try.func79 (by kernel_rfl) rfl #[.int .i64 a0] rfl aE ?_; (with_reducible refine (cmp_isNaN_int.calls a0 true _ A3.out).mono ?_); rintro e w' ⟨rfl, ⟨nd, rfl⟩⟩; refine ⟨_, rfl, ?_⟩) | (go_at_call 79; (with_reducible refine (cmp_isNaN_int.calls a1 false _ A5.out).mono ?_); rintro e w' ⟨rfl, ⟨nd, rfl⟩⟩))
   go_ret
   exact ⟨sD, dD⟩
 ·replace c4 := Bool.eq_false_iff.mpr c4
  subst c4
  rw [if_neg (by decide)] at H
  obtain rfl := Option.some.inj H
  go_enter Try.func71, Try.ntmps71
  go_wp2_with (first | ((with_reducible refine gate_callee (f := 79) rfl ?_); refine goesL_ (some 6) rfl rfl Try.func79 (by kernel_rfl) rfl #[.int .i64 a0] rfl aE ?_; (with_reducible refine (cmp_isNaN_int.calls a0 false _ A3.out).mono ?_); rintro e w' ⟨rfl, ⟨nd, rfl⟩⟩; refine ⟨_, rfl, ?_⟩))
  go_ret
  exact ⟨sD, dD⟩
def bucket_Starts.l0 : Nat → List Int → Int → List Int → Int → Int → Option (List Int)
  | 0, _, _, _, _, _ => none
  | k + 1, x3, x4, x10, x11, x12 => if x12 < x11 then (if 0 ≤ x12 then (if x12 < (x10.length : Int) then (if x12 < (x3.length : Int) then (bucket_Starts.l0 k (x3.set (x12 : Int).toNat x4) (wrap64 (x4 + (rd x10 x12))) x10 x11 (wrap64 (x12 + 1))) else (none)) else (none)) else (none)) else (some x3)
def bucket_Starts.f (k : Nat) (l0 : List Int) : Option (List Int) := if 0 ≤ (l0.length : Int) then (if ((l0.length : Int) : Int).toNat ≤ 35184372088832 then (bucket_Starts.l0 k (List.replicate ((l0.length : Int) : Int).toNat 0) 0 l0 (l0.length : Int) 0) else (none)) else (none)
theorem bucket_Starts.mono_l : ∀ k, (∀ y0 y1 y2 y3 y4, LeO (bucket_Starts.l0 k y0 y1 y2 y3 y4) (bucket_Starts.l0 (k + 1) y0 y1 y2 y3 y4))
  | 0 => fun _ _ _ _ _ r h => by simp [bucket_Starts.l0] at h
  | k + 1 => by
    have ih0 := bucket_Starts.mono_l k
    · intro y0 y1 y2 y3 y4
      unfold bucket_Starts.l0
      exact mB
theorem bucket_Starts.mono : ∀ a0 k, LeO (bucket_Starts.f k a0) (bucket_Starts.f (k + 1) a0) := by
  intro a0 k
  have ih0 := bucket_Starts.mono_l k
  unfold bucket_Starts.f
  exact mB
set_option maxHeartbeats 8000000 in
set_option maxRecDepth 100000 in
theorem bucket_Starts.calls (k : Nat) (A0 : Option Addr) (c0 : Nat) (l0 : List Int) (r : List Int) (w : World) (hr0 : Kd.C (Kd.int .i64) w A0 l0.length l0) (hc0 : l0.length ≤ c0) (h : bucket_Starts.f k l0 = some r) :
    Calls Try.prog 35 #[.slice A0 l0.length c0] w fun e w' => ∃ v0_ : Value, e = .returned (v0_) ∧ Kd.R (Kd.int .i64) 3 w' w.heap.size (fun _ => True) v0_ r ∧ Below w.heap.size w w' := by
 have HR0 := Aside0.mk hr0
 have HC0 := Aside0.mk hc0
 clear hr0 hc0
 have HB := Aside0.mk (Below.refl w.heap.size w)
 have H := h
 clear h
 unfold bucket_Starts.f at H
 obtain ⟨c2b0, c2b1, H⟩ := ifE H
 obtain ⟨c3b0, c3b1, H⟩ := ifE H
 generalize hy130 : (List.replicate ((l0.length : Int) : Int).toNat 0 : List Int) = y130 at H
 try simp only [Option.bind_some] at H
 have Ny130 := Aside0.mk hy130.symm
 clear hy130
 have H' := Aside0.mk H
 clear H
 go_enter Try.func35, Try.ntmps35
 go_wp2_with (first | ((with_reducible refine gate_dst (N := 9) rfl ?_); refine Kd.R_make (Kd.int .i64) _ 3 rfl (N := 9) rfl 23 _ _ rfl (l0.length : Int) rfl rfl Try.underlying23 (.int .i64 0) 8 info3 rfl (by decide) (by omega) 0 (ok := fun _ => True) (okp := fun _ => True) rfl (fun _ hk => hk) trivial dT (Nat.le_trans (Nat.mul_le_mul_right _ (dT : (l0.length : Int).toNat ≤ 35184372088832)) (by omega)) (Below.refl _ _) (Nat.le_refl _) ?_; intro v131 w4 ho5 hb hg_ hnew_; clear hg_ hnew_; (first | rw [← Ny130.out] at ho5 | (simp only [Int.reduceToNat] at ho5; rw [← Ny130.out] at ho5)); have n0_ := Aside0.mk (Kd.R_lower ho5 (below_size uB)); have n1_ := Aside0.mk (below_step uB hb); clear HB; have HO132 := n0_; have HB := n1_; clear n0_ n1_; clear hb ho5))
 go_loopg [4, 12] k (fun kq v4 v12 w' => ∃ (x3_1 : List Int) (x4_1 : Int) (x12_1 : Int), v4 = .int .i64 x4_1 ∧ v12 = .int .i64 x12_1 ∧ Aside0 (bucket_Starts.l0 kq x3_1 x4_1 l0 (l0.length : Int) x12_1 = some r) ∧ Aside0 (kq ≤ k) ∧ Aside0 (Kd.R (Kd.int .i64) 3 w' w.heap.size (fun _ => True) v131 x3_1) ∧ Aside0 (Below w.heap.size w w'))
 case atStart => exact ⟨(y130), (0), (0), sD, sD, H', ⟨Nat.le_refl _⟩, ⟨uR HO132.out⟩, ⟨uB⟩⟩
 case round =>
  clear H'
  try clear c2
  try clear c2b0
  try clear c2b1
  try clear p2
  try clear c3
  try clear c3b0
  try clear c3b1
  obtain ⟨x3_1, x4_1, x12_1, rfl, rfl, HA, HK1, HO_3, HB⟩ := hrel
  cases gk with
  | zero => exact absurd HA.out (by simp [bucket_Starts.l0])
  | succ k1 =>
   have H := HA.out
   clear HA
   simp only [bucket_Starts.l0] at H
   rcases ifC H with ⟨c6b0, H⟩ | ⟨c6b0, H⟩
   ·obtain ⟨c7b0, H⟩ := ifD H
    obtain ⟨c8b0, c9b0, H⟩ := ifD2 H
    generalize hy134 : (x3_1.set (x12_1 : Int).toNat x4_1 : List Int) = y134 at H
    try simp only [Option.bind_some] at H
    have Ny134 := Aside0.mk hy134.symm
    clear hy134
    have H' := Aside0.mk H
    clear H
    obtain ⟨ad133, e133, hx133_0, p133, q133⟩ := rIO HB.out HR0.out x12_1
    cases e133
    have p10 : 0 ≤ (x12_1 : Int) := dT
    have q10 : (x12_1 : Int) < ((x3_1.length : Int) : Int) := dT
    obtain ⟨go10, co10, eo10, gb10, gl10, cl10, HG10⟩ := Kd.R_form HO_3.out (by omega)
    (first | cases eo10 | (injection eo10 with ea_ en_ ec_; (first | subst ea_ | (injection ea_ with ea_; subst ea_)); subst ec_; clear en_))
    have GB10 := Aside0.mk gb10
    have GG10 := Aside0.mk HG10
    clear gb10 gl10 HG10
    obtain ⟨hx10_0, hf10_0⟩ := Kd.R_celln 0 HO_3.out (x12_1 : Int) p10 q10
    replace p10 := eq_true p10
    replace q10 := eq_true q10
    have HP11 := Kd.R_putg HO_3.out (x12_1 : Int) x4_1
    go_wp2_with (first | ((with_reducible refine gate_store (t := 3) (p := 20) rfl ?_); refine store_event (t := 3) (p := 20) (v := ?vo_w12) (w1 := (wr.setCell ⟨go10, (x12_1 : Int).toNat, none⟩ (.int .i64 x4_1))) ?hg ?ho ?hn ?hr ?_; (case ho => rfl); (case hg => rfl); (case hn => rfl); (case hr => first | (go_simp; done) | (go_simp; rfl)); intro w12 hw; have hg : wr.grownBy w12 (some go10) := (by rw [hw]; exact HP11.2); have hp_ : Kd.R (Kd.int .i64) 3 w12 w.heap.size (fun _ => True) (.slice (some ⟨go10, 0, none⟩) x3_1.length co10) y134 := (by rw [hw, Ny134.out]; exact HP11.1); clear HP11; have n0_ := Aside0.mk (hp_); have n1_ := Aside0.mk ((by rw [hw]; exact below_set (HB.out) GB10.out : Below w.heap.size w w12)); clear HO_3; clear HB; have HO_3 := n0_; have HB := n1_; clear n0_ n1_; clear hg hw hp_))
    go_roundg k1
    case measure => have := HK1.out; omega
    case rel => exact ⟨(y134), (wrap64 (x4_1 + (rd l0 x12_1))), (wrap64 (x12_1 + 1)), sD, sD, H', ⟨by have := HK1.out; omega⟩, ⟨uR HO_3.out⟩, ⟨uB⟩⟩
   ·obtain rfl := Option.some.inj H
    go_wp2
    go_ret
    exact ⟨_, eR, uR HO_3.out, uB⟩
def induce_Sort.f (k : Nat) (l0 : List Int) (a1 : Int) (l2 : List Int) : Option (List Int × Bool) :=
  (bucket_Counts.f k l0 a1).bind fun co => (kinds_First.f k l0).bind fun fs => (slices_Equal_int_int.f k (Go.Proofs.Ytbbpplnnegdenaa.Srt.srt l2) fs).bind fun eq => (kinds_Small.f k l0).bind fun sm => (bucket_Starts.f k co.1).bind fun st =>
    if co.2 = true then (if eq = true then (if l2.length ≤ 1000000 then (if l0.length = 0 then some (([] : List Int), true) else (if l0.length ≤ 1000000 then (if st.length = co.1.length then (if 0 < co.1.length then (if co.1.length < 4611686018427387904 then (if sm.length < 4611686018427387904 then
      (Go.Proofs.Ytbbpplnnegdenaa.St.sortL l0 l2 co.1 sm st).bind fun r => some (r, true) else none) else none) else none) else none) else none)) else none) else none) else none
theorem induce_Sort.mono : ∀ a0 a1 a2 k, LeO (induce_Sort.f k a0 a1 a2) (induce_Sort.f (k + 1) a0 a1 a2) := by
  intro a0 a1 a2 k
  unfold induce_Sort.f
  refine LeO.bind (bucket_Counts.mono _ _ _) (fun co => ?_)
  refine LeO.bind (kinds_First.mono _ _) (fun fs => ?_)
  refine LeO.bind (slices_Equal_int_int.mono _ _ _) (fun eq => ?_)
  refine LeO.bind (kinds_Small.mono _ _) (fun sm => ?_)
  refine LeO.bind (bucket_Starts.mono _ _) (fun st => ?_)
  exact LeO.refl _
theorem induce_Sort.calls (k : Nat) (A0 : Option Addr) (c0 : Nat) (l0 : List Int) (a1 : Int) (A2 : Option Addr) (c2 : Nat) (l2 : List Int) (r1 : List Int) (r2 : Bool) (w : World) (hr0 : Kd.C (Kd.int .i64) w A0 l0.length l0) (hc0 : l0.length ≤ c0) (hr2 : Kd.C (Kd.int .i64) w A2 l2.length l2) (hc2 : l2.length ≤ c2) (h : induce_Sort.f k l0 a1 l2 = some (r1, r2)) :
    Calls Try.prog 28 #[.slice A0 l0.length c0, .int .i64 a1, .slice A2 l2.length c2] w fun e w' => ∃ v0_ : Value, e = .returned (.tuple #[v0_, .bool r2]) ∧ Kd.R (Kd.int .i64) 3 w' w.heap.size (fun _ => True) v0_ r1 ∧ Below w.heap.size w w' := by
 unfold induce_Sort.f at h
 cases h1 : bucket_Counts.f k l0 a1 with
 | none => rw [h1] at h; simp at h
 | some co =>
 obtain ⟨co, ok⟩ := co
 rw [h1, Option.bind_some] at h
 cases h2 : kinds_First.f k l0 with
 | none => rw [h2] at h; simp at h
 | some fs =>
 rw [h2, Option.bind_some] at h
 rw [Go.Proofs.Ytbbpplnnegdenaa.Srt.srt_eq] at h
 generalize hri : l2.mergeSort (fun x y => decide (x ≤ y)) = ri at h
 cases h3 : slices_Equal_int_int.f k ri fs with
 | none => rw [h3] at h; simp at h
 | some eq =>
 rw [h3, Option.bind_some] at h
 cases h4 : kinds_Small.f k l0 with
 | none => rw [h4] at h; simp at h
 | some sm =>
 rw [h4, Option.bind_some] at h
 cases h5 : bucket_Starts.f k (co, ok).1 with
 | none => rw [h5] at h; simp at h
 | some st =>
 rw [h5, Option.bind_some] at h
 dsimp only at h h5
 by_cases c1 : ok = true
 case neg => rw [if_neg c1] at h; exact absurd h (by simp)
 rw [if_pos c1] at h
 subst c1
 by_cases c2' : eq = true
 case neg => rw [if_neg c2'] at h; exact absurd h (by simp)
 rw [if_pos c2'] at h
 subst c2'
 by_cases c3 : l2.length ≤ 1000000
 case neg => rw [if_neg c3] at h; exact absurd h (by simp)
 rw [if_pos c3] at h
 have q1 := fun W hW => bucket_Counts.calls k A0 c0 l0 a1 co true W hW hc0 h1
 have q2 := fun W hW => kinds_First.calls k A0 c0 l0 fs W hW hc0 h2
 have q3 := fun W A B c d e1 e2 hA hB => slices_Equal_int_int.calls k A c ri B d fs true W hA e1 hB e2 h3
 by_cases c4 : l0.length = 0
 ·rw [if_pos c4] at h
  cases h
  exact (callsIn_wide (n := 6)).1 (Go.Proofs.Ytbbpplnnegdenaa.St.sort_empty 6 (by omega) hr0 hr2 c3 c4 hri q1 q2 q3)
 ·rw [if_neg c4] at h
  by_cases c5 : l0.length ≤ 1000000
  case neg => rw [if_neg c5] at h; exact absurd h (by simp)
  rw [if_pos c5] at h
  by_cases c6 : st.length = co.length
  case neg => rw [if_neg c6] at h; exact absurd h (by simp)
  rw [if_pos c6] at h
  by_cases c7 : 0 < co.length
  case neg => rw [if_neg c7] at h; exact absurd h (by simp)
  rw [if_pos c7] at h
  by_cases c8 : co.length < 4611686018427387904
  case neg => rw [if_neg c8] at h; exact absurd h (by simp)
  rw [if_pos c8] at h
  by_cases c9 : sm.length < 4611686018427387904
  case neg => rw [if_neg c9] at h; exact absurd h (by simp)
  rw [if_pos c9] at h
  cases h6 : Go.Proofs.Ytbbpplnnegdenaa.St.sortL l0 l2 co sm st with
  | none => rw [h6] at h; simp at h
  | some r =>
  rw [h6, Option.bind_some] at h
  cases h
  exact Go.Proofs.Ytbbpplnnegdenaa.St.sort_calls hr0 hr2 c3 (by omega) c5 c6 c7 c8 c9 h6 hri q1 q2 q3 (fun W hW => kinds_Small.calls k A0 c0 l0 sm W hW hc0 h4) (fun W A c e1 hA => bucket_Starts.calls k A c co st W hA e1 h5)
def sais_named.f (k : Nat) (l0 : List Int) (l1 : List Int) (l2 : List Int) : Option (List Int × Int) :=
  if l0.length ≤ 1000000 then (if l1.length ≤ 1000000 then (if l2.length ≤ 1000000 then
    (Go.Proofs.Ytbbpplnnegdenaa.Nm.nextL l0.length l1 l1.length 0 (List.replicate l0.length 0)).bind fun nx => (Go.Proofs.Ytbbpplnnegdenaa.Nm.namesL (slices_Equal_int_int.f k) l0 nx l2 l2.length 0 (List.replicate l0.length 0) 0 (-1)).bind fun x =>
      (Go.Proofs.Ytbbpplnnegdenaa.Nm.outL x.1 l1 l1.length 0 []).bind fun o => some (o, wrap64 (x.2 + 1)) else none) else none) else none
theorem sais_named.mono : ∀ a0 a1 a2 k, LeO (sais_named.f k a0 a1 a2) (sais_named.f (k + 1) a0 a1 a2) := by
  intro a0 a1 a2 k
  unfold sais_named.f
  refine LeO.ite (LeO.ite (LeO.ite ?_ (LeO.none _)) (LeO.none _)) (LeO.none _)
  refine LeO.bind (LeO.refl _) (fun nx => ?_)
  refine LeO.bind ?_ (fun x => LeO.refl _)
  have hd : ∀ last j, LeO (Go.Proofs.Ytbbpplnnegdenaa.Nm.differL (slices_Equal_int_int.f k) a0 nx last j) (Go.Proofs.Ytbbpplnnegdenaa.Nm.differL (slices_Equal_int_int.f (k + 1)) a0 nx last j) := by
    intro last j
    unfold Go.Proofs.Ytbbpplnnegdenaa.Nm.differL
    refine LeO.ite (LeO.ite (LeO.refl _) (LeO.ite (LeO.ite (LeO.refl _) ?_) (LeO.refl _))) (LeO.refl _)
    exact LeO.bind (LeO.refl _) (fun p => LeO.bind (LeO.refl _) (fun q => LeO.bind (slices_Equal_int_int.mono _ _ _) (fun b => LeO.refl _)))
  have hm : ∀ d i nm n last, LeO (Go.Proofs.Ytbbpplnnegdenaa.Nm.namesL (slices_Equal_int_int.f k) a0 nx a2 d i nm n last) (Go.Proofs.Ytbbpplnnegdenaa.Nm.namesL (slices_Equal_int_int.f (k + 1)) a0 nx a2 d i nm n last) := by
    intro d
    induction d with
    | zero => intro i nm n last; exact LeO.refl _
    | succ d ih =>
      intro i nm n last
      unfold Go.Proofs.Ytbbpplnnegdenaa.Nm.namesL
      refine LeO.ite (LeO.ite (ih _ _ _ _) ?_) (LeO.refl _)
      exact LeO.bind (hd _ _) (fun b => LeO.ite (ih _ _ _ _) (LeO.refl _))
  exact hm _ _ _ _ _
theorem sais_named.calls (k : Nat) (A0 : Option Addr) (c0 : Nat) (l0 : List Int) (A1 : Option Addr) (c1 : Nat) (l1 : List Int) (A2 : Option Addr) (c2 : Nat) (l2 : List Int) (r1 : List Int) (r2 : Int) (w : World) (hr0 : Kd.C (Kd.int .i64) w A0 l0.length l0) (hc0 : l0.length ≤ c0) (hr1 : Kd.C (Kd.int .i64) w A1 l1.length l1) (hc1 : l1.length ≤ c1) (hr2 : Kd.C (Kd.int .i64) w A2 l2.length l2) (hc2 : l2.length ≤ c2) (h : sais_named.f k l0 l1 l2 = some (r1, r2)) :
    Calls Try.prog 29 #[.slice A0 l0.length c0, .slice A1 l1.length c1, .slice A2 l2.length c2] w fun e w' => ∃ v0_ : Value, e = .returned (.tuple #[v0_, .int .i64 r2]) ∧ Kd.R (Kd.int .i64) 3 w' w.heap.size (fun _ => True) v0_ r1 ∧ Below w.heap.size w w' := by
 unfold sais_named.f at h
 by_cases c3 : l0.length ≤ 1000000
 case neg => rw [if_neg c3] at h; exact absurd h (by simp)
 rw [if_pos c3] at h
 by_cases c4 : l1.length ≤ 1000000
 case neg => rw [if_neg c4] at h; exact absurd h (by simp)
 rw [if_pos c4] at h
 by_cases c5 : l2.length ≤ 1000000
 case neg => rw [if_neg c5] at h; exact absurd h (by simp)
 rw [if_pos c5] at h
 cases h1 : Go.Proofs.Ytbbpplnnegdenaa.Nm.nextL l0.length l1 l1.length 0 (List.replicate l0.length 0) with
 | none => rw [h1] at h; simp at h
 | some nx =>
 rw [h1, Option.bind_some] at h
 cases h2 : Go.Proofs.Ytbbpplnnegdenaa.Nm.namesL (slices_Equal_int_int.f k) l0 nx l2 l2.length 0 (List.replicate l0.length 0) 0 (-1) with
 | none => rw [h2] at h; simp at h
 | some x =>
 obtain ⟨nm, n0⟩ := x
 rw [h2, Option.bind_some] at h
 cases h3 : Go.Proofs.Ytbbpplnnegdenaa.Nm.outL nm l1 l1.length 0 [] with
 | none => rw [h3] at h; simp at h
 | some o =>
 rw [h3, Option.bind_some] at h
 cases h
 exact Go.Proofs.Ytbbpplnnegdenaa.Nm.named_calls hr0 hc0 hr1 hr2 c3 c4 c5 (fun W A B c d p q b e1 e2 hA hB he => slices_Equal_int_int.calls k A c p B d q b W hA e1 hB e2 he) h1 h2 h3
end Go.Proofs.Ytbbpplnnegdenaa.PTopThree
end
section
namespace Go.Proofs.Ytbbpplnnegdenaa.PTopThree
open Go.RowKit Go.Proofs.YtbbpplnnegdenaaW.PrintWords Go.Proofs.YtbbpplnnegdenaaW.PrintLast Go.Proofs.YtbbpplnnegdenaaW.PrintMore
attribute [local go_sem] max2_int min2_int max_two min_two max_three min_three max_four min_four
set_option linter.unusedVariables false
set_option linter.unusedSimpArgs false
mutual
def sais_sorted.l0 : Nat → List Int → Int → List Int → List Int → List Int → Int → Int → Option (List Int)
  | 0, _, _, _, _, _, _, _ => none
  | k + 1, x0, x1, x5, x10, x35, x36, x37 => if x37 < x36 then (if 0 ≤ x37 then (if x37 < (x35.length : Int) then (if 0 ≤ (rd x35 x37) then (if (rd x35 x37) < (x5.length : Int) then (if x10.length < 17592186044416 then (sais_sorted.l0 k x0 x1 x5 (x10 ++ [rd x5 (rd x35 x37)]) x35 x36 (wrap64 (x37 + 1))) else (none)) else (none)) else (none)) else (none)) else (none)) else ((induce_Sort.f k x0 x1 x10).bind fun bt177 => (some bt177.1))
def sais_sorted.f : Nat → List Int → Int → Option (List Int)
  | 0, _, _ => none
  | k + 1, l0, a1 => (kinds_First.f k l0).bind fun t158 => ((induce_Sort.f k l0 a1 t158).bind fun bt161 => (if (t158.length : Int) < 2 then (some bt161.1) else ((sais_named.f k l0 t158 bt161.1).bind fun bt165 => ((sais_sorted.f k bt165.1 bt165.2).bind fun t169 => (sais_sorted.l0 k l0 a1 t158 ([] : List Int) t169 (t169.length : Int) 0)))))
end
theorem sais_sorted.mono_l : ∀ k, (∀ y0 y1, LeO (sais_sorted.f k y0 y1) (sais_sorted.f (k + 1) y0 y1)) ∧ (∀ y0 y1 y2 y3 y4 y5 y6, LeO (sais_sorted.l0 k y0 y1 y2 y3 y4 y5 y6) (sais_sorted.l0 (k + 1) y0 y1 y2 y3 y4 y5 y6))
  | 0 => ⟨fun _ _ r h => by simp [sais_sorted.f] at h, fun _ _ _ _ _ _ _ r h => by simp [sais_sorted.l0] at h⟩
  | k + 1 => by
    obtain ⟨ih0, ih1⟩ := sais_sorted.mono_l k
    refine ⟨?_, ?_⟩
    · intro y0 y1
      unfold sais_sorted.f
      have m0 := @induce_Sort.mono
      have m1 := @kinds_First.mono
      have m2 := @sais_named.mono
      exact mB
    · intro y0 y1 y2 y3 y4 y5 y6
      unfold sais_sorted.l0
      have m0 := @induce_Sort.mono
      have m1 := @kinds_First.mono
      have m2 := @sais_named.mono
      exact mB
theorem sais_sorted.mono : ∀ a0 a1 k, LeO (sais_sorted.f k a0 a1) (sais_sorted.f (k + 1) a0 a1) := by
  intro a0 a1 k
  obtain ⟨ih0, ih1⟩ := sais_sorted.mono_l k
  exact ih0 a0 a1
set_option maxHeartbeats 8000000 in
set_option maxRecDepth 100000 in
theorem sais_sorted.calls (k : Nat) : ∀ (A0 : Option Addr) (c0 : Nat) (l0 : List Int) (a1 : Int) (r : List Int) (w : World) (hr0 : Kd.C (Kd.int .i64) w A0 l0.length l0) (hc0 : l0.length ≤ c0) (h : sais_sorted.f k l0 a1 = some r),
    Calls Try.prog 18 #[.slice A0 l0.length c0, .int .i64 a1] w fun e w' => ∃ v0_ : Value, e = .returned (v0_) ∧ Kd.R (Kd.int .i64) 3 w' w.heap.size (fun _ => True) v0_ r ∧ Below w.heap.size w w' := by
 induction k using Nat.strongRecOn with
 | _ k ih =>
 intro A0 c0 l0 a1 r w hr0 hc0 h
 cases k with
 | zero => exact absurd h (by simp [sais_sorted.f])
 | succ k =>
 simp only [sais_sorted.f] at h
 have HR0 := Aside0.mk hr0
 have HC0 := Aside0.mk hc0
 clear hr0 hc0
 have HB := Aside0.mk (Below.refl w.heap.size w)
 have H : ((kinds_First.f k l0).bind fun t158 => ((induce_Sort.f k l0 a1 t158).bind fun bt161 => (if (t158.length : Int) < 2 then (some bt161.1) else ((sais_named.f k l0 t158 bt161.1).bind fun bt165 => ((sais_sorted.f k bt165.1 bt165.2).bind fun t169 => (sais_sorted.l0 k l0 a1 t158 ([] : List Int) t169 (t169.length : Int) 0)))))) = some r := h
 clear h
 obtain ⟨t158, A3, H⟩ := bdS H
 try dsimp only at H
 obtain ⟨⟨t161, t162⟩, A4, H⟩ := bdS H
 try dsimp only at H
 by_cases c5 : (t158.length : Int) < 2
 ·rw [if_pos c5] at H
  have c5b0 : decide ((t158.length : Int) < 2) = true := decide_eq_true c5
  have c5b1 : decide (t158.length < 2) = true := decide_eq_true (by omega)
  clear c5
  obtain rfl := Option.some.inj H
  go_enter Try.func18, Try.ntmps18
  go_wp2_with (first | ((with_reducible refine gate_callee (f := 27) rfl ?_); refine goesL_ (some 14) rfl rfl Try.func27 (by kernel_rfl) rfl #[.slice A0 l0.length c0] rfl aE ?_; (with_reducible refine (kinds_First.calls k _ _ l0 t158 _ ?side1 ?side2 A3.out).mono ?_); (case side1 => exact uC HR0.out); (case side2 => exact HC0.out); rintro e w6 ⟨v159, rfl, ho0, hb⟩; refine ⟨_, rfl, ?_⟩; have n0_ := Aside0.mk (Kd.R_lower ho0 (below_size uB)); have n1_ := Aside0.mk (below_step uB hb); clear HB; have HO160 := n0_; have HB := n1_; clear n0_ n1_; (try clear hb); (try clear hb2); (try clear hk); (try clear hi); (try clear ho0); obtain ⟨Ao7, co7, eo7⟩ := Kd.R_slice HO160.out; subst eo7) | ((with_reducible refine gate_callee (f := 28) rfl ?_); refine goesL_ (some 19) rfl rfl Try.func28 (by kernel_rfl) rfl #[.slice A0 l0.length c0, .int .i64 a1, .slice Ao7 t158.length co7] rfl aE ?_; (with_reducible refine (induce_Sort.calls k _ _ l0 a1 _ _ t158 t161 t162 _ ?side1 ?side2 ?side3 ?side4 A4.out).mono ?_); (case side1 => exact uC (Kd.C_below HR0.out HB.out)); (case side2 => exact HC0.out); (case side3 => exact uC (Kd.R_reads' HO160.out).2.2); (case side4 => exact (Kd.R_reads' HO160.out).2.1); rintro e w8 ⟨v163, rfl, ho0, hb⟩; refine ⟨_, rfl, ?_⟩; have n0_ := Aside0.mk (Kd.R_elder' (uR HO160.out) (Kd.R_base ho0) hb); have n1_ := Aside0.mk (Kd.R_lower (Kd.R_new' ho0 (Kd.R_lt (uR HO160.out))) (below_size uB)); have n2_ := Aside0.mk (below_step uB hb); clear HO160; clear HB; have HO160 := n0_; have HO164 := n1_; have HB := n2_; clear n0_ n1_ n2_; (try clear hb); (try clear hb2); (try clear hk); (try clear hi); (try clear ho0)))
  go_ret
  exact ⟨_, eR, by (with_reducible repeat (first | apply Kd.R_alloc | apply Kd.R_drewN | apply Kd.R_drew)); exact Kd.R_mono HO164.out (fun _ hk => trivial), uB⟩
 ·rw [if_neg c5] at H
  have c5b0 : decide ((t158.length : Int) < 2) = false := decide_eq_false c5
  have c5b1 : decide (t158.length < 2) = false := decide_eq_false (by omega)
  clear c5
  obtain ⟨⟨t165, t166⟩, A9, H⟩ := bdS H
  try dsimp only at H
  obtain ⟨t169, A10, H⟩ := bdS H
  try dsimp only at H
  have H' := Aside0.mk H
  clear H
  go_enter Try.func18, Try.ntmps18
  go_wp2_with (first | ((with_reducible refine gate_callee (f := 27) rfl ?_); refine goesL_ (some 14) rfl rfl Try.func27 (by kernel_rfl) rfl #[.slice A0 l0.length c0] rfl aE ?_; (with_reducible refine (kinds_First.calls k _ _ l0 t158 _ ?side1 ?side2 A3.out).mono ?_); (case side1 => exact uC HR0.out); (case side2 => exact HC0.out); rintro e w11 ⟨v159, rfl, ho0, hb⟩; refine ⟨_, rfl, ?_⟩; have n0_ := Aside0.mk (Kd.R_lower ho0 (below_size uB)); have n1_ := Aside0.mk (below_step uB hb); clear HB; have HO160 := n0_; have HB := n1_; clear n0_ n1_; (try clear hb); (try clear hb2); (try clear hk); (try clear hi); (try clear ho0); obtain ⟨Ao12, co12, eo12⟩ := Kd.R_slice HO160.out; subst eo12) | ((with_reducible refine gate_callee (f := 28) rfl ?_); refine goesL_ (some 19) rfl rfl Try.func28 (by kernel_rfl) rfl #[.slice A0 l0.length c0, .int .i64 a1, .slice Ao12 t158.length co12] rfl aE ?_; (with_reducible refine (induce_Sort.calls k _ _ l0 a1 _ _ t158 t161 t162 _ ?side1 ?side2 ?side3 ?side4 A4.out).mono ?_); (case side1 => exact uC (Kd.C_below HR0.out HB.out)); (case side2 => exact HC0.out); (case side3 => exact uC (Kd.R_reads' HO160.out).2.2); (case side4 => exact (Kd.R_reads' HO160.out).2.1); rintro e w13 ⟨v163, rfl, ho0, hb⟩; refine ⟨_, rfl, ?_⟩; have n0_ := Aside0.mk (Kd.R_elder' (uR HO160.out) (Kd.R_base ho0) hb); have n1_ := Aside0.mk (Kd.R_lower (Kd.R_new' ho0 (Kd.R_lt (uR HO160.out))) (below_size uB)); have n2_ := Aside0.mk (below_step uB hb); clear HO160; clear HB; have HO160 := n0_; have HO164 := n1_; have HB := n2_; clear n0_ n1_ n2_; (try clear hb); (try clear hb2); (try clear hk); (try clear hi); (try clear ho0); obtain ⟨Ao14, co14, eo14⟩ := Kd.R_slice HO164.out; subst eo14) | ((with_reducible refine gate_callee (f := 29) rfl ?_); refine goesL_ (some 30) rfl rfl Try.func29 (by kernel_rfl) rfl #[.slice A0 l0.length c0, .slice Ao12 t158.length co12, .slice Ao14 t161.length co14] rfl aE ?_; (with_reducible refine (sais_named.calls k _ _ l0 _ _ t158 _ _ t161 t165 t166 _ ?side1 ?side2 ?side3 ?side4 ?side5 ?side6 A9.out).mono ?_); (case side1 => exact uC (Kd.C_below HR0.out HB.out)); (case side2 => exact HC0.out); (case side3 => exact uC (Kd.R_reads' HO160.out).2.2); (case side4 => exact (Kd.R_reads' HO160.out).2.1); (case side5 => exact uC (Kd.R_reads' HO164.out).2.2); (case side6 => exact (Kd.R_reads' HO164.out).2.1); rintro e w15 ⟨v167, rfl, ho0, hb⟩; refine ⟨_, rfl, ?_⟩; have n0_ := Aside0.mk (Kd.R_elder' (uR HO160.out) (Kd.R_base ho0) hb); have n1_ := Aside0.mk (Kd.R_elder' (uR HO164.out) (Kd.R_base ho0) hb); have n2_ := Aside0.mk (Kd.R_lower (Kd.R_new' (Kd.R_new' ho0 (Kd.R_lt (uR HO160.out))) (Kd.R_lt (uR HO164.out))) (below_size uB)); have n3_ := Aside0.mk (below_step uB hb); clear HO160; clear HO164; clear HB; have HO160 := n0_; have HO164 := n1_; have HO168 := n2_; have HB := n3_; clear n0_ n1_ n2_ n3_; (try clear hb); (try clear hb2); (try clear hk); (try clear hi); (try clear ho0); obtain ⟨Ao16, co16, eo16⟩ := Kd.R_slice HO168.out; subst eo16) | ((with_reducible refine gate_callee (f := 18) rfl ?_); refine goesL_ (some 35) rfl rfl Try.func18 (by kernel_rfl) rfl #[.slice Ao16 t165.length co16, .int .i64 t166] rfl aE ?_; (with_reducible refine (ih k (by omega) _ _ t165 t166 t169 _ ?side1 ?side2 A10.out).mono ?_); (case side1 => exact uC (Kd.R_reads' HO168.out).2.2); (case side2 => exact (Kd.R_reads' HO168.out).2.1); rintro e w17 ⟨v170, rfl, ho0, hb⟩; refine ⟨_, rfl, ?_⟩; have n0_ := Aside0.mk (Kd.R_elder' (uR HO160.out) (Kd.R_base ho0) hb); have n1_ := Aside0.mk (Kd.R_elder' (uR HO164.out) (Kd.R_base ho0) hb); have n2_ := Aside0.mk (Kd.R_elder' (uR HO168.out) (Kd.R_base ho0) hb); have n3_ := Aside0.mk (Kd.R_lower (Kd.R_new' (Kd.R_new' (Kd.R_new' ho0 (Kd.R_lt (uR HO160.out))) (Kd.R_lt (uR HO164.out))) (Kd.R_lt (uR HO168.out))) (below_size uB)); have n4_ := Aside0.mk (below_step uB hb); clear HO160; clear HO164; clear HO168; clear HB; have HO160 := n0_; have HO164 := n1_; have HO168 := n2_; have HO171 := n3_; have HB := n4_; clear n0_ n1_ n2_ n3_ n4_; (try clear hb); (try clear hb2); (try clear hk); (try clear hi); (try clear ho0); obtain ⟨Ao18, co18, eo18⟩ := Kd.R_slice HO171.out; subst eo18))
  go_loopg [10, 37] k (fun kq v10 v37 w' => ∃ (x10_1 : List Int) (x37_1 : Int), v37 = .int .i64 x37_1 ∧ Aside0 (sais_sorted.l0 kq l0 a1 t158 x10_1 t169 (t169.length : Int) x37_1 = some r) ∧ Aside0 (kq ≤ k) ∧ Aside0 (Kd.R (Kd.int .i64) 3 w' w.heap.size (fun k_ => some k_ ≠ (v10 : Value).ownBlock ∧ some k_ ≠ ((.slice Ao18 t169.length co18) : Value).ownBlock) (.slice Ao12 t158.length co12) t158) ∧ Aside0 (Kd.R (Kd.int .i64) 3 w' w.heap.size (fun k_ => some k_ ≠ ((.slice Ao12 t158.length co12) : Value).ownBlock ∧ some k_ ≠ ((.slice Ao18 t169.length co18) : Value).ownBlock) v10 x10_1) ∧ Aside0 (Kd.R (Kd.int .i64) 3 w' w.heap.size (fun k_ => some k_ ≠ ((.slice Ao12 t158.length co12) : Value).ownBlock ∧ some k_ ≠ (v10 : Value).ownBlock) (.slice Ao18 t169.length co18) t169) ∧ Aside0 (Below w.heap.size w w'))
  case atStart => exact ⟨(([] : List Int)), (0), sD, H', ⟨Nat.le_refl _⟩, ⟨by (with_reducible repeat (first | apply Kd.R_alloc | apply Kd.R_drewN | apply Kd.R_drew)); exact Kd.R_mono HO160.out (fun _ hk => ⟨(by simp [Value.ownBlock]), hk.2⟩)⟩, ⟨nL⟩, ⟨by (with_reducible repeat (first | apply Kd.R_alloc | apply Kd.R_drewN | apply Kd.R_drew)); exact Kd.R_mono HO171.out (fun _ hk => ⟨hk.1.1.2, (by simp [Value.ownBlock])⟩)⟩, ⟨uB⟩⟩
  case round =>
   clear H'
   try clear c1
   try clear c2
   try clear p2
   try clear c5
   try clear c5b0
   try clear c5b1
   try clear c18
   obtain ⟨x10_1, x37_1, rfl, HA, HK1, HO_5, HO_10, HO_35, HB⟩ := hrel
   cases gk with
   | zero => exact absurd HA.out (by simp [sais_sorted.l0])
   | succ k1 =>
    have H := HA.out
    clear HA
    simp only [sais_sorted.l0] at H
    rcases ifC H with ⟨c19b0, H⟩ | ⟨c19b0, H⟩
    ·obtain ⟨c20b0, c21b0, H⟩ := ifD2 H
     obtain ⟨c22b0, c23b0, H⟩ := ifD2 H
     obtain ⟨c24, H⟩ := ifP H
     have LMc24 := Aside0.mk c24
     clear c24
     generalize hy174 : (x10_1 ++ [rd t158 (rd t169 x37_1)] : List Int) = y174 at H
     try simp only [Option.bind_some] at H
     have Ny174 := Aside0.mk hy174.symm
     clear hy174
     have H' := Aside0.mk H
     clear H
     obtain ⟨ad172, e172, hx172_0, p172, q172⟩ := rI (Kd.R_reads' HO_35.out).2.2 x37_1
     cases e172
     obtain ⟨ad173, e173, hx173_0, p173, q173⟩ := rI (Kd.R_reads' HO_5.out).2.2 (rd t169 x37_1)
     cases e173
     go_wp2_with (first | ((with_reducible refine gate_builtin (b := .append) (xs := #[.tmp 41, .tmp 46]) rfl ?_); at_builtin; refine Kd.R_append (Kd.int .i64) (w0 := w) w.heap.size rfl (.tmp 41) (.tmp 46) 23 3 (.int .i64 0) 8 rfl Try.underlying23 info3 rfl (by decide) (by omega) u10 x10_1 (rd t158 (rd t169 x37_1)) [.int .i64 (rd t158 (rd t169 x37_1))] (fun k_ => some k_ ≠ (.slice (some ad173) t158.length co12 : Value).ownBlock ∧ some k_ ≠ (.slice (some ad172) t169.length co18 : Value).ownBlock) (fun _ => False) rfl rfl ?aP (fun _ hk => hk.elim) ?aF ?aO ?aB ?aS ?aL ?_; (case aP => exact rfl); (case aB => exact uB); (case aF => exact (fun k_ hk => ⟨Kd.fresh' (Kd.R_lt (uR HO_5.out)) k_ hk, Kd.fresh' (Kd.R_lt (uR HO_35.out)) k_ hk⟩)); (case aO => exact (uR HO_10.out)); (case aS => exact (below_size uB)); (case aL => have := LMc24.out; omega); intro v175 w25 ho hb hg hat; rw [← Ny174.out] at ho; have n0_ := Aside0.mk (Kd.R_after (ok := (fun k_ => some k_ ≠ (.slice (some ad172) t169.length co18 : Value).ownBlock)) (by (with_reducible repeat (first | apply Kd.R_alloc | apply Kd.R_drewN | apply Kd.R_drew)); exact Kd.R_mono HO_5.out (fun _ hk => ⟨hk.2, hk.1⟩)) hg hat); have n1_ := Aside0.mk (Kd.R_after (ok := (fun k_ => some k_ ≠ (.slice (some ad173) t158.length co12 : Value).ownBlock)) (uR HO_35.out) hg hat); have n2_ := Aside0.mk (hb); have n3_ := Aside0.mk (ho); clear HO_5; clear HO_35; clear HB; clear HO_10; have HO_5 := n0_; have HO_35 := n1_; have HB := n2_; have HO176 := n3_; clear n0_ n1_ n2_ n3_; clear ho hb hg hat))
     go_roundg k1
     case measure => have := HK1.out; omega
     case rel => exact ⟨(y174), (wrap64 (x37_1 + 1)), sD, H', ⟨by have := HK1.out; omega⟩, ⟨by (with_reducible repeat (first | apply Kd.R_alloc | apply Kd.R_drewN | apply Kd.R_drew)); exact Kd.R_mono HO_5.out (fun _ hk => ⟨hk.2, hk.1⟩)⟩, ⟨uR HO176.out⟩, ⟨uR HO_35.out⟩, ⟨uB⟩⟩
    ·obtain ⟨⟨t177, t178⟩, A26, H⟩ := bdS H
     try dsimp only at H
     obtain rfl := Option.some.inj H
     obtain ⟨Ao27, co27, eo27⟩ := Kd.R_slice HO_10.out
     subst eo27
     go_wp2_with (first | ((with_reducible refine gate_callee (f := 28) rfl ?_); refine goesL_ (some 53) rfl rfl Try.func28 (by kernel_rfl) rfl #[.slice A0 l0.length c0, .int .i64 a1, .slice Ao27 x10_1.length co27] rfl aE ?_; (with_reducible refine (induce_Sort.calls k1 _ _ l0 a1 _ _ x10_1 t177 t178 _ ?side1 ?side2 ?side3 ?side4 A26.out).mono ?_); (case side1 => exact uC (Kd.C_below HR0.out HB.out)); (case side2 => exact HC0.out); (case side3 => exact uC (Kd.R_reads' HO_10.out).2.2); (case side4 => exact (Kd.R_reads' HO_10.out).2.1); rintro e w28 ⟨v179, rfl, ho0, hb⟩; refine ⟨_, rfl, ?_⟩; have n0_ := Aside0.mk (Kd.R_elder' (uR HO_5.out) (Kd.R_base ho0) hb); have n1_ := Aside0.mk (Kd.R_elder' (uR HO_10.out) (Kd.R_base ho0) hb); have n2_ := Aside0.mk (Kd.R_elder' (uR HO_35.out) (Kd.R_base ho0) hb); have n3_ := Aside0.mk (Kd.R_lower (Kd.R_new' (Kd.R_new' (Kd.R_new' ho0 (Kd.R_lt (uR HO_5.out))) (Kd.R_lt (uR HO_10.out))) (Kd.R_lt (uR HO_35.out))) (below_size uB)); have n4_ := Aside0.mk (below_step uB hb); clear HO_5; clear HO_10; clear HO_35; clear HB; have HO_5 := n0_; have HO_10 := n1_; have HO_35 := n2_; have HO180 := n3_; have HB := n4_; clear n0_ n1_ n2_ n3_ n4_; (try clear hb); (try clear hb2); (try clear hk); (try clear hi); (try clear ho0)))
     go_ret
     exact ⟨_, eR, by (with_reducible repeat (first | apply Kd.R_alloc | apply Kd.R_drewN | apply Kd.R_drew)); exact Kd.R_mono HO180.out (fun _ hk => trivial), uB⟩
def sais_Ints.f (k : Nat) (l0 : List Int) (a1 : Int) : Option (List Int × Int) := if (l0.length : Int) > 100000 then (some (([] : List Int), 2)) else ((bucket_Counts.f k l0 a1).bind fun bt181 => (if bt181.2 = true then ((sais_sorted.f k l0 a1).bind fun t185 => (some (t185, 0))) else (some (([] : List Int), 1))))
theorem sais_Ints.mono : ∀ a0 a1 k, LeO (sais_Ints.f k a0 a1) (sais_Ints.f (k + 1) a0 a1) := by
  intro a0 a1 k
  unfold sais_Ints.f
  have m0 := @bucket_Counts.mono
  have m1 := @sais_sorted.mono
  exact mB
set_option maxHeartbeats 8000000 in
set_option maxRecDepth 100000 in
theorem sais_Ints.calls (k : Nat) (A0 : Option Addr) (c0 : Nat) (l0 : List Int) (a1 : Int) (r1 : List Int) (r2 : Int) (w : World) (hr0 : Kd.C (Kd.int .i64) w A0 l0.length l0) (hc0 : l0.length ≤ c0) (h : sais_Ints.f k l0 a1 = some (r1, r2)) :
    Calls Try.prog 11 #[.slice A0 l0.length c0, .int .i64 a1] w fun e w' => ∃ v0_ : Value, e = .returned (.tuple #[v0_, .int .i64 r2]) ∧ Kd.R (Kd.int .i64) 3 w' w.heap.size (fun _ => True) v0_ r1 ∧ Below w.heap.size w w' := by
 have HR0 := Aside0.mk hr0
 have HC0 := Aside0.mk hc0
 clear hr0 hc0
 have HB := Aside0.mk (Below.refl w.heap.size w)
 have H := h
 clear h
 unfold sais_Ints.f at H
 by_cases c3 : (l0.length : Int) > 100000
 ·rw [if_pos c3] at H
  have c3b0 : decide (100000 < (l0.length : Int)) = true := decide_eq_true c3
  have c3b1 : decide (100000 < l0.length) = true := decide_eq_true (by omega)
  clear c3
  simp only [Option.some.injEq, Prod.mk.injEq] at H
  obtain ⟨rfl, rfl⟩ := H
  go_enter Try.func11, Try.ntmps11
  go_wp2
  go_ret2
  exact ⟨_, eR, nL, uB⟩
 ·rw [if_neg c3] at H
  have c3b0 : decide (100000 < (l0.length : Int)) = false := decide_eq_false c3
  have c3b1 : decide (100000 < l0.length) = false := decide_eq_false (by omega)
  clear c3
  obtain ⟨⟨t181, t182⟩, A4, H⟩ := bdS H
  try dsimp only at H
  by_cases c5 : t182 = true
  ·subst c5
   rw [if_pos rfl] at H
   obtain ⟨t185, A6, H⟩ := bdS H
   try dsimp only at H
   simp only [Option.some.injEq, Prod.mk.injEq] at H
   obtain ⟨rfl, rfl⟩ := H
   go_enter Try.func11, Try.ntmps11
   go_wp2_with (first | ((with_reducible refine gate_callee (f := 17) rfl ?_); refine goesL_ (some 14) rfl rfl Try.func17 (by kernel_rfl) rfl #[.slice A0 l0.length c0, .int .i64 a1] rfl aE ?_; (with_reducible refine (bucket_Counts.calls k _ _ l0 a1 t181 true _ ?side1 ?side2 A4.out).mono ?_); (case side1 => exact uC HR0.out); (case side2 => exact HC0.out); rintro e w7 ⟨v183, rfl, ho0, hb⟩; refine ⟨_, rfl, ?_⟩; have n0_ := Aside0.mk (Kd.R_lower ho0 (below_size uB)); have n1_ := Aside0.mk (below_step uB hb); clear HB; have HO184 := n0_; have HB := n1_; clear n0_ n1_; (try clear hb); (try clear hb2); (try clear hk); (try clear hi); (try clear ho0)) | ((with_reducible refine gate_callee (f := 18) rfl ?_); refine goesL_ (some 21) rfl rfl Try.func18 (by kernel_rfl) rfl #[.slice A0 l0.length c0, .int .i64 a1] rfl aE ?_; (with_reducible refine (sais_sorted.calls k _ _ l0 a1 t185 _ ?side1 ?side2 A6.out).mono ?_); (case side1 => exact uC (Kd.C_below HR0.out HB.out)); (case side2 => exact HC0.out); rintro e w8 ⟨v186, rfl, ho0, hb⟩; refine ⟨_, rfl, ?_⟩; have n0_ := Aside0.mk (Kd.R_elder' (uR HO184.out) (Kd.R_base ho0) hb); have n1_ := Aside0.mk (Kd.R_lower (Kd.R_new' ho0 (Kd.R_lt (uR HO184.out))) (below_size uB)); have n2_ := Aside0.mk (below_step uB hb); clear HO184; clear HB; have HO184 := n0_; have HO187 := n1_; have HB := n2_; clear n0_ n1_ n2_; (try clear hb); (try clear hb2); (try clear hk); (try clear hi); (try clear ho0)))
   go_ret2
   exact ⟨_, eR, by (with_reducible repeat (first | apply Kd.R_alloc | apply Kd.R_drewN | apply Kd.R_drew)); exact Kd.R_mono HO187.out (fun _ hk => trivial), uB⟩
  ·replace c5 := Bool.eq_false_iff.mpr c5
   subst c5
   rw [if_neg (by decide)] at H
   simp only [Option.some.injEq, Prod.mk.injEq] at H
   obtain ⟨rfl, rfl⟩ := H
   go_enter Try.func11, Try.ntmps11
   go_wp2_with (first | ((with_reducible refine gate_callee (f := 17) rfl ?_); refine goesL_ (some 14) rfl rfl Try.func17 (by kernel_rfl) rfl #[.slice A0 l0.length c0, .int .i64 a1] rfl aE ?_; (with_reducible refine (bucket_Counts.calls k _ _ l0 a1 t181 false _ ?side1 ?side2 A4.out).mono ?_); (case side1 => exact uC HR0.out); (case side2 => exact HC0.out); rintro e w9 ⟨v183, rfl, ho0, hb⟩; refine ⟨_, rfl, ?_⟩; have n0_ := Aside0.mk (Kd.R_lower ho0 (below_size uB)); have n1_ := Aside0.mk (below_step uB hb); clear HB; have HO184 := n0_; have HB := n1_; clear n0_ n1_; (try clear hb); (try clear hb2); (try clear hk); (try clear hi); (try clear ho0)))
   go_ret2
   exact ⟨_, eR, nL, uB⟩
def sais_Bytes.l0 : Nat → List Int → List Int → Int → Int → Option (List Int × Int)
  | 0, _, _, _, _ => none
  | k + 1, x4, x10, x11, x12 => if x12 < x11 then (if 0 ≤ x12 then (if x12 < (x10.length : Int) then (if x4.length < 17592186044416 then (sais_Bytes.l0 k (x4 ++ [wrap64 (rd x10 x12)]) x10 x11 (wrap64 (x12 + 1))) else (none)) else (none)) else (none)) else ((sais_Ints.f k x4 256).bind fun bt192 => (some (bt192.1, bt192.2)))
def sais_Bytes.f (k : Nat) (l0 : List Int) : Option (List Int × Int) := if (l0.length : Int) ≤ 100000 then (sais_Bytes.l0 k ([] : List Int) l0 (l0.length : Int) 0) else (some (([] : List Int), 2))
theorem sais_Bytes.mono_l : ∀ k, (∀ y0 y1 y2 y3, LeO (sais_Bytes.l0 k y0 y1 y2 y3) (sais_Bytes.l0 (k + 1) y0 y1 y2 y3))
  | 0 => fun _ _ _ _ r h => by simp [sais_Bytes.l0] at h
  | k + 1 => by
    have ih0 := sais_Bytes.mono_l k
    · intro y0 y1 y2 y3
      unfold sais_Bytes.l0
      have m0 := @sais_Ints.mono
      exact mB
theorem sais_Bytes.mono : ∀ a0 k, LeO (sais_Bytes.f k a0) (sais_Bytes.f (k + 1) a0) := by
  intro a0 k
  have ih0 := sais_Bytes.mono_l k
  unfold sais_Bytes.f
  have m0 := @sais_Ints.mono
  exact mB
set_option maxHeartbeats 8000000 in
set_option maxRecDepth 100000 in
theorem sais_Bytes.calls (k : Nat) (A0 : Option Addr) (c0 : Nat) (l0 : List Int) (r1 : List Int) (r2 : Int) (w : World) (hr0 : Kd.C (Kd.int .u8) w A0 l0.length l0) (hc0 : l0.length ≤ c0) (h : sais_Bytes.f k l0 = some (r1, r2)) :
    Calls Try.prog 4 #[.slice A0 l0.length c0] w fun e w' => ∃ v0_ : Value, e = .returned (.tuple #[v0_, .int .i64 r2]) ∧ Kd.R (Kd.int .i64) 3 w' w.heap.size (fun _ => True) v0_ r1 ∧ Below w.heap.size w w' := by
 have HR0 := Aside0.mk hr0
 have HC0 := Aside0.mk hc0
 clear hr0 hc0
 have HB := Aside0.mk (Below.refl w.heap.size w)
 have H := h
 clear h
 unfold sais_Bytes.f at H
 by_cases c2 : (l0.length : Int) ≤ 100000
 ·rw [if_pos c2] at H
  have c2b0 : decide ((l0.length : Int) ≤ 100000) = true := decide_eq_true c2
  have c2b1 : decide (l0.length ≤ 100000) = true := decide_eq_true (by omega)
  clear c2
  have H' := Aside0.mk H
  clear H
  go_enter Try.func4, Try.ntmps4
  go_wp2
  go_loopg [4, 12] k (fun kq v4 v12 w' => ∃ (x4_1 : List Int) (x12_1 : Int), v12 = .int .i64 x12_1 ∧ Aside0 (sais_Bytes.l0 kq x4_1 l0 (l0.length : Int) x12_1 = some (r1, r2)) ∧ Aside0 (kq ≤ k) ∧ Aside0 (Kd.R (Kd.int .i64) 3 w' w.heap.size (fun _ => True) v4 x4_1) ∧ Aside0 (Below w.heap.size w w'))
  case atStart => exact ⟨(([] : List Int)), (0), sD, H', ⟨Nat.le_refl _⟩, ⟨nL⟩, ⟨uB⟩⟩
  case round =>
   clear H'
   try clear c2
   try clear c2b0
   try clear c2b1
   try clear p2
   obtain ⟨x4_1, x12_1, rfl, HA, HK1, HO_4, HB⟩ := hrel
   cases gk with
   | zero => exact absurd HA.out (by simp [sais_Bytes.l0])
   | succ k1 =>
    have H := HA.out
    clear HA
    simp only [sais_Bytes.l0] at H
    rcases ifC H with ⟨c3b0, H⟩ | ⟨c3b0, H⟩
    ·obtain ⟨c4b0, c5b0, H⟩ := ifD2 H
     obtain ⟨c6, H⟩ := ifP H
     have LMc6 := Aside0.mk c6
     clear c6
     generalize hy189 : (x4_1 ++ [wrap64 (rd l0 x12_1)] : List Int) = y189 at H
     try simp only [Option.bind_some] at H
     have Ny189 := Aside0.mk hy189.symm
     clear hy189
     have H' := Aside0.mk H
     clear H
     obtain ⟨ad188, e188, hx188_0, p188, q188⟩ := rIO HB.out HR0.out x12_1
     cases e188
     go_wp2_with (first | ((with_reducible refine gate_builtin (b := .append) (xs := #[.tmp 16, .tmp 19]) rfl ?_); at_builtin; refine Kd.R_append (Kd.int .i64) (w0 := w) w.heap.size rfl (.tmp 16) (.tmp 19) 23 3 (.int .i64 0) 8 rfl Try.underlying23 info3 rfl (by decide) (by omega) u4 x4_1 (wrap64 (rd l0 x12_1)) [.int .i64 (wrap64 (rd l0 x12_1))] (fun _ => True) (fun _ => False) rfl rfl ?aP (fun _ hk => hk.elim) ?aF ?aO ?aB ?aS ?aL ?_; (case aP => exact rfl); (case aB => exact uB); (case aF => exact (fun _ _ => trivial)); (case aO => exact (uR HO_4.out)); (case aS => exact (below_size uB)); (case aL => have := LMc6.out; omega); intro v190 w7 ho hb hg hat; rw [← Ny189.out] at ho; have n0_ := Aside0.mk (hb); have n1_ := Aside0.mk (ho); clear HB; clear HO_4; have HB := n0_; have HO191 := n1_; clear n0_ n1_; clear ho hb hg hat))
     go_roundg k1
     case measure => have := HK1.out; omega
     case rel => exact ⟨(y189), (wrap64 (x12_1 + 1)), sD, H', ⟨by have := HK1.out; omega⟩, ⟨uR HO191.out⟩, ⟨uB⟩⟩
    ·obtain ⟨⟨t192, t193⟩, A8, H⟩ := bdS H
     try dsimp only at H
     simp only [Option.some.injEq, Prod.mk.injEq] at H
     obtain ⟨rfl, rfl⟩ := H
     obtain ⟨Ao9, co9, eo9⟩ := Kd.R_slice HO_4.out
     subst eo9
     go_wp2_with (first | ((with_reducible refine gate_callee (f := 11) rfl ?_); refine goesL_ (some 23) rfl rfl Try.func11 (by kernel_rfl) rfl #[.slice Ao9 x4_1.length co9, .int .i64 256] rfl aE ?_; (with_reducible refine (sais_Ints.calls k1 _ _ x4_1 256 t192 t193 _ ?side1 ?side2 A8.out).mono ?_); (case side1 => exact uC (Kd.R_reads' HO_4.out).2.2); (case side2 => exact (Kd.R_reads' HO_4.out).2.1); rintro e w10 ⟨v194, rfl, ho0, hb⟩; refine ⟨_, rfl, ?_⟩; have n0_ := Aside0.mk (Kd.R_elder' (uR HO_4.out) (Kd.R_base ho0) hb); have n1_ := Aside0.mk (Kd.R_lower (Kd.R_new' ho0 (Kd.R_lt (uR HO_4.out))) (below_size uB)); have n2_ := Aside0.mk (below_step uB hb); clear HO_4; clear HB; have HO_4 := n0_; have HO195 := n1_; have HB := n2_; clear n0_ n1_ n2_; (try clear hb); (try clear hb2); (try clear hk); (try clear hi); (try clear ho0)))
     go_ret2
     exact ⟨_, eR, by (with_reducible repeat (first | apply Kd.R_alloc | apply Kd.R_drewN | apply Kd.R_drew)); exact Kd.R_mono HO195.out (fun _ hk => trivial), uB⟩
 ·rw [if_neg c2] at H
  have c2b0 : decide ((l0.length : Int) ≤ 100000) = false := decide_eq_false c2
  have c2b1 : decide (l0.length ≤ 100000) = false := decide_eq_false (by omega)
  clear c2
  simp only [Option.some.injEq, Prod.mk.injEq] at H
  obtain ⟨rfl, rfl⟩ := H
  go_enter Try.func4, Try.ntmps4
  go_wp2
  go_ret2
  exact ⟨_, eR, nL, uB⟩
def skew_places.l0 : Nat → Int → List Int → Int → Option (List Int)
  | 0, _, _, _ => none
  | k + 1, x0, x5, x6 => if x6 < x0 then (if x5.length < 17592186044416 then (skew_places.l0 k x0 (x5 ++ [x6]) (wrap64 (x6 + 3))) else (none)) else (some x5)
def skew_places.f (k : Nat) (a0 : Int) (a1 : Int) : Option (List Int) := skew_places.l0 k a0 ([] : List Int) a1
theorem skew_places.mono_l : ∀ k, (∀ y0 y1 y2, LeO (skew_places.l0 k y0 y1 y2) (skew_places.l0 (k + 1) y0 y1 y2))
  | 0 => fun _ _ _ r h => by simp [skew_places.l0] at h
  | k + 1 => by
    have ih0 := skew_places.mono_l k
    · intro y0 y1 y2
      unfold skew_places.l0
      exact mB
theorem skew_places.mono : ∀ a0 a1 k, LeO (skew_places.f k a0 a1) (skew_places.f (k + 1) a0 a1) := by
  intro a0 a1 k
  have ih0 := skew_places.mono_l k
  unfold skew_places.f
  exact mB
set_option maxHeartbeats 8000000 in
set_option maxRecDepth 100000 in
theorem skew_places.calls (k : Nat) (a0 : Int) (a1 : Int) (r : List Int) (w : World) (h : skew_places.f k a0 a1 = some r) :
    Calls Try.prog 30 #[.int .i64 a0, .int .i64 a1] w fun e w' => ∃ v0_ : Value, e = .returned (v0_) ∧ Kd.R (Kd.int .i64) 3 w' w.heap.size (fun _ => True) v0_ r ∧ Below w.heap.size w w' := by
 have HB := Aside0.mk (Below.refl w.heap.size w)
 have H := h
 clear h
 unfold skew_places.f at H
 have H' := Aside0.mk H
 clear H
 go_enter Try.func30, Try.ntmps30
 go_wp2
 go_loopg [5, 6] k (fun kq v5 v6 w' => ∃ (x5_1 : List Int) (x6_1 : Int), v6 = .int .i64 x6_1 ∧ Aside0 (skew_places.l0 kq a0 x5_1 x6_1 = some r) ∧ Aside0 (kq ≤ k) ∧ Aside0 (Kd.R (Kd.int .i64) 3 w' w.heap.size (fun _ => True) v5 x5_1) ∧ Aside0 (Below w.heap.size w w'))
 case atStart => exact ⟨(([] : List Int)), (a1), sD, H', ⟨Nat.le_refl _⟩, ⟨nL⟩, ⟨uB⟩⟩
 case round =>
  clear H'
  try clear p2
  obtain ⟨x5_1, x6_1, rfl, HA, HK1, HO_5, HB⟩ := hrel
  cases gk with
  | zero => exact absurd HA.out (by simp [skew_places.l0])
  | succ k1 =>
   have H := HA.out
   clear HA
   simp only [skew_places.l0] at H
   rcases ifC H with ⟨c3b0, H⟩ | ⟨c3b0, H⟩
   ·obtain ⟨c4, H⟩ := ifP H
    have LMc4 := Aside0.mk c4
    clear c4
    generalize hy196 : (x5_1 ++ [x6_1] : List Int) = y196 at H
    try simp only [Option.bind_some] at H
    have Ny196 := Aside0.mk hy196.symm
    clear hy196
    have H' := Aside0.mk H
    clear H
    go_wp2_with (first | ((with_reducible refine gate_builtin (b := .append) (xs := #[.tmp 13, .tmp 15]) rfl ?_); at_builtin; refine Kd.R_append (Kd.int .i64) (w0 := w) w.heap.size rfl (.tmp 13) (.tmp 15) 23 3 (.int .i64 0) 8 rfl Try.underlying23 info3 rfl (by decide) (by omega) u5 x5_1 x6_1 [.int .i64 x6_1] (fun _ => True) (fun _ => False) rfl rfl ?aP (fun _ hk => hk.elim) ?aF ?aO ?aB ?aS ?aL ?_; (case aP => exact rfl); (case aB => exact uB); (case aF => exact (fun _ _ => trivial)); (case aO => exact (uR HO_5.out)); (case aS => exact (below_size uB)); (case aL => have := LMc4.out; omega); intro v197 w5 ho hb hg hat; rw [← Ny196.out] at ho; have n0_ := Aside0.mk (hb); have n1_ := Aside0.mk (ho); clear HB; clear HO_5; have HB := n0_; have HO198 := n1_; clear n0_ n1_; clear ho hb hg hat))
    go_roundg k1
    case measure => have := HK1.out; omega
    case rel => exact ⟨(y196), (wrap64 (x6_1 + 3)), sD, H', ⟨by have := HK1.out; omega⟩, ⟨uR HO198.out⟩, ⟨uB⟩⟩
   ·obtain rfl := Option.some.inj H
    go_wp2
    go_ret
    exact ⟨_, eR, uR HO_5.out, uB⟩
end Go.Proofs.Ytbbpplnnegdenaa.PTopThree
end
section
namespace Go.Proofs.Ytbbpplnnegdenaa.PTopThree
open Go.RowKit Go.Proofs.YtbbpplnnegdenaaW.PrintWords Go.Proofs.YtbbpplnnegdenaaW.PrintLast Go.Proofs.YtbbpplnnegdenaaW.PrintMore
attribute [local go_sem] max2_int min2_int max_two min_two max_three min_three max_four min_four
set_option linter.unusedVariables false
set_option linter.unusedSimpArgs false
mutual
def bucket_Pass.l0 : Nat → List Int → List Int → List Int → List Int → Int → Int → Option (List Int × Bool)
  | 0, _, _, _, _, _, _ => none
  | k + 1, x0, x1, x10, x27, x28, x29 => if x29 < x28 then (if 0 ≤ x29 then (if x29 < (x27.length : Int) then (if (rd x27 x29) < 0 then (some (([] : List Int), false)) else (if (rd x27 x29) ≥ (x1.length : Int) then (some (([] : List Int), false)) else (if 0 ≤ (rd x27 x29) then (if (rd x27 x29) < (x1.length : Int) then (if 0 ≤ (rd x1 (rd x27 x29)) then (if (rd x1 (rd x27 x29)) < (x10.length : Int) then (bucket_Pass.l0 k x0 x1 (x10.set ((rd x1 (rd x27 x29)) : Int).toNat (wrap64 ((rd x10 (rd x1 (rd x27 x29))) + 1))) x27 x28 (wrap64 (x29 + 1))) else (none)) else (none)) else (none)) else (none)))) else (none)) else (none)) else ((bucket_Starts.f k x10).bind fun t210 => (if 0 ≤ (x0.length : Int) then (if ((x0.length : Int) : Int).toNat ≤ 35184372088832 then (bucket_Pass.l1 k x1 t210 (List.replicate ((x0.length : Int) : Int).toNat 0) x0 (x0.length : Int) 0) else (none)) else (none)))
def bucket_Pass.l1 : Nat → List Int → List Int → List Int → List Int → Int → Int → Option (List Int × Bool)
  | 0, _, _, _, _, _, _ => none
  | k + 1, x1, x13, x14, x56, x57, x58 => if x58 < x57 then (if 0 ≤ x58 then (if x58 < (x56.length : Int) then (if 0 ≤ (rd x56 x58) then (if (rd x56 x58) < (x1.length : Int) then (if 0 ≤ (rd x1 (rd x56 x58)) then (if (rd x1 (rd x56 x58)) < (x13.length : Int) then (if 0 ≤ (rd x13 (rd x1 (rd x56 x58))) then (if (rd x13 (rd x1 (rd x56 x58))) < (x14.length : Int) then (bucket_Pass.l1 k x1 (x13.set ((rd x1 (rd x56 x58)) : Int).toNat (wrap64 ((rd x13 (rd x1 (rd x56 x58))) + 1))) (x14.set ((rd x13 (rd x1 (rd x56 x58))) : Int).toNat (rd x56 x58)) x56 x57 (wrap64 (x58 + 1))) else (none)) else (none)) else (none)) else (none)) else (none)) else (none)) else (none)) else (none)) else (some (x14, true))
end
def bucket_Pass.f (k : Nat) (l0 : List Int) (l1 : List Int) (a2 : Int) : Option (List Int × Bool) := (bucket_Counts.f k l1 a2).bind fun bt199 => (if bt199.2 = true then (if 0 ≤ a2 then (if (a2 : Int).toNat ≤ 35184372088832 then (bucket_Pass.l0 k l0 l1 (List.replicate (a2 : Int).toNat 0) l0 (l0.length : Int) 0) else (none)) else (none)) else (some (([] : List Int), false)))
theorem bucket_Pass.mono_l : ∀ k, (∀ y0 y1 y2 y3 y4 y5, LeO (bucket_Pass.l0 k y0 y1 y2 y3 y4 y5) (bucket_Pass.l0 (k + 1) y0 y1 y2 y3 y4 y5)) ∧ (∀ y0 y1 y2 y3 y4 y5, LeO (bucket_Pass.l1 k y0 y1 y2 y3 y4 y5) (bucket_Pass.l1 (k + 1) y0 y1 y2 y3 y4 y5))
  | 0 => ⟨fun _ _ _ _ _ _ r h => by simp [bucket_Pass.l0] at h, fun _ _ _ _ _ _ r h => by simp [bucket_Pass.l1] at h⟩
  | k + 1 => by
    obtain ⟨ih0, ih1⟩ := bucket_Pass.mono_l k
    refine ⟨?_, ?_⟩
    · intro y0 y1 y2 y3 y4 y5
      unfold bucket_Pass.l0
      have m0 := @bucket_Counts.mono
      have m1 := @bucket_Starts.mono
      exact mB
    · intro y0 y1 y2 y3 y4 y5
      unfold bucket_Pass.l1
      have m0 := @bucket_Counts.mono
      have m1 := @bucket_Starts.mono
      exact mB
theorem bucket_Pass.mono : ∀ a0 a1 a2 k, LeO (bucket_Pass.f k a0 a1 a2) (bucket_Pass.f (k + 1) a0 a1 a2) := by
  intro a0 a1 a2 k
  obtain ⟨ih0, ih1⟩ := bucket_Pass.mono_l k
  unfold bucket_Pass.f
  have m0 := @bucket_Counts.mono
  have m1 := @bucket_Starts.mono
  exact mB
set_option maxHeartbeats 8000000 in
set_option maxRecDepth 100000 in
theorem bucket_Pass.calls (k : Nat) (A0 : Option Addr) (c0 : Nat) (l0 : List Int) (A1 : Option Addr) (c1 : Nat) (l1 : List Int) (a2 : Int) (r1 : List Int) (r2 : Bool) (w : World) (hr0 : Kd.C (Kd.int .i64) w A0 l0.length l0) (hc0 : l0.length ≤ c0) (hr1 : Kd.C (Kd.int .i64) w A1 l1.length l1) (hc1 : l1.length ≤ c1) (h : bucket_Pass.f k l0 l1 a2 = some (r1, r2)) :
    Calls Try.prog 32 #[.slice A0 l0.length c0, .slice A1 l1.length c1, .int .i64 a2] w fun e w' => ∃ v0_ : Value, e = .returned (.tuple #[v0_, .bool r2]) ∧ Kd.R (Kd.int .i64) 3 w' w.heap.size (fun _ => True) v0_ r1 ∧ Below w.heap.size w w' := by
 have HR0 := Aside0.mk hr0
 have HC0 := Aside0.mk hc0
 clear hr0 hc0
 have HR1 := Aside0.mk hr1
 have HC1 := Aside0.mk hc1
 clear hr1 hc1
 have HB := Aside0.mk (Below.refl w.heap.size w)
 have H := h
 clear h
 unfold bucket_Pass.f at H
 obtain ⟨⟨t199, t200⟩, A4, H⟩ := bdS H
 try dsimp only at H
 by_cases c5 : t200 = true
 ·subst c5
  rw [if_pos rfl] at H
  obtain ⟨c6b0, c6b1, H⟩ := ifE H
  obtain ⟨c7b0, c7b1, H⟩ := ifE H
  generalize hy203 : (List.replicate (a2 : Int).toNat 0 : List Int) = y203 at H
  try simp only [Option.bind_some] at H
  have Ny203 := Aside0.mk hy203.symm
  clear hy203
  have H' := Aside0.mk H
  clear H
  go_enter Try.func32, Try.ntmps32
  go_wp2_with (first | ((with_reducible refine gate_callee (f := 17) rfl ?_); refine goesL_ (some 20) rfl rfl Try.func17 (by kernel_rfl) rfl #[.slice A1 l1.length c1, .int .i64 a2] rfl aE ?_; (with_reducible refine (bucket_Counts.calls k _ _ l1 a2 t199 true _ ?side1 ?side2 A4.out).mono ?_); (case side1 => exact uC HR1.out); (case side2 => exact HC1.out); rintro e w8 ⟨v201, rfl, ho0, hb⟩; refine ⟨_, rfl, ?_⟩; have n0_ := Aside0.mk (Kd.R_lower ho0 (below_size uB)); have n1_ := Aside0.mk (below_step uB hb); clear HB; have HO202 := n0_; have HB := n1_; clear n0_ n1_; (try clear hb); (try clear hb2); (try clear hk); (try clear hi); (try clear ho0)) | ((with_reducible refine gate_dst (N := 26) rfl ?_); (try (refine gate_guard (by rfl) ?_; dsimp only)); refine Kd.R_make (Kd.int .i64) _ 3 rfl (N := 26) rfl 23 _ _ rfl a2 rfl rfl Try.underlying23 (.int .i64 0) 8 info3 rfl (by decide) (by omega) 0 (ok := fun _ => True) (okp := fun _ => True) rfl (fun _ hk => hk) trivial dT (Nat.le_trans (Nat.mul_le_mul_right _ (dT : a2.toNat ≤ 35184372088832)) (by omega)) (Below.refl _ _) (Nat.le_refl _) ?_; intro v204 w9 ho10 hb hg_ hnew_; clear hg_ hnew_; (first | rw [← Ny203.out] at ho10 | (simp only [Int.reduceToNat] at ho10; rw [← Ny203.out] at ho10)); have n0_ := Aside0.mk (Kd.R_elder' (uR HO202.out) (Kd.R_base ho10) hb); have n1_ := Aside0.mk (Kd.R_lower (Kd.R_new' ho10 (Kd.R_lt (uR HO202.out))) (below_size uB)); have n2_ := Aside0.mk (below_step uB hb); clear HO202; clear HB; have HO202 := n0_; have HO205 := n1_; have HB := n2_; clear n0_ n1_ n2_; clear hb ho10))
  go_loopg [29] k (fun kq v29 w' => ∃ (x10_1 : List Int) (x29_1 : Int), v29 = .int .i64 x29_1 ∧ Aside0 (bucket_Pass.l0 kq l0 l1 x10_1 l0 (l0.length : Int) x29_1 = some (r1, r2)) ∧ Aside0 (kq ≤ k) ∧ Aside0 (Kd.R (Kd.int .i64) 3 w' w.heap.size (fun _ => True) v204 x10_1) ∧ Aside0 (Below w.heap.size w w'))
  case atStart => exact ⟨(y203), (0), sD, H', ⟨Nat.le_refl _⟩, ⟨by (with_reducible repeat (first | apply Kd.R_alloc | apply Kd.R_drewN | apply Kd.R_drew)); exact Kd.R_mono HO205.out (fun _ hk => trivial)⟩, ⟨uB⟩⟩
  case round =>
   clear H'
   try clear c1
   try clear p2
   try clear c3
   try clear c5
   try clear c6
   try clear c6b0
   try clear c6b1
   try clear c7
   try clear c7b0
   try clear c7b1
   obtain ⟨x10_1, x29_1, rfl, HA, HK1, HO_10, HB⟩ := hrel
   cases gk with
   | zero => exact absurd HA.out (by simp [bucket_Pass.l0])
   | succ k1 =>
    have H := HA.out
    clear HA
    simp only [bucket_Pass.l0] at H
    rcases ifC H with ⟨c11b0, H⟩ | ⟨c11b0, H⟩
    ·obtain ⟨c12b0, c13b0, H⟩ := ifD2 H
     rcases ifC H with ⟨c14b0, H⟩ | ⟨c14b0, H⟩
     ·simp only [Option.some.injEq, Prod.mk.injEq] at H
      obtain ⟨rfl, rfl⟩ := H
      obtain ⟨ad206, e206, hx206_0, p206, q206⟩ := rIO HB.out HR0.out x29_1
      cases e206
      go_wp2
      go_ret2
      exact ⟨_, eR, nL, uB⟩
     ·rcases ifG H with ⟨c15b0, H⟩ | ⟨c15b0, H⟩
      ·simp only [Option.some.injEq, Prod.mk.injEq] at H
       obtain ⟨rfl, rfl⟩ := H
       obtain ⟨ad206, e206, hx206_0, p206, q206⟩ := rIO HB.out HR0.out x29_1
       cases e206
       go_wp2
       go_ret2
       exact ⟨_, eR, nL, uB⟩
      ·obtain ⟨c16b0, c17b0, H⟩ := ifD2 H
       obtain ⟨c18b0, c19b0, H⟩ := ifD2 H
       generalize hy209 : (x10_1.set ((rd l1 (rd l0 x29_1)) : Int).toNat (wrap64 ((rd x10_1 (rd l1 (rd l0 x29_1))) + 1)) : List Int) = y209 at H
       try simp only [Option.bind_some] at H
       have Ny209 := Aside0.mk hy209.symm
       clear hy209
       have H' := Aside0.mk H
       clear H
       obtain ⟨ad206, e206, hx206_0, p206, q206⟩ := rIO HB.out HR0.out x29_1
       cases e206
       obtain ⟨ad207, e207, hx207_0, p207, q207⟩ := rIO HB.out HR1.out (rd l0 x29_1)
       cases e207
       obtain ⟨Ao21, co21, eo21⟩ := Kd.R_slice HO_10.out
       subst eo21
       obtain ⟨ad208, e208, hx208_0, p208, q208⟩ := rI (Kd.R_reads' HO_10.out).2.2 (rd l1 (rd l0 x29_1))
       cases e208
       have p20 : 0 ≤ ((rd l1 (rd l0 x29_1)) : Int) := dT
       have q20 : ((rd l1 (rd l0 x29_1)) : Int) < ((x10_1.length : Int) : Int) := dT
       obtain ⟨go20, co20, eo20, gb20, gl20, cl20, HG20⟩ := Kd.R_form HO_10.out (by omega)
       (first | cases eo20 | (injection eo20 with ea_ en_ ec_; (first | subst ea_ | (injection ea_ with ea_; subst ea_)); subst ec_; clear en_))
       have GB20 := Aside0.mk gb20
       have GG20 := Aside0.mk HG20
       clear gb20 gl20 HG20
       (first | simp only [add_plain] at hx208_0 | skip)
       obtain ⟨hx20_0, hf20_0⟩ := Kd.R_celln 0 HO_10.out ((rd l1 (rd l0 x29_1)) : Int) p20 q20
       replace p20 := eq_true p20
       replace q20 := eq_true q20
       have HP22 := Kd.R_putg HO_10.out ((rd l1 (rd l0 x29_1)) : Int) (wrap64 ((rd x10_1 (rd l1 (rd l0 x29_1))) + 1))
       go_wp2_with (first | ((with_reducible refine gate_store (t := 3) (p := 49) rfl ?_); refine store_event (t := 3) (p := 49) (v := ?vo_w23) (w1 := (wr.setCell ⟨go20, ((rd l1 (rd l0 x29_1)) : Int).toNat, none⟩ (.int .i64 (wrap64 ((rd x10_1 (rd l1 (rd l0 x29_1))) + 1))))) ?hg ?ho ?hn ?hr ?_; (case ho => rfl); (case hg => rfl); (case hn => rfl); (case hr => first | (go_simp; done) | (go_simp; rfl)); intro w23 hw; have hg : wr.grownBy w23 (some go20) := (by rw [hw]; exact HP22.2); have hp_ : Kd.R (Kd.int .i64) 3 w23 w.heap.size (fun _ => True) (.slice (some ⟨go20, 0, none⟩) x10_1.length co21) y209 := (by rw [hw, Ny209.out]; exact HP22.1); clear HP22; have n0_ := Aside0.mk (hp_); have n1_ := Aside0.mk ((by rw [hw]; exact below_set (HB.out) GB20.out : Below w.heap.size w w23)); clear HO_10; clear HB; have HO_10 := n0_; have HB := n1_; clear n0_ n1_; clear hg hw hp_))
       go_roundg k1
       case measure => have := HK1.out; omega
       case rel => exact ⟨(y209), (wrap64 (x29_1 + 1)), sD, H', ⟨by have := HK1.out; omega⟩, ⟨uR HO_10.out⟩, ⟨uB⟩⟩
    ·obtain ⟨t210, A24, H⟩ := bdS H
     try dsimp only at H
     obtain ⟨c25b0, c25b1, H⟩ := ifE H
     obtain ⟨c26b0, c26b1, H⟩ := ifE H
     generalize hy213 : (List.replicate ((l0.length : Int) : Int).toNat 0 : List Int) = y213 at H
     try simp only [Option.bind_some] at H
     have Ny213 := Aside0.mk hy213.symm
     clear hy213
     have H' := Aside0.mk H
     clear H
     obtain ⟨Ao27, co27, eo27⟩ := Kd.R_slice HO_10.out
     subst eo27
     go_wp2_with (first | ((with_reducible refine gate_callee (f := 35) rfl ?_); refine goesL_ (some 52) rfl rfl Try.func35 (by kernel_rfl) rfl #[.slice Ao27 x10_1.length co27] rfl aE ?_; (with_reducible refine (bucket_Starts.calls k1 _ _ x10_1 t210 _ ?side1 ?side2 A24.out).mono ?_); (case side1 => exact uC (Kd.R_reads' HO_10.out).2.2); (case side2 => exact (Kd.R_reads' HO_10.out).2.1); rintro e w28 ⟨v211, rfl, ho0, hb⟩; refine ⟨_, rfl, ?_⟩; have n0_ := Aside0.mk (Kd.R_elder' (uR HO_10.out) (Kd.R_base ho0) hb); have n1_ := Aside0.mk (Kd.R_lower (Kd.R_new' ho0 (Kd.R_lt (uR HO_10.out))) (below_size uB)); have n2_ := Aside0.mk (below_step uB hb); clear HO_10; clear HB; have HO_10 := n0_; have HO212 := n1_; have HB := n2_; clear n0_ n1_ n2_; (try clear hb); (try clear hb2); (try clear hk); (try clear hi); (try clear ho0)) | ((with_reducible refine gate_dst (N := 55) rfl ?_); (try (refine gate_guard (by rfl) ?_; dsimp only)); refine Kd.R_make (Kd.int .i64) _ 3 rfl (N := 55) rfl 23 _ _ rfl (l0.length : Int) rfl rfl Try.underlying23 (.int .i64 0) 8 info3 rfl (by decide) (by omega) 0 (ok := fun _ => True) (okp := fun _ => True) rfl (fun _ hk => hk) trivial dT (Nat.le_trans (Nat.mul_le_mul_right _ (dT : (l0.length : Int).toNat ≤ 35184372088832)) (by omega)) (Below.refl _ _) (Nat.le_refl _) ?_; intro v214 w29 ho30 hb hg_ hnew_; clear hg_ hnew_; (first | rw [← Ny213.out] at ho30 | (simp only [Int.reduceToNat] at ho30; rw [← Ny213.out] at ho30)); have n0_ := Aside0.mk (Kd.R_elder' (uR HO_10.out) (Kd.R_base ho30) hb); have n1_ := Aside0.mk (Kd.R_elder' (uR HO212.out) (Kd.R_base ho30) hb); have n2_ := Aside0.mk (Kd.R_lower (Kd.R_new' (Kd.R_new' ho30 (Kd.R_lt (uR HO_10.out))) (Kd.R_lt (uR HO212.out))) (below_size uB)); have n3_ := Aside0.mk (below_step uB hb); clear HO_10; clear HO212; clear HB; have HO_10 := n0_; have HO212 := n1_; have HO215 := n2_; have HB := n3_; clear n0_ n1_ n2_ n3_; clear hb ho30))
     go_loopg [58] k1 (fun kq v58 w' => ∃ (x13_2 : List Int) (x14_2 : List Int) (x58_2 : Int), v58 = .int .i64 x58_2 ∧ Aside0 (bucket_Pass.l1 kq l1 x13_2 x14_2 l0 (l0.length : Int) x58_2 = some (r1, r2)) ∧ Aside0 (kq ≤ k1) ∧ Aside0 (Kd.R (Kd.int .i64) 3 w' w.heap.size (fun k_ => some k_ ≠ (v214 : Value).ownBlock) v211 x13_2) ∧ Aside0 (Kd.R (Kd.int .i64) 3 w' w.heap.size (fun k_ => some k_ ≠ (v211 : Value).ownBlock) v214 x14_2) ∧ Aside0 (Below w.heap.size w w'))
     case atStart => exact ⟨(t210), (y213), (0), sD, H', ⟨Nat.le_refl _⟩, ⟨by (with_reducible repeat (first | apply Kd.R_alloc | apply Kd.R_drewN | apply Kd.R_drew)); exact Kd.R_mono HO212.out (fun _ hk => hk.2)⟩, ⟨by (with_reducible repeat (first | apply Kd.R_alloc | apply Kd.R_drewN | apply Kd.R_drew)); exact Kd.R_mono HO215.out (fun _ hk => hk.2)⟩, ⟨uB⟩⟩
     case round =>
      clear H'
      try clear c1
      try clear c2
      try clear p2
      try clear q2
      try clear hx2
      try clear c3
      try clear c5
      try clear c6
      try clear c6b0
      try clear c6b1
      try clear p6
      try clear c7
      try clear c7b0
      try clear c7b1
      try clear c11
      try clear c11b0
      try clear c12
      try clear c12b0
      try clear c13
      try clear c13b0
      try clear c14
      try clear c14b0
      try clear c15
      try clear c15b0
      try clear c16
      try clear c16b0
      try clear c17
      try clear c17b0
      try clear c18
      try clear c18b0
      try clear c19
      try clear c19b0
      try clear p20
      try clear q20
      try clear hx20
      try clear hf20
      try clear c25
      try clear c25b0
      try clear c25b1
      try clear c26
      try clear c26b0
      try clear c26b1
      try clear hx206_0
      try clear hx207_0
      try clear hx208_0
      try clear hx20_0
      try clear p2
      try clear p20
      try clear p206
      try clear p207
      try clear p208
      try clear q20
      try clear q206
      try clear q207
      try clear q208
      obtain ⟨x13_2, x14_2, x58_2, rfl, HA, HK2, HO_13, HO_14, HB⟩ := hrel
      cases gk with
      | zero => exact absurd HA.out (by simp [bucket_Pass.l1])
      | succ k2 =>
       have H := HA.out
       clear HA
       simp only [bucket_Pass.l1] at H
       rcases ifC H with ⟨c31b0, H⟩ | ⟨c31b0, H⟩
       ·obtain ⟨c32b0, c33b0, H⟩ := ifD2 H
        obtain ⟨c34b0, c35b0, H⟩ := ifD2 H
        obtain ⟨c36b0, c37b0, H⟩ := ifD2 H
        obtain ⟨c38b0, c39b0, H⟩ := ifD2 H
        generalize hy219 : (x14_2.set ((rd x13_2 (rd l1 (rd l0 x58_2))) : Int).toNat (rd l0 x58_2) : List Int) = y219 at H
        try simp only [Option.bind_some] at H
        have Ny219 := Aside0.mk hy219.symm
        clear hy219
        generalize hy222 : (x13_2.set ((rd l1 (rd l0 x58_2)) : Int).toNat (wrap64 ((rd x13_2 (rd l1 (rd l0 x58_2))) + 1)) : List Int) = y222 at H
        try simp only [Option.bind_some] at H
        have Ny222 := Aside0.mk hy222.symm
        clear hy222
        have H' := Aside0.mk H
        clear H
        obtain ⟨ad216, e216, hx216_0, p216, q216⟩ := rIO HB.out HR0.out x58_2
        cases e216
        obtain ⟨ad217, e217, hx217_0, p217, q217⟩ := rIO HB.out HR1.out (rd l0 x58_2)
        cases e217
        obtain ⟨Ao42, co42, eo42⟩ := Kd.R_slice HO_13.out
        subst eo42
        obtain ⟨ad218, e218, hx218_0, p218, q218⟩ := rI (Kd.R_reads' HO_13.out).2.2 (rd l1 (rd l0 x58_2))
        cases e218
        have p40 : 0 ≤ ((rd x13_2 (rd l1 (rd l0 x58_2))) : Int) := dT
        have q40 : ((rd x13_2 (rd l1 (rd l0 x58_2))) : Int) < ((x14_2.length : Int) : Int) := dT
        obtain ⟨go40, co40, eo40, gb40, gl40, cl40, HG40⟩ := Kd.R_form HO_14.out (by omega)
        (first | cases eo40 | (injection eo40 with ea_ en_ ec_; (first | subst ea_ | (injection ea_ with ea_; subst ea_)); subst ec_; clear en_))
        have GB40 := Aside0.mk gb40
        have GG40 := Aside0.mk HG40
        clear gb40 gl40 HG40
        obtain ⟨hx40_0, hf40_0⟩ := Kd.R_celln 0 HO_14.out ((rd x13_2 (rd l1 (rd l0 x58_2))) : Int) p40 q40
        replace p40 := eq_true p40
        replace q40 := eq_true q40
        have HP43 := Kd.R_putg HO_14.out ((rd x13_2 (rd l1 (rd l0 x58_2))) : Int) (rd l0 x58_2)
        go_wp2_with (first | ((with_reducible refine gate_store (t := 3) (p := 71) rfl ?_); refine store_event (t := 3) (p := 71) (v := ?vo_w44) (w1 := (wr.setCell ⟨go40, ((rd x13_2 (rd l1 (rd l0 x58_2))) : Int).toNat, none⟩ (.int .i64 (rd l0 x58_2)))) ?hg ?ho ?hn ?hr ?_; (case ho => rfl); (case hg => rfl); (case hn => rfl); (case hr => first | (go_simp; done) | (go_simp; rfl)); intro w44 hw; have hg : wr.grownBy w44 (some go40) := (by rw [hw]; exact HP43.2); have hp_ : Kd.R (Kd.int .i64) 3 w44 w.heap.size (fun k_ => some k_ ≠ (.slice (some ad218) x13_2.length co42 : Value).ownBlock) (.slice (some ⟨go40, 0, none⟩) x14_2.length co40) y219 := (by rw [hw, Ny219.out]; exact HP43.1); clear HP43; have n0_ := Aside0.mk (Kd.R_after (v := (.slice (some ⟨go40, 0, none⟩) x14_2.length co40)) (v1 := (.slice (some ⟨go40, 0, none⟩) x14_2.length co40)) (ok := (fun _ => True)) (by (with_reducible repeat (first | apply Kd.R_alloc | apply Kd.R_drewN | apply Kd.R_drew)); exact Kd.R_mono HO_13.out (fun _ hk => ⟨trivial, hk⟩)) hg (.inl rfl)); have n1_ := Aside0.mk (hp_); have n2_ := Aside0.mk ((by rw [hw]; exact below_set (HB.out) GB40.out : Below w.heap.size w w44)); clear HO_13; clear HO_14; clear HB; have HO_13 := n0_; have HO_14 := n1_; have HB := n2_; clear n0_ n1_ n2_; clear hg hw hp_; have p220 : 0 ≤ ((rd l0 x58_2) : Int) := dT; have q220 : (rd l0 x58_2) < (l1.length : Int) := dT; obtain ⟨ad220, e220, hx220_0⟩ := Kd.at_int HR1.out (rd l0 x58_2) p220 q220; obtain rfl : ad217 = ad220 := (by injection e220); replace hx220_0 := (HB.out.cell (World.block_lt_of_cell? w _ hx220_0)).trans hx220_0; replace p220 := eq_true p220; replace q220 := eq_true q220; have p221 : 0 ≤ ((rd l1 (rd l0 x58_2)) : Int) := dT; have q221 : (rd l1 (rd l0 x58_2)) < (x13_2.length : Int) := dT; obtain ⟨ad221, e221, hx221_0⟩ := Kd.at_int (Kd.R_reads' HO_13.out).2.2 (rd l1 (rd l0 x58_2)) p221 q221; obtain rfl : ad218 = ad221 := (by injection e221); replace p221 := eq_true p221; replace q221 := eq_true q221; have p41 : 0 ≤ ((rd l1 (rd l0 x58_2)) : Int) := dT; have q41 : ((rd l1 (rd l0 x58_2)) : Int) < ((x13_2.length : Int) : Int) := dT; obtain ⟨go41, co41, eo41, gb41, gl41, cl41, HG41⟩ := Kd.R_form HO_13.out (by omega); (first | cases eo41 | (injection eo41 with ea_ en_ ec_; (first | subst ea_ | (injection ea_ with ea_; subst ea_)); subst ec_; clear en_)); have GB41 := Aside0.mk gb41; have GG41 := Aside0.mk HG41; clear gb41 gl41 HG41; (first | simp only [add_plain] at hx218_0 | skip); (first | simp only [add_plain] at hx221_0 | skip); obtain ⟨hx41_0, hf41_0⟩ := Kd.R_celln 0 HO_13.out ((rd l1 (rd l0 x58_2)) : Int) p41 q41; replace p41 := eq_true p41; replace q41 := eq_true q41; have n_ := Aside0.mk (Kd.R_mono (ok' := (fun k_ => some k_ ≠ (.slice (some ⟨go40, 0, none⟩) x14_2.length co40 : Value).ownBlock)) HO_13.out (fun k_ hk => hk.2)); clear HO_13; have HO_13 := n_; clear n_; obtain ⟨hy45_, hz45_⟩ := Kd.R_celln 0 HO_13.out ((rd l1 (rd l0 x58_2)) : Int) dT dT; have HP45 := Kd.R_putg HO_13.out ((rd l1 (rd l0 x58_2)) : Int) (wrap64 ((rd x13_2 (rd l1 (rd l0 x58_2))) + 1))) | ((with_reducible refine gate_store (t := 3) (p := 80) rfl ?_); refine store_event (t := 3) (p := 80) (v := ?vo_w46) (w1 := (w44.setCell ⟨go41, ((rd l1 (rd l0 x58_2)) : Int).toNat, none⟩ (.int .i64 (wrap64 ((rd x13_2 (rd l1 (rd l0 x58_2))) + 1))))) ?hg ?ho ?hn ?hr ?_; (case ho => rfl); (case hg => rfl); (case hn => rfl); (case hr => first | (go_simp; done) | (go_simp; rfl)); intro w46 hw; have hg : w44.grownBy w46 (some go41) := (by rw [hw]; exact HP45.2); have hp_ : Kd.R (Kd.int .i64) 3 w46 w.heap.size (fun k_ => some k_ ≠ (.slice (some ⟨go40, 0, none⟩) x14_2.length co40 : Value).ownBlock) (.slice (some ⟨go41, 0, none⟩) x13_2.length co42) y222 := (by rw [hw, Ny222.out]; exact HP45.1); clear HP45; have n0_ := Aside0.mk (hp_); have n1_ := Aside0.mk (Kd.R_after (v := (.slice (some ⟨go41, 0, none⟩) x13_2.length co42)) (v1 := (.slice (some ⟨go41, 0, none⟩) x13_2.length co42)) (ok := (fun _ => True)) (by (with_reducible repeat (first | apply Kd.R_alloc | apply Kd.R_drewN | apply Kd.R_drew)); exact Kd.R_mono HO_14.out (fun _ hk => ⟨trivial, hk⟩)) hg (.inl rfl)); have n2_ := Aside0.mk ((by rw [hw]; exact below_set (HB.out) GB41.out : Below w.heap.size w w46)); clear HO_13; clear HO_14; clear HB; have HO_13 := n0_; have HO_14 := n1_; have HB := n2_; clear n0_ n1_ n2_; clear hg hw hp_))
        go_roundg k2
        case measure => have := HK1.out; have := HK2.out; omega
        case rel => exact ⟨(y222), (y219), (wrap64 (x58_2 + 1)), sD, H', ⟨by have := HK1.out; have := HK2.out; omega⟩, ⟨uR HO_13.out⟩, ⟨by (with_reducible repeat (first | apply Kd.R_alloc | apply Kd.R_drewN | apply Kd.R_drew)); exact Kd.R_mono HO_14.out (fun _ hk => hk.2)⟩, ⟨uB⟩⟩
       ·simp only [Option.some.injEq, Prod.mk.injEq] at H
        obtain ⟨rfl, rfl⟩ := H
        go_wp2
        go_ret2
        exact ⟨_, eR, by (with_reducible repeat (first | apply Kd.R_alloc | apply Kd.R_drewN | apply Kd.R_drew)); exact Kd.R_mono HO_14.out (fun _ hk => trivial), uB⟩
 ·replace c5 := Bool.eq_false_iff.mpr c5
  subst c5
  rw [if_neg (by decide)] at H
  simp only [Option.some.injEq, Prod.mk.injEq] at H
  obtain ⟨rfl, rfl⟩ := H
  go_enter Try.func32, Try.ntmps32
  go_wp2_with (first | ((with_reducible refine gate_callee (f := 17) rfl ?_); refine goesL_ (some 20) rfl rfl Try.func17 (by kernel_rfl) rfl #[.slice A1 l1.length c1, .int .i64 a2] rfl aE ?_; (with_reducible refine (bucket_Counts.calls k _ _ l1 a2 t199 false _ ?side1 ?side2 A4.out).mono ?_); (case side1 => exact uC HR1.out); (case side2 => exact HC1.out); rintro e w47 ⟨v201, rfl, ho0, hb⟩; refine ⟨_, rfl, ?_⟩; have n0_ := Aside0.mk (Kd.R_lower ho0 (below_size uB)); have n1_ := Aside0.mk (below_step uB hb); clear HB; have HO202 := n0_; have HB := n1_; clear n0_ n1_; (try clear hb); (try clear hb2); (try clear hk); (try clear hi); (try clear ho0)))
  go_ret2
  exact ⟨_, eR, nL, uB⟩
def skew_key.f (l0 : List Int) (a1 : Int) : Option (Int) := if a1 ≥ (l0.length : Int) then (some 0) else (if 0 ≤ a1 then (if a1 < (l0.length : Int) then (some (wrap64 ((rd l0 a1) + 1))) else (none)) else (none))
set_option maxHeartbeats 8000000 in
set_option maxRecDepth 100000 in
theorem skew_key.calls (A0 : Option Addr) (c0 : Nat) (l0 : List Int) (a1 : Int) (r : Int) (w : World) (hr0 : Kd.C (Kd.int .i64) w A0 l0.length l0) (hc0 : l0.length ≤ c0) (h : skew_key.f l0 a1 = some r) :
    Calls Try.prog 57 #[.slice A0 l0.length c0, .int .i64 a1] w fun e w' => e = .returned (.int .i64 r) ∧ Drawn0 w w' := by
 have HR0 := Aside0.mk hr0
 have HC0 := Aside0.mk hc0
 clear hr0 hc0
 have H := h
 clear h
 unfold skew_key.f at H
 rcases ifG H with ⟨c3b0, H⟩ | ⟨c3b0, H⟩
 ·obtain rfl := Option.some.inj H
  go_enter Try.func57, Try.ntmps57
  go_wp2
  go_ret
  exact ⟨sD, dD⟩
 ·obtain ⟨c4b0, c5b0, H⟩ := ifD2 H
  obtain rfl := Option.some.inj H
  obtain ⟨ad223, e223, hx223_0, p223, q223⟩ := rI HR0.out a1
  cases e223
  go_enter Try.func57, Try.ntmps57
  go_wp2
  go_ret
  exact ⟨sD, dD⟩
def skew_keys.l0 : Nat → List Int → Int → List Int → Int → Int → Option (List Int)
  | 0, _, _, _, _, _ => none
  | k + 1, x0, x1, x5, x11, x12 => if x12 < x11 then ((skew_key.f x0 (wrap64 (x12 + x1))).bind fun t227 => (if 0 ≤ x12 then (if x12 < (x5.length : Int) then (skew_keys.l0 k x0 x1 (x5.set (x12 : Int).toNat t227) x11 (wrap64 (x12 + 1))) else (none)) else (none))) else (some x5)
def skew_keys.f (k : Nat) (l0 : List Int) (a1 : Int) : Option (List Int) := if 0 ≤ (l0.length : Int) then (if ((l0.length : Int) : Int).toNat ≤ 35184372088832 then ((some (List.replicate ((l0.length : Int) : Int).toNat 0 : List Int)).bind fun y224 => (skew_keys.l0 k l0 a1 y224 (y224.length : Int) 0)) else (none)) else (none)
theorem skew_keys.mono_l : ∀ k, (∀ y0 y1 y2 y3 y4, LeO (skew_keys.l0 k y0 y1 y2 y3 y4) (skew_keys.l0 (k + 1) y0 y1 y2 y3 y4))
  | 0 => fun _ _ _ _ _ r h => by simp [skew_keys.l0] at h
  | k + 1 => by
    have ih0 := skew_keys.mono_l k
    · intro y0 y1 y2 y3 y4
      unfold skew_keys.l0
      exact mB
theorem skew_keys.mono : ∀ a0 a1 k, LeO (skew_keys.f k a0 a1) (skew_keys.f (k + 1) a0 a1) := by
  intro a0 a1 k
  have ih0 := skew_keys.mono_l k
  unfold skew_keys.f
  exact mB
set_option maxHeartbeats 8000000 in
set_option maxRecDepth 100000 in
theorem skew_keys.calls (k : Nat) (A0 : Option Addr) (c0 : Nat) (l0 : List Int) (a1 : Int) (r : List Int) (w : World) (hr0 : Kd.C (Kd.int .i64) w A0 l0.length l0) (hc0 : l0.length ≤ c0) (h : skew_keys.f k l0 a1 = some r) :
    Calls Try.prog 33 #[.slice A0 l0.length c0, .int .i64 a1] w fun e w' => ∃ v0_ : Value, e = .returned (v0_) ∧ Kd.R (Kd.int .i64) 3 w' w.heap.size (fun _ => True) v0_ r ∧ Below w.heap.size w w' := by
 have HR0 := Aside0.mk hr0
 have HC0 := Aside0.mk hc0
 clear hr0 hc0
 have HB := Aside0.mk (Below.refl w.heap.size w)
 have H := h
 clear h
 unfold skew_keys.f at H
 obtain ⟨c3b0, c3b1, H⟩ := ifE H
 obtain ⟨c4b0, c4b1, H⟩ := ifE H
 generalize hy224 : (List.replicate ((l0.length : Int) : Int).toNat 0 : List Int) = y224 at H
 try simp only [Option.bind_some] at H
 have Ny224 := Aside0.mk hy224.symm
 clear hy224
 have H' := Aside0.mk H
 clear H
 go_enter Try.func33, Try.ntmps33
 go_wp2_with (first | ((with_reducible refine gate_dst (N := 9) rfl ?_); refine Kd.R_make (Kd.int .i64) _ 3 rfl (N := 9) rfl 23 _ _ rfl (l0.length : Int) rfl rfl Try.underlying23 (.int .i64 0) 8 info3 rfl (by decide) (by omega) 0 (ok := fun _ => True) (okp := fun _ => True) rfl (fun _ hk => hk) trivial dT (Nat.le_trans (Nat.mul_le_mul_right _ (dT : (l0.length : Int).toNat ≤ 35184372088832)) (by omega)) (Below.refl _ _) (Nat.le_refl _) ?_; intro v225 w5 ho6 hb hg_ hnew_; clear hg_ hnew_; (first | rw [← Ny224.out] at ho6 | (simp only [Int.reduceToNat] at ho6; rw [← Ny224.out] at ho6)); have n0_ := Aside0.mk (Kd.R_lower ho6 (below_size uB)); have n1_ := Aside0.mk (below_step uB hb); clear HB; have HO226 := n0_; have HB := n1_; clear n0_ n1_; clear hb ho6; obtain ⟨Ao7, co7, eo7⟩ := Kd.R_slice HO226.out; subst eo7))
 go_loopg [12] k (fun kq v12 w' => ∃ (x5_1 : List Int) (x12_1 : Int), v12 = .int .i64 x12_1 ∧ Aside0 (skew_keys.l0 kq l0 a1 x5_1 (y224.length : Int) x12_1 = some r) ∧ Aside0 (kq ≤ k) ∧ Aside0 (Kd.R (Kd.int .i64) 3 w' w.heap.size (fun _ => True) (.slice Ao7 y224.length co7) x5_1) ∧ Aside0 (Below w.heap.size w w'))
 case atStart => exact ⟨(y224), (0), sD, H', ⟨Nat.le_refl _⟩, ⟨uR HO226.out⟩, ⟨uB⟩⟩
 case round =>
  clear H'
  try clear p2
  try clear c3
  try clear c3b0
  try clear c3b1
  try clear c4
  try clear c4b0
  try clear c4b1
  obtain ⟨x5_1, x12_1, rfl, HA, HK1, HO_5, HB⟩ := hrel
  have hl5_1 := (Kd.R_reads' HO_5.out).1
  rw [hl5_1] at HO_5
  (try simp only [hl5_1])
  cases gk with
  | zero => exact absurd HA.out (by simp [skew_keys.l0])
  | succ k1 =>
   have H := HA.out
   clear HA
   simp only [skew_keys.l0] at H
   by_cases c8 : x12_1 < (y224.length : Int)
   ·rw [if_pos c8] at H
    have c8b0 : decide (x12_1 < (y224.length : Int)) = true := decide_eq_true c8
    clear c8
    obtain ⟨t227, A9, H⟩ := bdS H
    try dsimp only at H
    obtain ⟨c10b0, c11b0, H⟩ := ifD2 H
    generalize hy228 : (x5_1.set (x12_1 : Int).toNat t227 : List Int) = y228 at H
    try simp only [Option.bind_some] at H
    have Ny228 := Aside0.mk hy228.symm
    clear hy228
    have H' := Aside0.mk H
    clear H
    go_wp2_with (first | ((with_reducible refine gate_callee (f := 57) rfl ?_); refine goesL_ (some 21) rfl rfl Try.func57 (by kernel_rfl) rfl #[.slice A0 l0.length c0, .int .i64 (wrap64 (x12_1 + a1))] rfl aE ?_; (with_reducible refine (skew_key.calls _ _ l0 (wrap64 (x12_1 + a1)) t227 _ ?side1 ?side2 A9.out).mono ?_); (case side1 => exact uC (Kd.C_below HR0.out HB.out)); (case side2 => exact HC0.out); rintro e w' ⟨rfl, ⟨nd, rfl⟩⟩; refine ⟨_, rfl, ?_⟩; (try (rw [drewN_self wr]; generalize hq_ : World.drewN wr _ = wr; have n0_ : Aside0 (Kd.R (Kd.int .i64) 3 wr w.heap.size (fun _ => True) (.slice Ao7 x5_1.length co7) x5_1) := ⟨by rw [← hq_]; exact (uR HO_5.out)⟩; have n1_ : Aside0 (Below w.heap.size w wr) := ⟨by rw [← hq_]; exact uB⟩; clear HO_5 HB hq_; have HO_5 := n0_; have HB := n1_; clear n0_ n1_)); have p12 : 0 ≤ (x12_1 : Int) := dT; have q12 : (x12_1 : Int) < ((x5_1.length : Int) : Int) := dT; obtain ⟨go12, co12, eo12, gb12, gl12, cl12, HG12⟩ := Kd.R_form HO_5.out (by omega); (first | cases eo12 | (injection eo12 with ea_ en_ ec_; (first | subst ea_ | (injection ea_ with ea_; subst ea_)); subst ec_; clear en_)); have GB12 := Aside0.mk gb12; have GG12 := Aside0.mk HG12; clear gb12 gl12 HG12; obtain ⟨hx12_0, hf12_0⟩ := Kd.R_celln 0 HO_5.out (x12_1 : Int) p12 q12; replace p12 := eq_true p12; replace q12 := eq_true q12; obtain ⟨hy13_, hz13_⟩ := Kd.R_celln 0 HO_5.out (x12_1 : Int) dT dT; have HP13 := Kd.R_putg HO_5.out (x12_1 : Int) t227) | ((with_reducible refine gate_store (t := 3) (p := 22) rfl ?_); refine store_event (t := 3) (p := 22) (v := ?vo_w14) (w1 := (wr.setCell ⟨go12, (x12_1 : Int).toNat, none⟩ (.int .i64 t227))) ?hg ?ho ?hn ?hr ?_; (case ho => rfl); (case hg => rfl); (case hn => rfl); (case hr => first | (go_simp; done) | (go_simp; rfl)); intro w14 hw; have hg : wr.grownBy w14 (some go12) := (by rw [hw]; exact HP13.2); have hp_ : Kd.R (Kd.int .i64) 3 w14 w.heap.size (fun _ => True) (.slice (some ⟨go12, 0, none⟩) x5_1.length co7) y228 := (by rw [hw, Ny228.out]; exact HP13.1); clear HP13; have n0_ := Aside0.mk (hp_); have n1_ := Aside0.mk ((by rw [hw]; exact below_set (HB.out) GB12.out : Below w.heap.size w w14)); clear HO_5; clear HB; have HO_5 := n0_; have HB := n1_; clear n0_ n1_; clear hg hw hp_))
    (try simp only [← hl5_1])
    go_roundg k1
    case measure => have := HK1.out; omega
    case rel => exact ⟨(y228), (wrap64 (x12_1 + 1)), sD, H', ⟨by have := HK1.out; omega⟩, ⟨by (try simp only [hl5_1]); (with_reducible repeat (first | apply Kd.R_alloc | apply Kd.R_drewN | apply Kd.R_drew)); exact HO_5.out⟩, ⟨uB⟩⟩
   ·rw [if_neg c8] at H
    have c8b0 : decide (x12_1 < (y224.length : Int)) = false := decide_eq_false c8
    (try simp only [hl5_1] at c8b0)
    clear c8
    obtain rfl := Option.some.inj H
    go_wp2
    go_ret
    exact ⟨_, eR, uR HO_5.out, uB⟩
def skew_Sample.j0 : Nat → Int → Bool → Option (List Int)
  | 0, _, _ => none
  | k + 1, x0, x8 => if x8 = true then (some ([] : List Int)) else ((skew_places.f k x0 1).bind fun t229 => ((skew_places.f k x0 2).bind fun t232 => (if t229.length + t232.length < 17592186044416 then (some (t229 ++ t232)) else (none))))
def skew_Sample.f (k : Nat) (a0 : Int) : Option (List Int) := if a0 < 0 then (skew_Sample.j0 k a0 true) else (skew_Sample.j0 k a0 (decide (a0 > 100000)))
theorem skew_Sample.mono_l : ∀ k, (∀ y0 y1, LeO (skew_Sample.j0 k y0 y1) (skew_Sample.j0 (k + 1) y0 y1))
  | 0 => fun _ _ r h => by simp [skew_Sample.j0] at h
  | k + 1 => by
    have ih0 := skew_Sample.mono_l k
    · intro y0 y1
      unfold skew_Sample.j0
      have m0 := @skew_places.mono
      exact mB
theorem skew_Sample.mono : ∀ a0 k, LeO (skew_Sample.f k a0) (skew_Sample.f (k + 1) a0) := by
  intro a0 k
  have ih0 := skew_Sample.mono_l k
  unfold skew_Sample.f
  have m0 := @skew_places.mono
  exact mB
set_option maxHeartbeats 8000000 in
set_option maxRecDepth 100000 in
theorem skew_Sample.calls (k : Nat) (a0 : Int) (r : List Int) (w : World) (h : skew_Sample.f k a0 = some r) :
    Calls Try.prog 55 #[.int .i64 a0] w fun e w' => ∃ v0_ : Value, e = .returned (v0_) ∧ Kd.R (Kd.int .i64) 3 w' w.heap.size (fun _ => True) v0_ r ∧ Below w.heap.size w w' := by
 have HB := Aside0.mk (Below.refl w.heap.size w)
 have H := h
 clear h
 unfold skew_Sample.f at H
 have HC2 := Aside0.mk H
 clear H
 go_enter Try.func55, Try.ntmps55
 go_upto_region 1 with (fail)
 go_cut [8] (fun v8 wc => ∃ (kq : Nat) (x8_1 : Bool), v8 = .bool x8_1 ∧ Aside0 (skew_Sample.j0 kq a0 x8_1 = some r) ∧ Aside0 (kq ≤ k) ∧ Aside0 (Below w.heap.size w wc))
 case first =>
  have H := HC2.out
  clear HC2
  rcases ifC H with ⟨c3b0, H⟩ | ⟨c3b0, H⟩
  ·(first | rw [c3b0] | (simp only [i64_w, i32_w]; rw [c3b0]) | skip)
   have H' := Aside0.mk H
   clear H
   go_wp2
   go_meet
   case rel => exact ⟨_, (true), sD, H', ⟨by first | omega | exact Nat.le_refl _⟩, ⟨uB⟩⟩
  ·(first | rw [c3b0] | (simp only [i64_w, i32_w]; rw [c3b0]) | skip)
   have H' := Aside0.mk H
   clear H
   go_wp2
   go_meet
   case rel => exact ⟨_, (decide (a0 > 100000)), sD, H', ⟨by first | omega | exact Nat.le_refl _⟩, ⟨uB⟩⟩
 case rest =>
  clear HC2
  try clear p2
  try clear c3
  try clear c3b0
  obtain ⟨kq, x8_1, rfl, HA, HJ1, HB⟩ := hcut
  cases kq with
  | zero => exact absurd HA.out (by simp [skew_Sample.j0])
  | succ kj1 =>
   have H := HA.out
   clear HA
   simp only [skew_Sample.j0] at H
   by_cases c4 : x8_1 = true
   ·subst c4
    rw [if_pos rfl] at H
    obtain rfl := Option.some.inj H
    go_wp2
    go_ret
    exact ⟨_, eR, nL, uB⟩
   ·replace c4 := Bool.eq_false_iff.mpr c4
    subst c4
    rw [if_neg (by decide)] at H
    obtain ⟨t229, A5, H⟩ := bdS H
    try dsimp only at H
    obtain ⟨t232, A6, H⟩ := bdS H
    try dsimp only at H
    obtain ⟨c7, H⟩ := ifP H
    have LMc7 := Aside0.mk c7
    clear c7
    generalize hy235 : (t229 ++ t232 : List Int) = y235 at H
    try simp only [Option.bind_some] at H
    have Ny235 := Aside0.mk hy235.symm
    clear hy235
    obtain rfl := Option.some.inj H
    go_wp2_with (first | ((with_reducible refine gate_callee (f := 30) rfl ?_); refine goesL_ (some 10) rfl rfl Try.func30 (by kernel_rfl) rfl #[.int .i64 a0, .int .i64 1] rfl aE ?_; (with_reducible refine (skew_places.calls kj1 a0 1 t229 _ A5.out).mono ?_); rintro e w8 ⟨v230, rfl, ho0, hb⟩; refine ⟨_, rfl, ?_⟩; have n0_ := Aside0.mk (Kd.R_lower ho0 (below_size uB)); have n1_ := Aside0.mk (below_step uB hb); clear HB; have HO231 := n0_; have HB := n1_; clear n0_ n1_; (try clear hb); (try clear hb2); (try clear hk); (try clear hi); (try clear ho0)) | ((with_reducible refine gate_callee (f := 30) rfl ?_); refine goesL_ (some 12) rfl rfl Try.func30 (by kernel_rfl) rfl #[.int .i64 a0, .int .i64 2] rfl aE ?_; (with_reducible refine (skew_places.calls kj1 a0 2 t232 _ A6.out).mono ?_); rintro e w9 ⟨v233, rfl, ho0, hb⟩; refine ⟨_, rfl, ?_⟩; have n0_ := Aside0.mk (Kd.R_elder' (uR HO231.out) (Kd.R_base ho0) hb); have n1_ := Aside0.mk (Kd.R_lower (Kd.R_new' ho0 (Kd.R_lt (uR HO231.out))) (below_size uB)); have n2_ := Aside0.mk (below_step uB hb); clear HO231; clear HB; have HO231 := n0_; have HO234 := n1_; have HB := n2_; clear n0_ n1_ n2_; (try clear hb); (try clear hb2); (try clear hk); (try clear hi); (try clear ho0); obtain ⟨Ao11, co11, eo11⟩ := Kd.R_slice HO234.out; subst eo11) | ((with_reducible refine gate_builtin (b := .append) (xs := #[.tmp 10, .tmp 12]) rfl ?_); at_builtin; refine Kd.R_append_rows (Kd.int .i64) (w0 := w) w.heap.size rfl (.tmp 10) (.tmp 12) 23 3 (.int .i64 0) 8 rfl Try.underlying23 info3 rfl (by decide) (by omega) v230 t229 t232 _ _ _ (fun k_ => some k_ ≠ (.slice Ao11 t232.length co11 : Value).ownBlock) (fun _ => False) rfl rfl ?aO ?aR (fun _ _ h => h) (fun _ h => h.elim) ?aF ?aB ?aS ?aL ?_; (case aR => repeat (first | exact (Kd.R_reads' HO234.out).2.2 | (with_reducible refine Kd.C_alloc ?_ _) | (with_reducible refine Kd.C_drewN ?_ _) | (with_reducible refine Kd.C_drew ?_))); (case aB => exact uB); (case aF => exact (fun k_ hk => Kd.fresh' (Kd.R_lt (uR HO234.out)) k_ hk)); (case aO => exact (by (with_reducible repeat (first | apply Kd.R_alloc | apply Kd.R_drewN | apply Kd.R_drew)); exact Kd.R_mono HO231.out (fun _ hk => hk.2))); (case aS => exact (below_size uB)); (case aL => have := LMc7.out; omega); intro v236 w10 ho hb hg hat; rw [← Ny235.out] at ho; have n0_ := Aside0.mk (Kd.R_after (ok := (fun _ => True)) (uR HO234.out) hg hat); have n1_ := Aside0.mk (hb); have n2_ := Aside0.mk (ho); clear HO234; clear HB; clear HO231; have HO234 := n0_; have HB := n1_; have HO237 := n2_; clear n0_ n1_ n2_; clear ho hb hg hat))
    go_ret
    exact ⟨_, eR, by (with_reducible repeat (first | apply Kd.R_alloc | apply Kd.R_drewN | apply Kd.R_drew)); exact Kd.R_mono HO237.out (fun _ hk => trivial), uB⟩
def skew_alike.l0 : Nat → List Int → Int → Int → Int → Option (Bool)
  | 0, _, _, _, _ => none
  | k + 1, x0, x1, x2, x8 => if x8 < 3 then ((skew_key.f x0 (wrap64 (x1 + x8))).bind fun t238 => ((skew_key.f x0 (wrap64 (x2 + x8))).bind fun t239 => (if t238 = t239 then (skew_alike.l0 k x0 x1 x2 (wrap64 (x8 + 1))) else (some false)))) else (some true)
def skew_alike.f (k : Nat) (l0 : List Int) (a1 : Int) (a2 : Int) : Option (Bool) := skew_alike.l0 k l0 a1 a2 0
theorem skew_alike.mono_l : ∀ k, (∀ y0 y1 y2 y3, LeO (skew_alike.l0 k y0 y1 y2 y3) (skew_alike.l0 (k + 1) y0 y1 y2 y3))
  | 0 => fun _ _ _ _ r h => by simp [skew_alike.l0] at h
  | k + 1 => by
    have ih0 := skew_alike.mono_l k
    · intro y0 y1 y2 y3
      unfold skew_alike.l0
      exact mB
theorem skew_alike.mono : ∀ a0 a1 a2 k, LeO (skew_alike.f k a0 a1 a2) (skew_alike.f (k + 1) a0 a1 a2) := by
  intro a0 a1 a2 k
  have ih0 := skew_alike.mono_l k
  unfold skew_alike.f
  exact mB
set_option maxHeartbeats 8000000 in
set_option maxRecDepth 100000 in
theorem skew_alike.calls (k : Nat) (A0 : Option Addr) (c0 : Nat) (l0 : List Int) (a1 : Int) (a2 : Int) (r : Bool) (w : World) (hr0 : Kd.C (Kd.int .i64) w A0 l0.length l0) (hc0 : l0.length ≤ c0) (h : skew_alike.f k l0 a1 a2 = some r) :
    Calls Try.prog 56 #[.slice A0 l0.length c0, .int .i64 a1, .int .i64 a2] w fun e w' => e = .returned (.bool r) ∧ Drawn0 w w' := by
 have HR0 := Aside0.mk hr0
 have HC0 := Aside0.mk hc0
 clear hr0 hc0
 have H := h
 clear h
 unfold skew_alike.f at H
 have H' := Aside0.mk H
 clear H
 go_enter Try.func56, Try.ntmps56
 go_wp2
 go_loopg [8] k (fun kq v8 w' => ∃ (x8_1 : Int), v8 = .int .i64 x8_1 ∧ Aside0 (skew_alike.l0 kq l0 a1 a2 x8_1 = some r) ∧ Aside0 (kq ≤ k) ∧ Drawn0 w w')
 case atStart => exact ⟨(0), sD, H', ⟨Nat.le_refl _⟩, dD⟩
 case round =>
  clear H'
  try clear p2
  obtain ⟨x8_1, rfl, HA, HK1, ⟨m1, rfl⟩⟩ := hrel
  cases gk with
  | zero => exact absurd HA.out (by simp [skew_alike.l0])
  | succ k1 =>
   have H := HA.out
   clear HA
   simp only [skew_alike.l0] at H
   rcases ifC H with ⟨c4b0, H⟩ | ⟨c4b0, H⟩
   ·obtain ⟨t238, A5, H⟩ := bdS H
    try dsimp only at H
    obtain ⟨t239, A6, H⟩ := bdS H
    try dsimp only at H
    by_cases c7 : t238 = t239
    ·rw [if_pos c7] at H
     have c7b0 : (t238 == t239) = true := beq_iff_eq.mpr c7
     have c7b1 : (t238 != t239) = false := bne_eq_false_iff_eq.mpr c7
     clear c7
     have H' := Aside0.mk H
     clear H
     go_wp2_with (first | ((with_reducible refine gate_callee (f := 57) rfl ?_); refine goesL_ (some 15) rfl rfl Try.func57 (by kernel_rfl) rfl #[.slice A0 l0.length c0, .int .i64 (wrap64 (a1 + x8_1))] rfl aE ?_; (with_reducible refine (skew_key.calls _ _ l0 (wrap64 (a1 + x8_1)) t238 _ ?side1 ?side2 A5.out).mono ?_); (case side1 => exact uC HR0.out); (case side2 => exact HC0.out); rintro e w' ⟨rfl, ⟨nd, rfl⟩⟩; refine ⟨_, rfl, ?_⟩) | ((with_reducible refine gate_callee (f := 57) rfl ?_); refine goesL_ (some 20) rfl rfl Try.func57 (by kernel_rfl) rfl #[.slice A0 l0.length c0, .int .i64 (wrap64 (a2 + x8_1))] rfl aE ?_; (with_reducible refine (skew_key.calls _ _ l0 (wrap64 (a2 + x8_1)) t239 _ ?side1 ?side2 A6.out).mono ?_); (case side1 => exact uC HR0.out); (case side2 => exact HC0.out); rintro e w' ⟨rfl, ⟨nd, rfl⟩⟩; refine ⟨_, rfl, ?_⟩))
     go_roundg k1
     case measure => have := HK1.out; omega
     case rel => exact ⟨(wrap64 (x8_1 + 1)), sD, H', ⟨by have := HK1.out; omega⟩, dD⟩
    ·rw [if_neg c7] at H
     have c7b0 : (t238 == t239) = false := beq_eq_false_iff_ne.mpr c7
     have c7b1 : (t238 != t239) = true := bne_iff_ne.mpr c7
     obtain rfl := Option.some.inj H
     go_wp2_with (first | ((with_reducible refine gate_callee (f := 57) rfl ?_); refine goesL_ (some 15) rfl rfl Try.func57 (by kernel_rfl) rfl #[.slice A0 l0.length c0, .int .i64 (wrap64 (a1 + x8_1))] rfl aE ?_; (with_reducible refine (skew_key.calls _ _ l0 (wrap64 (a1 + x8_1)) t238 _ ?side1 ?side2 A5.out).mono ?_); (case side1 => exact uC HR0.out); (case side2 => exact HC0.out); rintro e w' ⟨rfl, ⟨nd, rfl⟩⟩; refine ⟨_, rfl, ?_⟩) | ((with_reducible refine gate_callee (f := 57) rfl ?_); refine goesL_ (some 20) rfl rfl Try.func57 (by kernel_rfl) rfl #[.slice A0 l0.length c0, .int .i64 (wrap64 (a2 + x8_1))] rfl aE ?_; (with_reducible refine (skew_key.calls _ _ l0 (wrap64 (a2 + x8_1)) t239 _ ?side1 ?side2 A6.out).mono ?_); (case side1 => exact uC HR0.out); (case side2 => exact HC0.out); rintro e w' ⟨rfl, ⟨nd, rfl⟩⟩; refine ⟨_, rfl, ?_⟩))
     go_ret
     exact ⟨sD, dD⟩
   ·obtain rfl := Option.some.inj H
    go_wp2
    go_ret
    exact ⟨sD, dD⟩
end Go.Proofs.Ytbbpplnnegdenaa.PTopThree
end
