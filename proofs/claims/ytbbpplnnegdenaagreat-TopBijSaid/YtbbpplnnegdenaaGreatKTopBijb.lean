/- Words, functions, walks and plain mathematics for TopBij, part 2: laid together by a program of this session (pack.py). -/
import Derived.Test.YtbbpplnnegdenaaGreatKTopBija
import Derived.Shelf.SlIterI.Nil
import Derived.Shelf.SortM.Plain
import Derived.Shelf.SortM.SortNone
import Derived.Shelf.Bits.Mul64
import Derived.Ground.GgzProg
import Derived.Ground.SlgmProg
import Derived.RangeFuncBox
import Derived.RangeFuncLeaves
import Derived.RangeFuncBound
import Derived.RangeFuncCalls
import Derived.Shelf.Abstract
import Derived.OwnWalkIn
import Derived.TacticsInMore
import Derived.LoopNIn
import Derived.LoopIn
import Derived.Laws.CopyOwn
import Derived.Deep.RegionLaw
import Derived.Laws.Externs
import Derived.Shelf.SlSortCmp.QuietGrown
import Derived.Shelf.SlSortCmp.WholeK
import Derived.Ground.SlsfProg
import Derived.Shelf.SlGeneric
set_option linter.unusedVariables false
set_option linter.unusedSimpArgs false
set_option maxHeartbeats 8000000
set_option maxRecDepth 100000
section
namespace Go.Proofs
open Go.Shelf
def Tryz.sort141_ren : Go.Shelf.Ren := ⟨fun | 5 => 141 | 8 => 102 | 7 => 152 | 19 => 118 | 20 => 119 | 10 => 157 | 11 => 158 | 12 => 159 | 13 => 160 | 14 => 161 | 15 => 162 | 16 => 155 | 17 => 163 | 18 => 164 | 30 => 165 | 31 => 136 | 32 => 137 | 33 => 166 | 34 => 167 | 35 => 103 | 40 => 168 | n => n, fun | 23 => 29 | 25 => 3 | 3 => 3 | 32 => 93 | 22 => 29 | 0 => 0 | 44 => 158 | 46 => 85 | 4 => 4 | 36 => 152 | 35 => 151 | 41 => 98 | 5 => 5 | 9 => 9 | 53 => 175 | 57 => 179 | 63 => 187 | 64 => 188 | n => n, fun | n => n⟩
theorem Tryz.sort141 : Go.Proofs.SlLaysM.n5 Tryz.prog Tryz.sort141_ren := {
 mixed := by kernel_rfl
 f5 := ⟨Tryz.f141.name, by decide, Tryz.func141.trans (congrArg some (by kernel_rfl))⟩
 f7 := ⟨Tryz.f152.name, by decide, Tryz.func152.trans (congrArg some (by kernel_rfl))⟩
 f8 := Tryz.func102.trans (congrArg some (by kernel_rfl))
 f10 := ⟨Tryz.f157.name, by decide, Tryz.func157.trans (congrArg some (by kernel_rfl))⟩
 f11 := ⟨Tryz.f158.name, by decide, Tryz.func158.trans (congrArg some (by kernel_rfl))⟩
 f12 := ⟨Tryz.f159.name, by decide, Tryz.func159.trans (congrArg some (by kernel_rfl))⟩
 f13 := ⟨Tryz.f160.name, by decide, Tryz.func160.trans (congrArg some (by kernel_rfl))⟩
 f14 := ⟨Tryz.f161.name, by decide, Tryz.func161.trans (congrArg some (by kernel_rfl))⟩
 f15 := ⟨Tryz.f162.name, by decide, Tryz.func162.trans (congrArg some (by kernel_rfl))⟩
 f16 := ⟨Tryz.f155.name, by decide, Tryz.func155.trans (congrArg some (by kernel_rfl))⟩
 f17 := ⟨Tryz.f163.name, by decide, Tryz.func163.trans (congrArg some (by kernel_rfl))⟩
 f18 := ⟨Tryz.f164.name, by decide, Tryz.func164.trans (congrArg some (by kernel_rfl))⟩
 f19 := Tryz.func118.trans (congrArg some (by kernel_rfl))
 f20 := Tryz.func119.trans (congrArg some (by kernel_rfl))
 f30 := ⟨Tryz.f165.name, by decide, Tryz.func165.trans (congrArg some (by kernel_rfl))⟩
 f31 := Tryz.func136.trans (congrArg some (by kernel_rfl))
 f32 := Tryz.func137.trans (congrArg some (by kernel_rfl))
 f33 := ⟨Tryz.f166.name, by decide, Tryz.func166.trans (congrArg some (by kernel_rfl))⟩
 f34 := ⟨Tryz.f167.name, by decide, Tryz.func167.trans (congrArg some (by kernel_rfl))⟩
 f35 := ⟨Tryz.f103.name, by decide, Tryz.func103.trans (congrArg some (by kernel_rfl))⟩
 f40 := ⟨Tryz.f168.name, by decide, Tryz.func168.trans (congrArg some (by kernel_rfl))⟩
 t0 := Tryz.underlying0
 a0 := Tryz.isAgg0
 z0 := Tryz.sizeOf0
 v0 := Tryz.zeroValue0
 t3 := Tryz.underlying3
 a3 := Tryz.isAgg3
 z3 := Tryz.sizeOf3
 v3 := Tryz.zeroValue3
 t4 := Tryz.underlying4
 a4 := Tryz.isAgg4
 z4 := Tryz.sizeOf4
 v4 := Tryz.zeroValue4
 t5 := Tryz.underlying5
 a5 := Tryz.isAgg5
 z5 := Tryz.sizeOf5
 v5 := Tryz.zeroValue5
 t9 := Tryz.underlying9
 a9 := Tryz.isAgg9
 z9 := Tryz.sizeOf9
 v9 := Tryz.zeroValue9
 t22 := Tryz.underlying29
 a22 := Tryz.isAgg29
 z22 := Tryz.sizeOf29
 v22 := Tryz.zeroValue29
 t23 := Tryz.underlying29
 a23 := Tryz.isAgg29
 z23 := Tryz.sizeOf29
 v23 := Tryz.zeroValue29
 t25 := Tryz.underlying3
 a25 := Tryz.isAgg3
 z25 := Tryz.sizeOf3
 v25 := Tryz.zeroValue3
 t32 := Tryz.underlying93
 a32 := Tryz.isAgg93
 z32 := Tryz.sizeOf93
 v32 := Tryz.zeroValue93
 t35 := Tryz.underlying151
 a35 := Tryz.isAgg151
 z35 := Tryz.sizeOf151
 v35 := Tryz.zeroValue151
 t36 := Tryz.underlying152
 a36 := Tryz.isAgg152
 z36 := Tryz.sizeOf152
 v36 := Tryz.zeroValue152
 t41 := Tryz.underlying98
 a41 := Tryz.isAgg98
 z41 := Tryz.sizeOf98
 v41 := Tryz.zeroValue98
 t44 := Tryz.underlying158
 a44 := Tryz.isAgg158
 z44 := Tryz.sizeOf158
 v44 := Tryz.zeroValue158
 t46 := Tryz.underlying85
 a46 := Tryz.isAgg85
 z46 := Tryz.sizeOf85
 v46 := Tryz.zeroValue85
 t53 := Tryz.underlying175
 a53 := Tryz.isAgg175
 z53 := Tryz.sizeOf175
 v53 := Tryz.zeroValue175
 t57 := Tryz.underlying179
 a57 := Tryz.isAgg179
 z57 := Tryz.sizeOf179
 v57 := Tryz.zeroValue179
 t63 := Tryz.underlying187
 a63 := Tryz.isAgg187
 z63 := Tryz.sizeOf187
 v63 := Tryz.zeroValue187
 t64 := Tryz.underlying188
 a64 := Tryz.isAgg188
 z64 := Tryz.sizeOf188
 v64 := Tryz.zeroValue188 }
def Tryz.lays212_ren : Go.Shelf.Ren := ⟨fun | 212 => 143 | 263 => 153 | 264 => 154 | n => n, fun | 46 => 93 | 51 => 158 | 146 => 192 | 53 => 85 | 148 => 194 | n => n, fun | n => n⟩
theorem Tryz.lays212 : Go.Proofs.Lays.n212 Tryz.prog Tryz.lays212_ren := {
 mixed := by kernel_rfl
 f212 := Tryz.func143.trans (congrArg some (by kernel_rfl))
 f263 := Tryz.func153.trans (congrArg some (by kernel_rfl))
 f264 := Tryz.func154.trans (congrArg some (by kernel_rfl))
 t46 := Tryz.underlying93
 a46 := Tryz.isAgg93
 z46 := Tryz.sizeOf93
 v46 := Tryz.zeroValue93
 t51 := Tryz.underlying158
 a51 := Tryz.isAgg158
 z51 := Tryz.sizeOf158
 v51 := Tryz.zeroValue158
 t53 := Tryz.underlying85
 a53 := Tryz.isAgg85
 z53 := Tryz.sizeOf85
 v53 := Tryz.zeroValue85
 t146 := Tryz.underlying192
 a146 := Tryz.isAgg192
 z146 := Tryz.sizeOf192
 v146 := Tryz.zeroValue192
 t148 := Tryz.underlying194
 a148 := Tryz.isAgg194
 z148 := Tryz.sizeOf194
 v148 := Tryz.zeroValue194 }
open Go.RowKit Go.Lib in
theorem Tryz.bits_Mul (x y : Nat) (hx : x < 18446744073709551616) (hy : y < 18446744073709551616) (w : World) :
  Calls Tryz.prog 143 #[.int .u64 x, .int .u64 y] w fun e w' => e = .returned (.tuple #[.int .u64 ((x * y / 18446744073709551616 : Nat) : Int), .int .u64 ((x * y % 18446744073709551616 : Nat) : Int)]) ∧ w' = w := Any.bits_Mul Tryz.lays212 x y hx hy w
end Go.Proofs
end
section
namespace Go.Proofs.YtbbpplnnegdenaaGreat.It
open Go Go.RowKit Go.Shelf Go.Proofs Go.Sort Go.Maps
attribute [local go_sem] Oper.semAt_some
theorem add_block (a : Addr) (i : Nat) : (a.add i).block = a.block := by unfold Addr.add; split <;> rfl
def upto {α : Type} (f : Nat → α) (k : Nat) : List α := (List.range k).map f
theorem upto_succ {α : Type} (f : Nat → α) (k : Nat) : upto f (k + 1) = upto f k ++ [f k] := by simp [upto, List.range_succ]
theorem upto_length {α : Type} (f : Nat → α) (k : Nat) : (upto f k).length = k := by simp [upto]
theorem upto_all (zs : List Int) : upto (fun j => zs[j]?.getD 0) zs.length = zs := by
 apply List.ext_getElem
 ·simp [upto]
 ·intro i h1 h2
  simp [upto, h2]
theorem upto_take (zs : List Int) {k : Nat} (hk : k ≤ zs.length) : upto (fun j => zs[j]?.getD 0) k = zs.take k := by
 apply List.ext_getElem
 ·simp [upto, hk]
 ·intro i h1 h2
  have : i < zs.length := by simp [upto] at h1; omega
  simp [upto, this]
theorem values1_in (F : Fence) (n : Nat) (h7 : F.fn 142) (hro : F.round = none) (hn : 1 ≤ n) (l Bs n₀ len cap : Nat) (ad : Addr) (zs : List Int) (hreach : len * 8 ≤ 140737488355328) (hb : ad.block < n₀) (J Jx : List Int → World → Prop)
  (hY : ∀ pre x W, J pre W → pre.length < len → YieldAt F (n - 1) Tryz.prog l #[.int .i64 x] W fun e W' =>
   (e = .returned (.bool true) ∧ J (pre ++ [x]) W' ∧ Below n₀ W W') ∨ (e = .returned (.bool false) ∧ Jx (pre ++ [x]) W'))
  (W : World) (hBs : W.cell? ⟨Bs, 0, none⟩ = some (.slice (some ad) len cap)) (hc : ∀ j, j < len → W.cell? (ad.add j) = some (.int .i64 (zs[j]?.getD 0))) (h0 : J [] W) :
  CallsIn F n Tryz.prog 142 #[.func (.yield l) #[] #[], .pointer (some ⟨Bs, 0, none⟩)] W fun e W' => (∃ v, e = .returned v) ∧
   ((∃ ys, ys = upto (fun j => zs[j]?.getD 0) len ∧ J ys W') ∨ (∃ pre, (∃ k, k ≤ len ∧ pre = upto (fun j => zs[j]?.getD 0) k) ∧ Jx pre W')) := by
 refine callsIn_of_wp Tryz.func142 rfl h7 ?_ hro
 simp only [Tryz.ntmps142, List.size_toArray, List.length_cons, List.length_nil, Nat.reduceAdd, Nat.reduceSub, Array.replicate_succ, Array.replicate_zero, List.push_toArray, List.append_toArray, List.nil_append, List.cons_append]
 gi_wp2
 gi_loopw [7] (fun i wr => ∃ k : Nat, k ≤ len ∧ i = .int .i64 k ∧ J (upto (fun j => zs[j]?.getD 0) k) wr ∧ Below n₀ W wr)
  (fun i _ => len - (intOf i).toNat)
 case atStart => exact ⟨0, Nat.zero_le _, rfl, h0, Below.refl _ _⟩
 case round =>
  obtain ⟨k, hk, rfl, hJs, hnx⟩ := hrel
  have hcx : k < len → wr.cell? (ad.add k) = some (.int .i64 (zs[k]?.getD 0)) := fun h => (hnx.cell (p := ad.add k) (by rw [add_block]; exact hb)).trans (hc k h)
  by_cases hlt : k < len
  ·obtain ⟨fn, tmps, assign, body, hy, hR⟩ := hY _ (zs[k]?.getD 0) wr hJs (by rw [upto_length]; exact hlt)
   have hcx' := hcx hlt
   gi_wp2
   refine hR.mono ?_
   rintro e W3 (⟨rfl, hJ3, hk3⟩ | ⟨rfl, hJx3⟩)
   ·gi_wp2
    go_roundw
    case rel => exact ⟨k + 1, by omega, by simp, by rw [upto_succ]; exact hJ3, hnx.trans hk3⟩
    case measure => simp [intOf]; omega
   ·gi_wp2
    refine bodyPost_ret (results_none rfl _ _ _) rfl ?_
    exact ⟨⟨_, rfl⟩, .inr ⟨_, ⟨k + 1, by omega, (upto_succ _ _).symm⟩, hJx3⟩⟩
  ·obtain rfl : k = len := by omega
   gi_wp2
   go_end0
   exact ⟨⟨_, rfl⟩, .inl ⟨_, rfl, hJs⟩⟩
def Ints (n₀ : Nat) (W : World) (sv : Value) (zs : List Int) : Prop :=
 (∃ cap A, sv = .slice A 0 cap ∧ zs = []) ∨ ∃ ad cap, sv = .slice (some ad) zs.length cap ∧ ad.block < n₀ ∧ ∀ j, j < zs.length → W.cell? (ad.add j) = some (.int .i64 (zs[j]?.getD 0))
theorem Ints.below {n₀ : Nat} {A B : World} (h : Below n₀ A B) {sv : Value} {zs : List Int} : Ints n₀ A sv zs → Ints n₀ B sv zs
 | .inl e => .inl e
 | .inr ⟨ad, cap, e, hb, hc⟩ => .inr ⟨ad, cap, e, hb, fun j hj => (h.cell (p := ad.add j) (by rw [add_block]; exact hb)).trans (hc j hj)⟩
theorem values1_nil_in (F : Fence) (n : Nat) (h7 : F.fn 142) (hro : F.round = none) (l Bs cap : Nat) (A : Option Addr) (J : List Int → World → Prop) (W : World) (hBs : W.cell? ⟨Bs, 0, none⟩ = some (.slice A 0 cap)) (h0 : J [] W) :
  CallsIn F n Tryz.prog 142 #[.func (.yield l) #[] #[], .pointer (some ⟨Bs, 0, none⟩)] W fun e W' => (∃ v, e = .returned v) ∧ J [] W' := by
 refine callsIn_of_wp Tryz.func142 rfl h7 ?_ hro
 simp only [Tryz.ntmps142, List.size_toArray, List.length_cons, List.length_nil, Nat.reduceAdd, Nat.reduceSub, Array.replicate_succ, Array.replicate_zero, List.push_toArray, List.append_toArray, List.nil_append, List.cons_append]
 gi_wp2
 gi_loopw [7] (fun i wr => i = .int .i64 0 ∧ J [] wr) (fun _ _ => 0)
 case atStart => exact ⟨rfl, h0⟩
 case round =>
  obtain ⟨rfl, hJs⟩ := hrel
  gi_wp2
  go_end0
  exact ⟨⟨_, rfl⟩, hJs⟩
theorem values_in (F : Fence) (n : Nat) (h5 : F.fn 122) (hro : F.round = none) (a : Option Addr) (len cap : Nat) (w : World) :
  CallsIn F n Tryz.prog 122 #[.slice a len cap] w fun e w' => e = .returned (.func (.func 142) #[] #[.pointer (some ⟨w.heap.size, 0, none⟩)]) ∧ w' = w.alloc (.cells #[.slice a len cap] 29) := by
 refine callsIn_of_wp Tryz.func122 rfl h5 ?_ hro
 simp only [Tryz.ntmps122, List.size_toArray, List.length_cons, List.length_nil, Nat.reduceAdd, Nat.reduceSub, Array.replicate_succ, Array.replicate_zero, List.push_toArray, List.append_toArray, List.nil_append, List.cons_append]
 gi_wp2
 go_ret
 exact ⟨rfl, rfl⟩
theorem values_stops (F : Fence) (n : Nat) (h7 : F.fn 142) (hro : F.round = none) (hn : 1 ≤ n) (Bs n₀ : Nat) (sv : Value) (zs : List Int) (hreach : zs.length * 8 ≤ 140737488355328) (w : World) (hBs : Bs < w.heap.size) (hn₀ : n₀ ≤ w.heap.size)
  (hc : w.cell? ⟨Bs, 0, none⟩ = some sv) (hI : Ints n₀ w sv zs) :
  SeqStopsK F n Tryz.prog 142 #[.pointer (some ⟨Bs, 0, none⟩)] (fun x : Int => #[Value.int .i64 x]) (Below n₀) (fun ys => ys = zs) (fun pre => pre <+: zs) zs.length w := fun l J Jx W hW _ _ hY h0 => by
 have hc' := (hW.cell (p := ⟨Bs, 0, none⟩) hBs).trans hc
 rcases hI.below (hW.mono hn₀) with ⟨cap, A0, rfl, rfl⟩ | ⟨ad, cap, rfl, hb, hcs⟩
 ·exact (values1_nil_in F n h7 hro l Bs cap A0 J W hc' h0).mono fun e W' ⟨he, hj⟩ => ⟨he, .inl ⟨_, rfl, hj⟩⟩
 ·refine (values1_in F n h7 hro hn l Bs n₀ zs.length cap ad zs hreach hb J Jx hY W hc' hcs h0).mono ?_
  rintro e W' ⟨he, ⟨ys, rfl, hj⟩ | ⟨pre, ⟨k, hk, rfl⟩, hj⟩⟩
  ·exact ⟨he, .inl ⟨_, upto_all zs, hj⟩⟩
  ·exact ⟨he, .inr ⟨_, by rw [upto_take zs hk]; exact List.take_prefix _ _, hj⟩⟩
theorem info3 : (Tryz.prog.info? 3).map (fun i => (i.zero, i.size, i.bytes)) = some (some (.int .i64 0), 1, 8) := by kernel_rfl
theorem appendSeq_in (F : Fence) (n : Nat) (h3 : F.fn 151) (h5 : F.fn 142) (hro : F.round = none) (hn : 3 ≤ n) (Bs : Nat) (sv : Value) (zs : List Int) (hlen : zs.length ≤ maxLen) (hbytes : zs.length * 8 ≤ 140737488355328) (w : World)
  (hBs : Bs < w.heap.size) (hcs : w.cell? ⟨Bs, 0, none⟩ = some sv) (hI : Ints w.heap.size w sv zs) :
  CallsIn F n Tryz.prog 151 #[.slice none 0 0, .func (.func 142) #[] #[.pointer (some ⟨Bs, 0, none⟩)]] w fun e W' => ∃ v, e = .returned v ∧ W'.ownsRow w.heap.size 3 1 v zs.length (zs.map (Value.int .i64)) ∧ (v = .slice none 0 0 ↔ zs = []) ∧ Below w.heap.size w W' := by
 have h1 : 1 ≤ n := by omega
 obtain ⟨i0, hi, hz0, hz1, hz2⟩ := info_parts info3
 refine callsIn_of_wp_marks Tryz.func151 rfl h3 ?_ hro
 simp only [Tryz.ntmps151, List.size_toArray, List.length_cons, List.length_nil, Nat.reduceAdd, Nat.reduceSub, Array.replicate_succ, Array.replicate_zero, List.push_toArray, List.append_toArray, List.nil_append, List.cons_append]
 gi_wp2
 have bO := Boxed.new w 29 (.slice none 0 0)
 have hB0 : Below w.heap.size w (w.alloc (.cells #[.slice none 0 0] 29)) := (Below.refl _ w).alloc (Nat.le_refl _) _
 refine wpIn_rangeFunc_ownG hro h1 (gf := 142) (lb := #[.pointer (some ⟨Bs, 0, none⟩)]) rfl h5 (enters_of Tryz.func142 (by kernel_rfl) rfl)
  (values_stops F (n - 1) h5 hro (by omega) Bs w.heap.size sv zs hbytes _ (by simp; omega) (by simp) ((hB0.cell (p := ⟨Bs, 0, none⟩) hBs).trans hcs) (hI.below hB0)) belowK_t (belowK_b (by simp)) (Below.refl _ _) (fun _ => rfl)
  (fun pre W => (∃ v, Boxed W w.heap.size 29 v ∧ W.ownsRow w.heap.size 3 1 v pre.length (pre.map (Value.int .i64)) ∧ (v = .slice none 0 0 ↔ pre = [])) ∧ Below w.heap.size w W)
  (fun _ _ _ => False)
  (OwnFrom.and (Own.from (holdsRow_own w.heap.size w.heap.size 29 3 1 (fun pre => pre.length) (fun pre => pre.map (Value.int .i64)) (fun pre v => v = .slice none 0 0 ↔ pre = [])) _) (ownFrom_below (Nat.le_refl _) (by simp)))
  (fun _ _ _ _ _ hs _ _ => hs)
  ⟨⟨_, bO, World.ownsRow_nil _ _ _ _, by simp⟩, hB0⟩
  (fun x => { tmps := #[.slice none 0 0, .func (.func 142) #[] #[.pointer (some ⟨Bs, 0, none⟩)], .pointer (some ⟨w.heap.size, 0, none⟩), undef, .slice none 0 0, .int .i64 x, .func (.func 142) #[] #[.pointer (some ⟨Bs, 0, none⟩)], .int .i64 x, undef, undef, undef, undef, undef], defers := [] }) ?assign ?body ?done ?stop
 case assign =>
  intro l x W K hK
  gi_wp2
  exact hK
 case body =>
  rintro l pre x W ⟨⟨v, hv, hrow, hnil⟩, hB⟩ hlt
  have hc := hv.cell
  gi_wp2_with (gi_at_builtin; refine wpListIn_append_own _ rfl _ _ 29 rfl w.heap.size 3 i0 (.int .i64 0) 1 8 Tryz.underlying29 hi hz0 hz1 hz2 rfl (by decide) _ _ _ rfl (hrow.alloc _) ⟨W.heap.size, 0, none⟩ 1 1 [.int .i64 x] rfl rfl (cell_one_new _ _ _) (by simp [Value.oneCell']) (by omega) (by omega) (by have := hB.size; simp; omega) ?_; intro v' w1 hown' hgrow _; obtain ⟨g', cap', rfl⟩ := ownsRow_succ hown'; obtain ⟨hv1, hv2, hr2, hk2, hb2⟩ := hv.appended (by decide) hrow hB.size (Nat.le_refl _) hown' hgrow; have hc1 := hv1.cell; have hf1 := hv1.frozen)
  exact ⟨hk2.from _, hb2, ⟨_, hv2, by simpa using hr2, by simp⟩, hB.trans hb2⟩
 case done =>
  rintro D ys W hD rfl ⟨⟨v, hv, hrow, hnil⟩, hB⟩ hK
  have hc := hv.cell
  gi_wp2
  refine ⟨by simp, .inl ⟨_, _, rfl, run_takeDeferred hK, ?_⟩⟩
  exact ⟨_, results_tmp rfl _ _ _, v, rfl, ownsRow_putObj hrow _ hK rfl, hnil, hB.trans (belowK_b (w := w) (Nat.le_refl _) W D _ _ (by simp at hD; omega) hK rfl rfl)⟩
 case stop =>
  rintro D c pre W _ _ h _
  exact h.elim
theorem collect_in (F : Fence) (n : Nat) (h65 : F.fn 140) (h74 : F.fn 151) (h67 : F.fn 142) (hro : F.round = none) (hn : 4 ≤ n) (Bs : Nat) (sv : Value) (zs : List Int) (hlen : zs.length ≤ maxLen) (hbytes : zs.length * 8 ≤ 140737488355328) (w : World)
  (hBs : Bs < w.heap.size) (hcs : w.cell? ⟨Bs, 0, none⟩ = some sv) (hI : Ints w.heap.size w sv zs) :
  CallsIn F n Tryz.prog 140 #[.func (.func 142) #[] #[.pointer (some ⟨Bs, 0, none⟩)]] w fun e W' => ∃ v, e = .returned v ∧ W'.ownsRow w.heap.size 3 1 v zs.length (zs.map (Value.int .i64)) ∧ (v = .slice none 0 0 ↔ zs = []) ∧ Below w.heap.size w W' := by
 have h1 : 1 ≤ n := by omega
 refine callsIn_of_wp Tryz.func140 rfl h65 ?_ hro
 simp only [Tryz.ntmps140, List.size_toArray, List.length_cons, List.length_nil, Nat.reduceAdd, Nat.reduceSub, Array.replicate_succ, Array.replicate_zero, List.push_toArray, List.append_toArray, List.nil_append, List.cons_append]
 gi_wp2_with (gi_at_call 151; refine (appendSeq_in F (n - 1) h74 h67 hro (by omega) Bs sv zs hlen hbytes w hBs hcs hI).mono ?_; rintro e W' ⟨v, rfl, hrow, hnil, hb⟩)
 go_ret
 exact ⟨v, rfl, hrow, hnil, hb⟩
theorem sorted_in (F : Fence) (n : Nat) (h46 : F.fn 121) (h66 : F.fn 141) (h65 : F.fn 140) (h74 : F.fn 151) (h67 : F.fn 142) (hro : F.round = none) (hn : 5 ≤ n) (hw : F = Fence.wide) (Bs : Nat) (sv : Value) (zs : List Int) (hlen : zs.length ≤ maxLen) (hbytes : zs.length * 8 ≤ 140737488355328) (w : World)
  (hBs : Bs < w.heap.size) (hcs : w.cell? ⟨Bs, 0, none⟩ = some sv) (hI : Ints w.heap.size w sv zs) :
  CallsIn F n Tryz.prog 121 #[.func (.func 142) #[] #[.pointer (some ⟨Bs, 0, none⟩)]] w fun e W' => ∃ v, e = .returned v ∧ W'.ownsRow w.heap.size 3 1 v zs.length ((zs.mergeSort (fun x y => decide (x ≤ y))).map (Value.int .i64)) ∧ (v = .slice none 0 0 ↔ zs = []) ∧ Below w.heap.size w W' := by
 subst hw
 have h1 : 1 ≤ n := by omega
 refine callsIn_of_wp Tryz.func121 rfl h46 ?_ hro
 simp only [Tryz.ntmps121, List.size_toArray, List.length_cons, List.length_nil, Nat.reduceAdd, Nat.reduceSub, Array.replicate_succ, Array.replicate_zero, List.push_toArray, List.append_toArray, List.nil_append, List.cons_append]
 gi_wp2_with (gi_at_call 140; refine (collect_in Fence.wide (n - 1) h65 h74 h67 hro (by omega) Bs sv zs hlen hbytes w hBs hcs hI).mono ?_; rintro e W ⟨v, rfl, hrow, hnil, hb⟩)
 rcases hrow.2 with ⟨rfl, hz⟩ | ⟨gb, cap, cur, rfl, hbase, hgb, r1, r2, r3, r4⟩
 ·have hss : zs = [] := List.eq_nil_of_length_eq_zero hz
  subst hss
  gi_wp2_with (gi_at_call 141; refine (callsIn_wide.2 (AnyM.slices_Sort_int_none Tryz.sort141 none 0 W)).mono ?_; rintro e w' ⟨rfl, rfl⟩)
  go_ret
  exact ⟨.slice none 0 0, rfl, by simpa using hrow, by simp, hb⟩
 ·have hH : Holds encZ W gb 0 zs.toArray := holds_of_block_i hgb (by simpa using r4)
  have hgl : gb < W.heap.size := (Array.getElem?_eq_some_iff.1 hgb).1
  have hsz : zs.length < 4611686018427387904 := by unfold maxLen at hlen; omega
  have cS : CallsIn Fence.wide (n - 1) Tryz.prog 141 #[.slice (some ⟨gb, 0, none⟩) zs.length cap] W _ := callsIn_wide.2 (AnyM.slices_Sort_int Tryz.sort141 gb 0 cap zs W hH hgl hsz)
  gi_wp2_with (gi_at_call 141; refine cS.mono ?_; rintro e w' ⟨rfl, nn, os, rfl⟩)
  go_ret
  exact ⟨_, rfl, ownsRow_sorted_i (by simp) hbase hgb r1 r2 r3, hnil, hb.grown (grownBy_sorted_i _) hb.size (fun j hj => by cases hj; exact hbase)⟩
theorem values_calls (a : Option Addr) (len cap : Nat) (w : World) :
  Calls Tryz.prog 122 #[.slice a len cap] w fun e w' => e = .returned (.func (.func 142) #[] #[.pointer (some ⟨w.heap.size, 0, none⟩)]) ∧ w' = w.alloc (.cells #[.slice a len cap] 29) :=
 (callsIn_wide (n := 6)).1 (values_in Fence.wide 6 trivial rfl a len cap w)
theorem sorted_calls (Bs : Nat) (sv : Value) (zs : List Int) (hlen : zs.length ≤ maxLen) (hbytes : zs.length * 8 ≤ 140737488355328) (w : World) (hBs : Bs < w.heap.size) (hcs : w.cell? ⟨Bs, 0, none⟩ = some sv) (hI : Ints w.heap.size w sv zs) :
  Calls Tryz.prog 121 #[.func (.func 142) #[] #[.pointer (some ⟨Bs, 0, none⟩)]] w fun e W' => ∃ v, e = .returned v ∧ W'.ownsRow w.heap.size 3 1 v zs.length ((zs.mergeSort (fun x y => decide (x ≤ y))).map (Value.int .i64)) ∧ (v = .slice none 0 0 ↔ zs = []) ∧ Below w.heap.size w W' :=
 (callsIn_wide (n := 6)).1 (sorted_in Fence.wide 6 trivial trivial trivial trivial trivial rfl (by omega) rfl Bs sv zs hlen hbytes w hBs hcs hI)
end Go.Proofs.YtbbpplnnegdenaaGreat.It
end
section
namespace Go.Proofs.YtbbpplnnegdenaaGreat.It
open Go Go.RowKit Go.Shelf Go.Proofs Go.Sort Go.Maps
attribute [local go_sem] Oper.semAt_some
def bk (zs : List Int) (k : Nat) : Array Value := #[Value.int .i64 ((zs.length - 1 - k : Nat) : Int), Value.int .i64 (zs[zs.length - 1 - k]?.getD 0)]
def Keep2 (b c : Nat) (W W' : World) : Prop := W'.heap[b]? = W.heap[b]? ∧ W'.heap[c]? = W.heap[c]?
theorem Keep2.refl (b c : Nat) (W : World) : Keep2 b c W W := ⟨rfl, rfl⟩
theorem Keep2.trans {b c : Nat} {A B C : World} (h : Keep2 b c A B) (k : Keep2 b c B C) : Keep2 b c A C := ⟨k.1.trans h.1, k.2.trans h.2⟩
theorem cell_of_heap {W W' : World} {p : Addr} (h : W'.heap[p.block]? = W.heap[p.block]?) : W'.cell? p = W.cell? p := by
 unfold World.cell?; rw [h]
theorem keep2_b {b c : Nat} {w : World} (hb : b < w.heap.size) (hc : c < w.heap.size) (W : World) (l : Nat) (o o' : Obj) (hl : w.heap.size ≤ l) (_ : W.heap[l]? = some o) (_ : o.isCells = false) (_ : o.isWalk = false) : Keep2 b c W (W.putObj l o') :=
 ⟨World.putObj_heap_other (by omega), World.putObj_heap_other (by omega)⟩
theorem backward1_in (F : Fence) (n : Nat) (h7 : F.fn 74) (hro : F.round = none) (hn : 1 ≤ n) (l Bs cap : Nat) (ad : Addr) (zs : List Int) (hreach : zs.length * 8 ≤ 140737488355328) (J : Nat → World → Prop)
  (hY : ∀ k W, k < zs.length → J k W → YieldAt F (n - 1) Tryz.prog l (bk zs k) W fun e W' => e = .returned (.bool true) ∧ J (k + 1) W' ∧ Keep2 ad.block Bs W W')
  (W : World) (hBs0 : W.cell? ⟨Bs, 0, none⟩ = some (.slice (some ad) zs.length cap)) (hc : ∀ j, j < zs.length → W.cell? (ad.add j) = some (.int .i64 (zs[j]?.getD 0))) (h0 : J 0 W) :
  CallsIn F n Tryz.prog 74 #[.func (.yield l) #[] #[], .pointer (some ⟨Bs, 0, none⟩)] W fun e W' => (∃ v, e = .returned v) ∧ J zs.length W' := by
 have hBs : ∀ W', Keep2 ad.block Bs W W' → W'.cell? ⟨Bs, 0, none⟩ = some (.slice (some ad) zs.length cap) := fun W' h => (cell_of_heap (p := ⟨Bs, 0, none⟩) h.2).trans hBs0
 refine callsIn_of_wp Tryz.func74 rfl h7 ?_ hro
 simp only [Tryz.ntmps74, List.size_toArray, List.length_cons, List.length_nil, Nat.reduceAdd, Nat.reduceSub, Array.replicate_succ, Array.replicate_zero, List.push_toArray, List.append_toArray, List.nil_append, List.cons_append]
 gi_wp2
 gi_loopw [3] (fun i wr => ∃ k : Nat, k ≤ zs.length ∧ i = .int .i64 ((zs.length : Int) - 1 - (k : Int)) ∧ J k wr ∧ Keep2 ad.block Bs W wr)
  (fun i _ => (intOf i + 1).toNat)
 case atStart => exact ⟨0, Nat.zero_le _, by simp, h0, Keep2.refl _ _ _⟩
 case round =>
  obtain ⟨k, hk, rfl, hJs, hnx⟩ := hrel
  have hBx := hBs wr hnx
  by_cases hlt : k < zs.length
  ·have hcx : wr.cell? (ad.add (zs.length - 1 - k)) = some (.int .i64 (zs[zs.length - 1 - k]?.getD 0)) := (cell_of_heap (p := ad.add (zs.length - 1 - k)) (by rw [add_block]; exact hnx.1)).trans (hc _ (by omega))
   obtain ⟨fn, tmps, assign, body, hy, hR⟩ := hY k wr hlt hJs
   dsimp only [bk] at hy
   obtain ⟨m, hm⟩ : ∃ m : Nat, zs.length - 1 - k = m := ⟨_, rfl⟩
   have hme : (zs.length : Int) - 1 - (k : Int) = (m : Int) := by omega
   have hml : m < zs.length := by omega
   rw [hm] at hcx hy
   obtain ⟨z, hz⟩ : ∃ z : Int, zs[m]?.getD 0 = z := ⟨_, rfl⟩
   rw [hz] at hcx hy
   have hK := Go.Lib.hid hm
   have hZ := Go.Lib.hid hz
   clear hm hz
   rw [hme]
   gi_wp2
   refine hR.mono ?_
   rintro e W3 ⟨rfl, hJ3, hk3⟩
   have hBx3 := hBs W3 (hnx.trans hk3)
   gi_wp2
   go_roundw
   case rel => exact ⟨k + 1, by omega, by simp; omega, hJ3, hnx.trans hk3⟩
   case measure => simp [intOf] <;> omega
  ·obtain rfl : k = zs.length := by omega
   have hz : (zs.length : Int) - 1 - (zs.length : Int) = -1 := by omega
   rw [hz]
   gi_wp2
   go_end0
   exact ⟨⟨_, rfl⟩, hJs⟩
theorem backward1_nil_in (F : Fence) (n : Nat) (h7 : F.fn 74) (hro : F.round = none) (l Bs cap : Nat) (A : Option Addr) (J : Nat → World → Prop) (W : World) (hBs : W.cell? ⟨Bs, 0, none⟩ = some (.slice A 0 cap)) (h0 : J 0 W) :
  CallsIn F n Tryz.prog 74 #[.func (.yield l) #[] #[], .pointer (some ⟨Bs, 0, none⟩)] W fun e W' => (∃ v, e = .returned v) ∧ J 0 W' := by
 refine callsIn_of_wp Tryz.func74 rfl h7 ?_ hro
 simp only [Tryz.ntmps74, List.size_toArray, List.length_cons, List.length_nil, Nat.reduceAdd, Nat.reduceSub, Array.replicate_succ, Array.replicate_zero, List.push_toArray, List.append_toArray, List.nil_append, List.cons_append]
 gi_wp2
 gi_loopw [3] (fun i wr => i = .int .i64 (-1) ∧ J 0 wr) (fun _ _ => 0)
 case atStart => exact ⟨rfl, h0⟩
 case round =>
  obtain ⟨rfl, hJs⟩ := hrel
  gi_wp2
  go_end0
  exact ⟨⟨_, rfl⟩, hJs⟩
theorem backward_in (F : Fence) (n : Nat) (h5 : F.fn 44) (hro : F.round = none) (a : Option Addr) (len cap : Nat) (w : World) :
  CallsIn F n Tryz.prog 44 #[.slice a len cap] w fun e w' => e = .returned (.func (.func 74) #[] #[.pointer (some ⟨w.heap.size, 0, none⟩)]) ∧ w' = w.alloc (.cells #[.slice a len cap] 29) := by
 refine callsIn_of_wp Tryz.func44 rfl h5 ?_ hro
 simp only [Tryz.ntmps44, List.size_toArray, List.length_cons, List.length_nil, Nat.reduceAdd, Nat.reduceSub, Array.replicate_succ, Array.replicate_zero, List.push_toArray, List.append_toArray, List.nil_append, List.cons_append]
 gi_wp2
 go_ret
 exact ⟨rfl, rfl⟩
theorem backward_gives (F : Fence) (n : Nat) (h7 : F.fn 74) (hro : F.round = none) (hn : 1 ≤ n) (Bs cap : Nat) (ad : Addr) (zs : List Int) (hreach : zs.length * 8 ≤ 140737488355328) (w : World) (hBs : Bs < w.heap.size) (hb : ad.block < w.heap.size)
  (hc : w.cell? ⟨Bs, 0, none⟩ = some (.slice (some ad) zs.length cap)) (hI : ∀ j, j < zs.length → w.cell? (ad.add j) = some (.int .i64 (zs[j]?.getD 0))) :
  Rg.Gives F n Tryz.prog 74 #[.pointer (some ⟨Bs, 0, none⟩)] (bk zs) zs.length (Keep2 ad.block Bs) w := fun l J W hW hY h0 => by
 have hc' := (hW.cell (p := ⟨Bs, 0, none⟩) hBs).trans hc
 exact backward1_in F n h7 hro hn l Bs cap ad zs hreach J hY W hc' (fun j hj => (hW.cell (p := ad.add j) (by rw [add_block]; exact hb)).trans (hI j hj)) h0
theorem backward_gives_nil (F : Fence) (n : Nat) (h7 : F.fn 74) (hro : F.round = none) (Bs cap : Nat) (Kp : World → World → Prop) (A : Option Addr) (w : World) (hBs : Bs < w.heap.size)
  (hc : w.cell? ⟨Bs, 0, none⟩ = some (.slice A 0 cap)) :
  Rg.Gives F n Tryz.prog 74 #[.pointer (some ⟨Bs, 0, none⟩)] (bk []) 0 Kp w := fun l J W hW _ h0 =>
 backward1_nil_in F n h7 hro l Bs cap A J W ((hW.cell (p := ⟨Bs, 0, none⟩) hBs).trans hc) h0
end Go.Proofs.YtbbpplnnegdenaaGreat.It
end
section
namespace Go.Proofs.YtbbpplnnegdenaaGreat.Re
open Go Go.RowKit Go.Proofs Go.Proofs.YtbbpplnnegdenaaGreatW.PrintWords
def fill (v : Int) (m n : Nat) : List Value := List.replicate m (Value.int .i64 v) ++ List.replicate (n - m) (Value.int .i64 0)
theorem info3 : (Tryz.prog.info? 3).map (fun i => (i.zero, i.size, i.bytes)) = some (some (.int .i64 0), 1, 8) := by kernel_rfl
theorem made (W : World) (n : Nat) (hn : n ≤ 17592186044416) : ∃ W1, (Instr.makeSlice 29 (.int .i64 n) (.int .i64 n)).run Tryz.prog W = .ok (.slice (some ⟨W.heap.size, 0, none⟩) n n) W1 ∧
  W1.heap[W.heap.size]? = some (.cells (fill 0 0 n).toArray 3 (0, 0)) ∧ Below W.heap.size W W1 := by
 obtain ⟨i0, hi, hz0, hz1, hz2⟩ := info_parts info3
 have hr := run_make (P := Tryz.prog) W 29 3 i0 (.int .i64 0) Tryz.underlying29 hi hz0 .i64 .i64 n n (by omega) (by omega) (by rw [hz2]; omega) (by omega)
 refine ⟨_, hr, ?_, (Below.refl _ _).alloc (Nat.le_refl _) _⟩
 rw [hz1, Int.toNat_natCast, Nat.mul_one]
 have e : madeCells (Value.int .i64 0).cells n = (fill 0 0 n).toArray := by
  apply Array.ext
  ·simp [madeCells, fill]
  ·intro j h1 h2
   simp [madeCells, fill, Value.cells, Nat.mod_one]
 rw [e]
 exact heap_alloc_new W _
theorem fill_length (v : Int) (m n : Nat) (h : m ≤ n) : (fill v m n).length = n := by simp [fill]; omega
theorem fill_splice (v : Int) (m k n : Nat) (h : m + k ≤ n) : splice (fill v m n) m (List.replicate k (Value.int .i64 v)) = fill v (m + k) n := by
 unfold splice fill
 rw [List.take_append_of_le_length (by simp), List.take_of_length_le (by simp), List.drop_append, List.drop_of_length_le (by simp), List.length_replicate, List.length_replicate, List.nil_append, List.drop_replicate, ← List.append_assoc, List.replicate_append_replicate]
 congr 2; omega
theorem fill_start (v : Int) (n : Nat) (h : 1 ≤ n) : splice (fill 0 0 n) 0 [Value.int .i64 v] = fill v 1 n := by
 unfold splice fill
 simp
theorem R_fill {W : World} {base g n : Nat} {v : Int} (h : W.heap[g]? = some (.cells (fill v n n).toArray 3 (0, 0))) (hb : base ≤ g) (hn : n ≤ maxLen) : Kd.R (Kd.int .i64) 3 W base (fun _ => True) (.slice (some ⟨g, 0, none⟩) n n) (List.replicate n v) := by
 have hf : fill v n n = List.replicate n (Value.int .i64 v) := by simp [fill]
 rw [hf] at h
 refine Kd.R_of_own (enc := Value.int .i64) (h1 := fun _ => rfl) ⟨by simp [encs], .inr ⟨g, n, _, by rw [List.length_replicate], hb, h, by simp, hn, by simp, by simp [encs]⟩⟩ (fun _ _ => trivial)
theorem repeat_calls (w : World) (b cx n : Nat) (v : Int) (h1 : 1 ≤ n) (hn : n ≤ 17592186044416) (hx : w.cell? ⟨b, 0, none⟩ = some (.int .i64 v)) :
  Calls Tryz.prog 123 #[.slice (some ⟨b, 0, none⟩) 1 cx, .int .i64 n] w fun e w' => ∃ v', e = .returned v' ∧ Kd.R (Kd.int .i64) 3 w' w.heap.size (fun _ => True) v' (List.replicate n v) ∧ Below w.heap.size w w' := by
 have cM := Tryz.bits_Mul 1 n (by omega) (by omega) w
 rw [Nat.one_mul, Nat.div_eq_of_lt (by omega), Nat.mod_eq_of_lt (by omega), show ((1 : Nat) : Int) = 1 from rfl, show ((0 : Nat) : Int) = 0 from rfl] at cM
 obtain ⟨W1, hmk, hrow, hB⟩ := made w n hn
 have hsz : (Tryz.prog.info? 3).map (·.size) = some 1 := by
  obtain ⟨i0, hi, hz0, hz1, hz2⟩ := info_parts info3
  rw [hi]; simp [hz1]
 have hxl : b < w.heap.size := World.block_lt_of_cell? w ⟨b, 0, none⟩ hx
 have hx1 : W1.cell? ⟨b, 0, none⟩ = some (.int .i64 v) := (hB.cell (p := ⟨b, 0, none⟩) hxl).trans hx
 have HX := Go.Lib.hid hx1
 have HR := Go.Lib.hid hrow
 have HB := Aside0.mk hB
 clear hx hx1 hrow hB
 go_enter Tryz.func123, Tryz.ntmps123
 go_wp2_with (fail)
 (with_reducible refine cM.mono ?_)
 rintro e w' ⟨rfl, hw⟩
 subst hw
 clear cM
 have hnl : [Value.int .i64 v].length = Nat.min 1 n := (Nat.min_eq_left h1).symm
 have hfit : 0 + [Value.int .i64 v].length ≤ (fill 0 0 n).length := by rw [fill_length _ _ _ (by omega)]; simp; omega
 have hone : ∀ u ∈ [Value.int .i64 v], u.oneCell' = true := by simp [Value.oneCell']
 have hsrc : ∀ j u, [Value.int .i64 v][j]? = some u → W1.cell? ((⟨b, 0, none⟩ : Addr).add j) = some u := by
  intro j u hj
  cases j with
  | zero =>
    simp only [List.getElem?_cons_zero, Option.some.injEq] at hj
    subst hj
    exact HX.out
  | succ j => simp at hj
 have HNL := Go.Lib.hid hnl
 have HFIT := Go.Lib.hid hfit
 have HONE := Go.Lib.hid hone
 have HSRC := Go.Lib.hid hsrc
 clear hnl hfit hone hsrc
 go_wp2_with (with_reducible refine wpList_copy_splice rfl (.tmp 31) (.tmp 32) 29 29 rfl 3 Tryz.underlying29 hsz (some ⟨w'.heap.size, 0, none⟩) (some ⟨b, 0, none⟩) n n 1 cx rfl rfl w'.heap.size 0 (fill 0 0 n) 3 HR.out [.int .i64 v] HNL.out (fun _ => ⟨rfl, _, rfl, HSRC.out⟩) HFIT.out HONE.out w'.heap.size w' HB.out (Nat.le_refl _) ?_; intro w2 HR2 HB2')
 rw [fill_start v n h1] at HR2
 clear HX HR HB HNL HFIT HONE HSRC hmk
 go_loopw [8] (fun v8 wr => ∃ m : Nat, v8 = .int .i64 m ∧ Aside0 (1 ≤ m ∧ m ≤ n) ∧ Hid (wr.heap[w'.heap.size]? = some (.cells (fill v m n).toArray 3 (0, 0))) ∧ Aside0 (Below w'.heap.size w' wr))
  (fun v8 _ => n - (intOf v8).toNat)
 case atStart => exact ⟨1, rfl, ⟨⟨Nat.le_refl _, h1⟩⟩, HR2, ⟨HB2'⟩⟩
 case round =>
  obtain ⟨m, rfl, hm, hrow, hB⟩ := hrel
  have hm1 := hm.out.1
  have hm2 := hm.out.2
  by_cases hlt : m < n
  ·obtain ⟨k, hk⟩ : ∃ k, k = Nat.min m (n - m) := ⟨_, rfl⟩
   have hk1 : 1 ≤ k := by rw [hk]; exact Nat.le_min.2 ⟨hm1, by omega⟩
   have hk2 : k ≤ m := by rw [hk]; exact Nat.min_le_left _ _
   have hk3 : m + k ≤ n := by have : k ≤ n - m := by rw [hk]; exact Nat.min_le_right _ _
                              omega
   have HNL := Go.Lib.hid (show (List.replicate k (Value.int .i64 v)).length = Nat.min m (n - m) by rw [List.length_replicate, hk])
   have HFIT := Go.Lib.hid (show m + (List.replicate k (Value.int .i64 v)).length ≤ (fill v m n).length by rw [fill_length _ _ _ hm2, List.length_replicate]; exact hk3)
   have HONE := Go.Lib.hid (show ∀ u ∈ List.replicate k (Value.int .i64 v), u.oneCell' = true by intro u hu; rw [List.eq_of_mem_replicate hu]; rfl)
   have HSRC := Go.Lib.hid (show ∀ j u, (List.replicate k (Value.int .i64 v))[j]? = some u → wr.cell? ((⟨w'.heap.size, 0, none⟩ : Addr).add j) = some u by
    intro j u hj
    have hjk : j < k := by have := (List.getElem?_eq_some_iff.1 hj).1; simpa using this
    rw [List.getElem?_replicate, if_pos hjk] at hj
    cases hj
    have := blk_cell hrow.out j
    rw [show ((⟨w'.heap.size, 0, none⟩ : Addr).add j) = ⟨w'.heap.size, j, none⟩ by unfold Addr.add; simp; omega, this]
    simp only [fill, List.getElem?_toArray]
    rw [List.getElem?_append_left (by rw [List.length_replicate]; omega), List.getElem?_replicate, if_pos (by omega)])
   have HK := Go.Lib.hid hk
   clear hk
   obtain ⟨W5, hcp, hrow5, hB5⟩ : ∃ W5, Sem.run Tryz.prog (Builtin.copy_ #[29, 29] 3 #[.slice (some ⟨w'.heap.size, m, none⟩) (n - m) (n - m), .slice (some ⟨w'.heap.size, 0, none⟩) m n]) wr.drew = .ok (.int .i64 (k : Int)) W5 ∧
     W5.heap[w'.heap.size]? = some (.cells (fill v (m + k) n).toArray 3 (0, 0)) ∧ Below w'.heap.size w' W5 := by
    have hg : wr.drew.heap[w'.heap.size]? = some (.cells (fill v m n).toArray 3 (0, 0)) := hrow.out
    have hr := run_copy_row (P := Tryz.prog) wr.drew 29 29 3 3 w'.heap.size m (n - m) (n - m) ⟨w'.heap.size, 0, none⟩ m n (fill v m n).toArray 3 (List.replicate k (.int .i64 v)) Tryz.underlying29 hsz hg HNL.out HSRC.out (by simpa using HFIT.out) HONE.out
    refine ⟨_, by simpa [goInt] using hr, ?_, below_setRow (below_drew1 hB.out) (Nat.le_refl _) _⟩
    rw [setRow_heap wr.drew w'.heap.size _ _ 3 _ hg, ← fill_splice v m k n hk3]
    simp [splice]
   have HR5 := Go.Lib.hid hrow5
   have HB5 := Aside0.mk hB5
   clear hrow5 hB5 HNL HFIT HONE HSRC hrow
   go_wp2_with (fail)
   go_region
   go_wp2
   go_roundw
   case rel => exact ⟨m + k, by go_num, ⟨by omega⟩, HR5, HB5⟩
   case measure => simp [intOf]; omega
  ·have hmn : m = n := by omega
   subst hmn
   go_wp2
   go_ret
   exact ⟨_, rfl, R_fill hrow.out (Nat.le_refl _) (by unfold maxLen; omega), hB.out⟩
end Go.Proofs.YtbbpplnnegdenaaGreat.Re
end
section
namespace Go.Proofs.YtbbpplnnegdenaaGreat.St
open Go Go.RowKit Go.Shelf Go.Proofs Go.Proofs.YtbbpplnnegdenaaGreatW.PrintWords Go.Proofs.YtbbpplnnegdenaaGreat.So Go.Proofs.YtbbpplnnegdenaaGreat.It
attribute [local go_sem] Oper.semAt_some
def lastAll (s : List Int) : List Int → List Int → List Int → Option (List Int × List Int)
 | [], en, row => some (en, row)
 | j :: js, en, row => (lastF s en row j).bind fun x => lastAll s js x.1 x.2
theorem lastAll_snoc (s : List Int) (j : Int) : ∀ (js en row), lastAll s (js ++ [j]) en row = (lastAll s js en row).bind fun x => lastF s x.1 x.2 j
 | [], en, row => by
   simp only [List.nil_append, lastAll, Option.bind_some]
   cases lastF s en row j <;> rfl
 | i :: js, en, row => by
   simp only [List.cons_append, lastAll]
   cases lastF s en row i with
   | none => rfl
   | some x => simp only [Option.bind_some]; exact lastAll_snoc s j js x.1 x.2
theorem lastAll_app (s : List Int) (ks : List Int) : ∀ (js en row), lastAll s (js ++ ks) en row = (lastAll s js en row).bind fun x => lastAll s ks x.1 x.2
 | [], en, row => rfl
 | i :: js, en, row => by
   simp only [List.cons_append, lastAll]
   cases lastF s en row i with
   | none => rfl
   | some x => simp only [Option.bind_some]; exact lastAll_app s ks js x.1 x.2
theorem lastAll_step {s l en0 row0 en row : List Int} {k : Nat} {X : List Int × List Int} (hk : k < l.length) (h : lastAll s l en0 row0 = some X) (h1 : lastAll s (l.take k) en0 row0 = some (en, row)) :
  ∃ y, lastF s en row (l[k]?.getD 0) = some y ∧ lastAll s (l.take (k + 1)) en0 row0 = some y := by
 have e1 : l.take (k + 1) = l.take k ++ [l[k]?.getD 0] := by
  rw [List.take_add_one, List.getElem?_eq_getElem hk]; rfl
 have e2 : l = l.take (k + 1) ++ l.drop (k + 1) := (List.take_append_drop _ _).symm
 rw [e2, lastAll_app, e1, lastAll_snoc, h1, Option.bind_some] at h
 rw [e1, lastAll_snoc, h1, Option.bind_some]
 dsimp only at h ⊢
 cases hz : lastF s en row (l[k]?.getD 0) with
 | none => rw [hz] at h; simp at h
 | some y => exact ⟨y, rfl, rfl⟩
theorem range_back {F : Fence} {n : Nat} {P : Program} {w : World} {g : Operand} {ps : Array Tmp} {assign body : Code} {Q : Exit → Act → World → Prop} {a : Act}
  (hro : F.round = none) (h1 : 1 ≤ n) {gf : Nat} {lb : Array Value} (hg : a.eval g = .func (.func gf) #[] lb) (hFg : F.fn gf) (eg : ∀ args w, (callFunc gf args).run P w = .ok (.enter gf args) w)
  (zs : List Int) {Kp : World → World → Prop} (hps : ps.size = 2)
  (hKt : ∀ {A B C : World}, Kp A B → Kp B C → Kp A C) (hKb : ∀ (W : World) (l : Nat) (o o' : Obj), w.heap.size ≤ l → W.heap[l]? = some o → o.isCells = false → o.isWalk = false → Kp W (W.putObj l o'))
  (I : Nat → World → Prop) (hIa : ∀ W o, I 0 W → I 0 (W.alloc o)) (hIp : ∀ k W l o o', I k W → w.heap.size ≤ l → W.heap[l]? = some o → o.isCells = false → I k (W.putObj l o')) (h0 : I 0 w)
  (hseq : Rg.Gives F (n - 1) P gf lb (bk zs) zs.length Kp w)
  (hassign : ∀ (l k : Nat) (W : World) (K : Act → World → Prop), K { tmps := ((a.tmps.setIfInBounds 51 (.int .i64 ((zs.length - 1 - k : Nat) : Int))).setIfInBounds 52 (.int .i64 (zs[zs.length - 1 - k]?.getD 0))).setIfInBounds 14 (.int .i64 (zs[zs.length - 1 - k]?.getD 0)), defers := [] } W →
   assign.wpIn (F.inRound l) (n - 1 - 1) P (Exit.then K (fun _ _ _ => False)) { tmps := (ps.zip (bk zs k)).foldl (fun t (p, v) => t.setIfInBounds p v) a.tmps, defers := [] } W)
  (hbody : ∀ (l k : Nat) (W : World), k < zs.length → I k W → body.wpIn (F.inRound l) (n - 1 - 1) P (fun e _ W' => e = .normal ∧ KeepsFrom w.heap.size W W' ∧ Kp W W' ∧ I (k + 1) W')
   { tmps := ((a.tmps.setIfInBounds 51 (.int .i64 ((zs.length - 1 - k : Nat) : Int))).setIfInBounds 52 (.int .i64 (zs[zs.length - 1 - k]?.getD 0))).setIfInBounds 14 (.int .i64 (zs[zs.length - 1 - k]?.getD 0)), defers := [] } W)
  (hdone : ∀ (D : Nat) (W : World), w.heap.size ≤ D → I zs.length W → W.heap[D]? = some (.deferred (some [])) → Q .normal { a with defers := { target := .collected D, args := #[] } :: a.defers } W) :
  (Code.rangeFunc g ps assign body).wpIn F n P Q a w :=
 Rg.range_upto (Kp := Kp) hro h1 hg hFg eg (fun k => by rw [hps]; rfl) hKt hKb I hIa hIp h0 hseq (fun k => { tmps := ((a.tmps.setIfInBounds 51 (.int .i64 ((zs.length - 1 - k : Nat) : Int))).setIfInBounds 52 (.int .i64 (zs[zs.length - 1 - k]?.getD 0))).setIfInBounds 14 (.int .i64 (zs[zs.length - 1 - k]?.getD 0)), defers := [] }) hassign hbody hdone
structure LI (W8 : World) (B0 br be bz cr ce b1 b2 : Nat) (en row : List Int) (W : World) : Prop where
 gr : W8.grownBy W (some br)
 b0 : B0 ≤ W.heap.size
 z : W.heap[bz]? = some (.cells #[.slice (some ⟨be, 0, none⟩) en.length ce] 29 (0, 0))
 rr : Kd.R (Kd.int .i64) 3 W b1 (fun k => k < B0 ∧ k ≠ be) (.slice (some ⟨br, 0, none⟩) row.length cr) row
 re : Kd.R (Kd.int .i64) 3 W b2 (fun k => k < B0 ∧ k ≠ br) (.slice (some ⟨be, 0, none⟩) en.length ce) en
theorem LI.alloc {W8 W : World} {B0 br be bz cr ce b1 b2 : Nat} {en row : List Int} (h : LI W8 B0 br be bz cr ce b1 b2 en row W) (o : Obj) : LI W8 B0 br be bz cr ce b1 b2 en row (W.alloc o) :=
 ⟨grown_trans h.gr (World.grownBy_alloc W o none) (fun b e => by cases e), by simp; have := h.b0; omega, (Below.heap_alloc _ _ _ (blk_lt h.z)).trans h.z, Kd.R_alloc h.rr o, Kd.R_alloc h.re o⟩
theorem LI.putObj {W8 W : World} {B0 br be bz cr ce b1 b2 : Nat} {en row : List Int} (h : LI W8 B0 br be bz cr ce b1 b2 en row W) (h8 : W8.heap.size ≤ B0) (hz : bz < B0) (l : Nat) (o : Obj) (hl : B0 ≤ l) : LI W8 B0 br be bz cr ce b1 b2 en row (W.putObj l o) :=
 ⟨grown_trans h.gr (grownBy_putObj' W l o) (fun b e => .inl (by cases e; omega)), by simp; exact h.b0, (World.putObj_heap_other (by omega)).trans h.z,
  Kd.R_step h.rr (fun k hk _ => World.putObj_heap_other (by omega)), Kd.R_step h.re (fun k hk _ => World.putObj_heap_other (by omega))⟩
theorem LI.last {W8 W : World} {g B0 br be bz cr ce b1 b2 bf Bs : Nat} {As Am Ac : Option Addr} {cs cm cc : Nat} {s : List Int} {sm : List Bool} {co en row en' row' : List Int} {j : Int}
  (hS : Sr W8 g br As Am Ac cs cm cc cr s sm co row.length) (h : LI W8 B0 br be bz cr ce b1 b2 en row W) (h8 : W8.heap.size ≤ be) (hz : bz < B0) (hbe : be < B0) (hbr : br < B0) (hzb : bz ≠ be) (hzr : bz ≠ br)
  (hsE : ∀ ad, As = some ad → ad.block ≠ be) (hf1 : bf ≠ be) (hf2 : bf ≠ br) (hB1 : Bs ≠ be) (hB2 : Bs ≠ br) (hbf : bf < B0) (hBs : Bs < B0) (hF : lastF s en row j = some (en', row')) :
  Calls Tryz.prog 125 #[.pointer (some ⟨g, 0, none⟩), .slice (some ⟨be, 0, none⟩) en.length ce, .int .i64 j] W fun e W' => e = .returned (.tuple #[]) ∧ row'.length = row.length ∧ en'.length = en.length ∧ KeepsFrom B0 W W' ∧ Keep2 bf Bs W W' ∧ LI W8 B0 br be bz cr ce b1 b2 en' row' W' := by
 have hS1 := hS.move h.gr
 have hge : g ≠ be := fun e => by have := blk_lt hS.G; omega
 refine (last_kd hS1 h.rr h.re hge hsE (fun k hk => hk.2) (fun k hk => hk.2) hF).mono ?_
 rintro e W' ⟨rfl, r1, r2, hl1, hl2, W1, g1, g2⟩
 have hb0 := h.b0
 have s1 := g1.size
 have s2 := g2.size
 have hblk : ∀ k, k < W.heap.size → k ≠ be → k ≠ br → W'.heap[k]? = W.heap[k]? := fun k hk n1 n2 =>
  (g2.block k (by omega) (fun e => n2 (by cases e; rfl))).trans (g1.block k hk (fun e => n1 (by cases e; rfl)))
 refine ⟨rfl, hl1, hl2, ⟨by omega, fun k o hk ho hc => (hblk k (Array.getElem?_eq_some_iff.1 ho).1 (by omega) (by omega)).trans ho⟩, ⟨hblk _ (by omega) hf1 hf2, hblk _ (by omega) hB1 hB2⟩, ?_⟩
 refine ⟨grown_trans (grown_trans h.gr g1 (fun b e => .inl (by cases e; exact h8))) g2 (fun b e => .inr (by rw [e])), by omega, ?_, r1, r2⟩
 rw [hl2]
 exact (hblk _ (by omega) hzb hzr).trans h.z
theorem C_Ints {W : World} {A : Option Addr} {l : List Int} {c B : Nat} (h : Kd.C (Kd.int .i64) W A l.length l) (hB : W.heap.size ≤ B) : Ints B W (.slice A l.length c) l := by
 by_cases h0 : l.length = 0
 ·exact .inl ⟨c, A, by rw [h0], List.length_eq_zero_iff.1 h0⟩
 ·obtain ⟨ad, rfl, h1⟩ := Kd.at_int h 0 (by omega) (by omega)
  refine .inr ⟨ad, c, rfl, Nat.lt_of_lt_of_le (Kd.C_lt h (by omega) (by decide)) hB, fun j hj => ?_⟩
  obtain ⟨ad', he, h2⟩ := Kd.at_int h (j : Int) (by omega) (by omega)
  cases he
  rw [Int.toNat_natCast] at h2
  rw [h2]
  simp [rd]
theorem R_sorted {W : World} {base : Nat} {v : Value} {zs : List Int} (h : W.ownsRow base 3 1 v zs.length ((zs.mergeSort (fun x y => decide (x ≤ y))).map (Value.int .i64))) : Kd.R (Kd.int .i64) 3 W base (fun _ => True) v (zs.mergeSort (fun x y => decide (x ≤ y))) := by
 refine Kd.R_of_own (enc := Value.int .i64) (h1 := fun _ => rfl) ?_ (fun _ _ => trivial)
 rw [List.length_mergeSort]
 have : encs (Value.int .i64) (zs.mergeSort (fun x y => decide (x ≤ y))) = (zs.mergeSort (fun x y => decide (x ≤ y))).map (Value.int .i64) := by simp [encs]
 rw [this]; exact h
theorem sort_main (n : Nat) (hn : 6 ≤ n) {w : World} {As Af : Option Addr} {cs cf : Nat} {s first co fs st en0 row1 row2 row2a row2c row3 en1 st0 ri : List Int} {sm : List Bool} {k : Int}
  (hs : Kd.C (Kd.int .i64) w As s.length s) (hf : Kd.C (Kd.int .i64) w Af first.length first) (hfl : first.length ≤ 1000000) (hs0 : 0 < s.length) (hsl : s.length ≤ 1000000) (hstl : st.length = co.length) (hco : 0 < co.length) (hcol : co.length < 4611686018427387904) (henl : 0 < en0.length) (hen : endsL co co.length 0 st = en0) (hl0 : firstF s st row1 ((s.length : Int) - 1) = some (st0, row2a)) (hla : largeL s sm row1.length 0 st0 row2a = some row2) (hml : sm.length < 4611686018427387904)
  (hcl : clearL sm row2.length 0 row2 = some row2c) (hsm : smallL s sm row2.length en0 row2c = some row3)
  (hall : lastAll s first.reverse en0 (List.replicate s.length (-1)) = some (en1, row1))
  (hCounts : ∀ W, Kd.C (Kd.int .i64) W As s.length s → Calls Tryz.prog 91 #[.slice As s.length cs, .int .i64 k] W fun e W' => ∃ v, e = .returned (.tuple #[v, .bool true]) ∧ Kd.R (Kd.int .i64) 3 W' W.heap.size (fun _ => True) v co ∧ Below W.heap.size W W')
  (hFirst : ∀ W, Kd.C (Kd.int .i64) W As s.length s → Calls Tryz.prog 104 #[.slice As s.length cs] W fun e W' => ∃ v, e = .returned v ∧ Kd.R (Kd.int .i64) 3 W' W.heap.size (fun _ => True) v fs ∧ Below W.heap.size W W')
  (hri : first.mergeSort (fun x y => decide (x ≤ y)) = ri)
  (hEq : ∀ W A B c d, ri.length ≤ c → fs.length ≤ d → Kd.C (Kd.int .i64) W A ri.length ri → Kd.C (Kd.int .i64) W B fs.length fs →
   Calls Tryz.prog 63 #[.slice A ri.length c, .slice B fs.length d] W fun e W' => e = .returned (.bool true) ∧ Drawn0 W W')
  (hSmall : ∀ W, Kd.C (Kd.int .i64) W As s.length s → Calls Tryz.prog 120 #[.slice As s.length cs] W fun e W' => ∃ v, e = .returned v ∧ Kd.R Kd.bool 4 W' W.heap.size (fun _ => True) v sm ∧ Below W.heap.size W W')
  (hStarts : ∀ W A c, co.length ≤ c → Kd.C (Kd.int .i64) W A co.length co → Calls Tryz.prog 93 #[.slice A co.length c] W fun e W' => ∃ v, e = .returned v ∧ Kd.R (Kd.int .i64) 3 W' W.heap.size (fun _ => True) v st ∧ Below W.heap.size W W') :
  CallsIn Fence.wide n Tryz.prog 105 #[.slice As s.length cs, .int .i64 k, .slice Af first.length cf] w fun e w' => ∃ v, e = .returned (.tuple #[v, .bool true]) ∧ Kd.R (Kd.int .i64) 3 w' w.heap.size (fun _ => True) v row3 ∧ Below w.heap.size w w' := by
 have h1 : 1 ≤ n := by omega
 refine callsIn_of_wp_marks Tryz.func105 rfl trivial ?_ rfl
 simp only [Tryz.ntmps105, List.size_toArray, List.length_cons, List.length_nil, Nat.reduceAdd, Nat.reduceSub, Array.replicate_succ, Array.replicate_zero, List.push_toArray, List.append_toArray, List.nil_append, List.cons_append]
 have CS := Aside0.mk (hCounts w hs)
 have HS := Aside0.mk hs
 have HF := Aside0.mk hf
 have HFI := Aside0.mk hFirst
 have HEQ := Aside0.mk hEq
 have HRI := Go.Lib.hid hri
 have HL0 := Go.Lib.hid hl0
 have HLA := Go.Lib.hid hla
 have HCL := Go.Lib.hid hcl
 have HSML := Go.Lib.hid hsm
 have HALL := Go.Lib.hid hall
 have HSL := Go.Lib.hid hstl
 have HEN := Go.Lib.hid hen
 have HSM := Aside0.mk hSmall
 have HST := Aside0.mk hStarts
 clear hri hl0 hla hcl hsm hall hen hstl hs hf hCounts hFirst hEq hSmall hStarts
 gi_wp2_with (fail)
 refine ⟨trivial, (callsIn_wide.2 CS.out).mono ?_⟩
 rintro e w1 ⟨v1, rfl, r1, b1⟩
 obtain ⟨Ac, cc, rfl, hcc, _⟩ := Kd.R_reads r1
 have R1 := Aside0.mk r1
 have HCC := Go.Lib.hid hcc
 clear hcc
 have B1 := Aside0.mk b1
 clear r1 b1
 gi_wp2_with (fail)
 refine ⟨trivial, (callsIn_wide.2 (values_calls _ _ _ _)).mono ?_⟩
 rintro e w2 ⟨rfl, ew2⟩
 have bB2 : Below w1.heap.size w1 w2 := by rw [ew2]; exact (Below.refl _ w1).alloc (Nat.le_refl _) _
 have hc2 : w2.cell? ⟨w1.heap.size, 0, none⟩ = some (.slice Af first.length cf) := by rw [ew2]; exact (Boxed.new w1 29 (.slice Af first.length cf)).cell
 have hs2 : w1.heap.size < w2.heap.size := by rw [ew2]; simp
 clear ew2
 have cI := C_Ints (c := cf) (Kd.C_below HF.out (B1.out.trans (bB2.mono B1.out.size))) (Nat.le_refl _)
 have cS := sorted_calls w1.heap.size (.slice Af first.length cf) first (by have : maxLen = 9223372036854775807 := rfl; omega) (by omega) w2 hs2 hc2 cI
 have B2 := Aside0.mk (B1.out.trans (bB2.mono B1.out.size))
 have BB2 := Aside0.mk bB2
 clear bB2 cI hc2 hs2
 gi_wp2_with (fail)
 refine ⟨trivial, (callsIn_wide.2 cS).mono ?_⟩
 clear cS
 rintro e w3 ⟨v3, rfl, o3, _, b3⟩
 have r3 := R_sorted o3
 rw [HRI.out] at r3
 obtain ⟨A3, c3, rfl, hc3, _⟩ := Kd.R_reads r3
 have R3 := Aside0.mk r3
 have HC3 := Go.Lib.hid hc3
 clear hc3
 have BB3 := Aside0.mk b3
 have B3 := Aside0.mk (B2.out.trans (b3.mono B2.out.size))
 clear r3 b3 o3
 gi_wp2_with (fail)
 have bw3 : Below w.heap.size w w3 := B3.out
 refine ⟨trivial, (callsIn_wide.2 (HFI.out w3 (Kd.C_below HS.out bw3))).mono ?_⟩
 rintro e w4 ⟨v4, rfl, r4, b4⟩
 obtain ⟨A4, c4, rfl, hc4, _⟩ := Kd.R_reads r4
 have R4 := Aside0.mk r4
 have HC4 := Go.Lib.hid hc4
 clear hc4
 have BB4 := Aside0.mk b4
 have B4 := Aside0.mk (B3.out.trans (b4.mono B3.out.size))
 clear r4 b4 bw3
 gi_wp2_with (fail)
 have f3 := Kd.C_below (Kd.F_now (Kd.R_F R3.out)) BB4.out
 have f4 := Kd.F_now (Kd.R_F R4.out)
 have cE := HEQ.out w4 A3 A4 c3 c4 HC3.out HC4.out f3 f4
 clear f3 f4
 refine ⟨trivial, (callsIn_wide.2 cE).mono ?_⟩
 clear cE
 rintro e w5 ⟨rfl, ⟨m5, rfl⟩⟩
 have b5 : Below w4.heap.size w4 (w4.drewN m5) := pw_below_drewN (Below.refl _ _) m5
 have BB5 := Aside0.mk b5
 have B5 := Aside0.mk (B4.out.trans (b5.mono B4.out.size))
 generalize w4.drewN m5 = w5 at *
 clear b5
 gi_wp2_with (fail)
 have cM := HSM.out w5 (Kd.C_below HS.out B5.out)
 refine ⟨trivial, (callsIn_wide.2 cM).mono ?_⟩
 clear cM
 rintro e w6 ⟨v6, rfl, r6, b6⟩
 obtain ⟨A6, c6, rfl⟩ := Kd.R_slice r6
 have R6 := Aside0.mk r6
 have BB6 := Aside0.mk b6
 have B6 := Aside0.mk (B5.out.trans (b6.mono B5.out.size))
 clear r6 b6
 gi_wp2_with (fail)
 have cR := Re.repeat_calls (w6.alloc (.cells #[.int .i64 (-1)] 3)) w6.heap.size 1 s.length (-1) (by omega) (by omega) (Boxed.new w6 3 (.int .i64 (-1))).cell
 refine ⟨trivial, (callsIn_wide.2 cR).mono ?_⟩
 clear cR
 rintro e w7 ⟨v7, rfl, r7, b7⟩
 obtain ⟨br, cr, rfl, hbr, hbr2, _⟩ := Kd.R_form r7 (by rw [List.length_replicate]; omega)
 rw [List.length_replicate] at *
 have bx7 : Below w6.heap.size w6 w7 := ((Below.refl _ w6).alloc (Nat.le_refl _) _).trans (b7.mono (by simp))
 have hbw : w6.heap.size ≤ br := by simp at hbr; omega
 have R7 := Aside0.mk (Kd.R_lower r7 (show w6.heap.size ≤ _ by simp))
 have BB7 := Aside0.mk bx7
 have B7 := Aside0.mk (B6.out.trans (bx7.mono B6.out.size))
 clear r7 b7 bx7
 gi_wp2_with (fail)
 obtain ⟨W8, hW8⟩ : ∃ W8, (w7.alloc (.cells #[.slice As s.length cs, .slice A6 sm.length c6, .slice Ac co.length cc, .slice (some ⟨br, 0, none⟩) s.length cr] 167)).alloc (.cells #[.pointer (some ⟨w7.heap.size, 0, none⟩)] 165) = W8 := ⟨_, rfl⟩
 rw [hW8]
 have hG : W8.heap[w7.heap.size]? = some (.cells #[.slice As s.length cs, .slice A6 sm.length c6, .slice Ac co.length cc, .slice (some ⟨br, 0, none⟩) s.length cr] 167 (0, 0)) := by
  rw [← hW8]; exact (Below.heap_alloc _ _ _ (by simp)).trans (World.alloc_heap_new w7 _)
 have hX : W8.heap[w7.heap.size + 1]? = some (.cells #[.pointer (some ⟨w7.heap.size, 0, none⟩)] 165 (0, 0)) := by
  rw [← hW8]; have := World.alloc_heap_new (w7.alloc (.cells #[.slice As s.length cs, .slice A6 sm.length c6, .slice Ac co.length cc, .slice (some ⟨br, 0, none⟩) s.length cr] 167)) (.cells #[.pointer (some ⟨w7.heap.size, 0, none⟩)] 165); rwa [World.size_alloc] at this
 have bb8 : Below w7.heap.size w7 W8 := by rw [← hW8]; exact (((Below.refl _ w7).alloc (Nat.le_refl _) _).alloc (by simp) _)
 have hs8 : W8.heap.size = w7.heap.size + 2 := by rw [← hW8]; simp
 have hbrw : br < w7.heap.size := Kd.R_lt R7.out br (by simp [Value.ownBlock])
 have l7 := B7.out.size
 have l6 := B6.out.size
 have l1 := B1.out.size
 have l5 := BB6.out.size
 have l61 : w1.heap.size ≤ w6.heap.size := by have := BB2.out.size; have := BB3.out.size; have := BB4.out.size; have := BB5.out.size; omega
 have b17 : Below w1.heap.size w1 w7 := BB2.out.trans ((BB3.out.trans ((BB4.out.trans ((BB5.out.trans ((BB6.out.trans (BB7.out.mono BB6.out.size)).mono BB5.out.size)).mono BB4.out.size)).mono BB3.out.size)).mono BB2.out.size)
 have hS8 : Sr W8 w7.heap.size br As A6 Ac cs c6 cc cr s sm co s.length := by
  refine ⟨hG, by omega, fun ad e => ?_, ?_, ?_, ?_⟩
  ·have : ad.block < w.heap.size := by subst e; exact Kd.C_lt HS.out hs0 (by decide)
   omega
  ·exact Kd.F_mono (Kd.F_below (Kd.F_bound (Kd.F_below (Kd.C_F (Kd.heap_int _) HS.out) B7.out)) bb8) (fun k hk => by have := hk.1; omega)
  ·exact Kd.F_mono (Kd.F_below (Kd.F_below (Kd.F_bound (Kd.R_F R6.out)) BB7.out) bb8) (fun k hk => by have := hk.2; omega)
  ·exact Kd.F_mono (Kd.F_below (Kd.F_below (Kd.F_bound (Kd.R_F R1.out)) b17) bb8) (fun k hk => by have := hk.2; omega)
 have cN := ends_calls hS8 HSL.out hco hcol (fun W h => HST.out W Ac cc HCC.out h)
 refine ⟨trivial, (callsIn_wide.2 cN).mono ?_⟩
 clear cN
 rintro e w9 ⟨v9, rfl, r9, b9⟩
 rw [HEN.out] at r9
 obtain ⟨be, ce, rfl, hbe, hbe2, _⟩ := Kd.R_form r9 (by omega)
 have S8 := Aside0.mk hS8
 have R9 := Aside0.mk r9
 have BB8 := Aside0.mk bb8
 have BB9 := Aside0.mk b9
 have HX := Go.Lib.hid hX
 have hx9 : w9.cell? ⟨w7.heap.size + 1, 0, none⟩ = some (.pointer (some ⟨w7.heap.size, 0, none⟩)) := blk_cell ((b9.block _ (by omega)).trans hX) 0
 clear hG hX hS8 r9 bb8 b9 hW8 b17
 gi_wp2_with (fail)
 refine ⟨trivial, (backward_in Fence.wide (n - 1) trivial rfl Af first.length cf _).mono ?_⟩
 rintro e w11 ⟨rfl, ew11⟩
 rw [World.size_alloc] at *
 have s11 : w11.heap.size = w9.heap.size + 2 := by rw [ew11]; simp
 have z11 : w11.heap[w9.heap.size]? = some (.cells #[.slice (some ⟨be, 0, none⟩) en0.length ce] 29 (0, 0)) := by
  rw [ew11]; exact (Below.heap_alloc _ _ _ (by simp)).trans (World.alloc_heap_new w9 _)
 have c11 : w11.cell? ⟨w9.heap.size + 1, 0, none⟩ = some (.slice Af first.length cf) := by
  have h := World.alloc_heap_new (w9.alloc (.cells #[.slice (some ⟨be, 0, none⟩) en0.length ce] 29)) (.cells #[.slice Af first.length cf] 29)
  rw [World.size_alloc] at h
  rw [ew11]; exact blk_cell h 0
 have bb11 : Below w9.heap.size w9 w11 := by rw [ew11]; exact (((Below.refl _ w9).alloc (Nat.le_refl _) _).alloc (by simp) _)
 clear ew11
 have BB11 := Aside0.mk bb11
 clear bb11
 gi_wp2_with (fail)
 have l8 : W8.heap.size = w7.heap.size + 2 := hs8
 have l9 := BB9.out.size
 have hgive : ∃ bf, bf ≠ be ∧ bf ≠ br ∧ bf < w11.heap.size ∧ Rg.Gives Fence.wide (n - 1) Tryz.prog 74 #[.pointer (some ⟨w9.heap.size + 1, 0, none⟩)] (bk first) first.length (Keep2 bf (w9.heap.size + 1)) w11 := by
  have hbw : Below w.heap.size w w11 := B7.out.trans ((BB8.out.trans ((BB9.out.trans (BB11.out.mono BB9.out.size)).mono BB8.out.size)).mono B7.out.size)
  rcases C_Ints (c := cf) (Kd.C_below HF.out hbw) (Nat.le_refl w11.heap.size) with ⟨cap, A, e, rfl⟩ | ⟨ad, cap, e, hb, hc⟩
  ·exact ⟨w7.heap.size, by omega, by omega, by omega, backward_gives_nil Fence.wide (n - 1) trivial rfl _ cf _ Af w11 (by omega) c11⟩
  ·cases e
   have hadw : first.length = 0 ∨ ad.block < w.heap.size := by
    by_cases h0 : first.length = 0
    ·exact .inl h0
    ·exact .inr (Kd.C_lt HF.out (by omega) (by decide))
   rcases hadw with h0 | hadw
   ·obtain rfl : first = [] := List.length_eq_zero_iff.1 h0
    exact ⟨w7.heap.size, by omega, by omega, by omega, backward_gives_nil Fence.wide (n - 1) trivial rfl _ cf _ _ w11 (by omega) c11⟩
   ·exact ⟨ad.block, by omega, by omega, by omega, backward_gives Fence.wide (n - 1) trivial rfl (by omega) _ cf ad first (by omega) w11 (by omega) hb c11 hc⟩
 obtain ⟨bf, hf1, hf2, hf3, hgive⟩ := hgive
 refine range_back (Kp := Keep2 bf (w9.heap.size + 1)) rfl h1 (gf := 74) (lb := #[.pointer (some ⟨w9.heap.size + 1, 0, none⟩)]) rfl trivial (enters_of Tryz.func74 (by kernel_rfl) rfl) first rfl Keep2.trans (keep2_b hf3 (by omega))
  (fun k W => ∃ en row, lastAll s (first.reverse.take k) en0 (List.replicate s.length (-1)) = some (en, row) ∧ en.length = en0.length ∧ row.length = s.length ∧ LI W8 w11.heap.size br be w9.heap.size cr ce w6.heap.size W8.heap.size en row W)
  ?_ ?_ ?_ hgive ?_ ?_ ?_
 ·rintro W o ⟨en, row, h1, h2, h3, h4⟩
  exact ⟨en, row, h1, h2, h3, h4.alloc o⟩
 ·rintro k W l o o' ⟨en, row, h1, h2, h3, h4⟩ hl _ _
  exact ⟨en, row, h1, h2, h3, h4.putObj (by omega) (by omega) l o' hl⟩
 ·refine ⟨en0, List.replicate s.length (-1), rfl, rfl, List.length_replicate .., ?_⟩
  have r7 := Kd.R_below (Kd.R_below (Kd.R_below (Kd.R_bound R7.out) BB8.out) BB9.out) BB11.out
  have r9 := Kd.R_below (Kd.R_bound R9.out) BB11.out
  refine ⟨grown_below (BB9.out.trans (BB11.out.mono BB9.out.size)) _, by omega, z11, ?_, ?_⟩
  ·rw [List.length_replicate]; exact Kd.R_mono r7 (fun k hk => by have := hk.2.2.1; omega)
  ·exact Kd.R_mono r9 (fun k hk => by have := hk.2.1; have := hk.2.2.1; omega)
 ·intro l k W K hK
  dsimp only [bk]
  generalize ((first.length - 1 - k : Nat) : Int) = p at *
  generalize first[first.length - 1 - k]?.getD 0 = x at *
  gi_wp2
  exact hK
 ·rintro l k W hk ⟨en, row, hla, hl1, hl2, hL⟩
  obtain ⟨y, hy1, hy2⟩ := lastAll_step (by rw [List.length_reverse]; exact hk) HALL.out hla
  rw [List.getElem?_reverse hk] at hy1
  have x9 := blk_cell ((hL.gr.block (w7.heap.size + 1) (by omega) (fun e => by cases e; omega)).trans HX.out) 0
  have z9 := blk_cell hL.z 0
  have hS := S8.out
  rw [← hl2] at hS
  have cL := LI.last (bf := bf) (Bs := w9.heap.size + 1) hS hL (by omega) (by omega) (by omega) (by omega) (by omega) (by omega) (fun ad e h => by
   have : ad.block < w.heap.size := by subst e; exact Kd.C_lt HS.out hs0 (by decide)
   omega) hf1 hf2 (by omega) (by omega) hf3 (by omega) hy1
  generalize ((first.length - 1 - k : Nat) : Int) = p at *
  generalize first[first.length - 1 - k]?.getD 0 = x at *
  rw [hl1] at cL z9
  have HY2 := Go.Lib.hid hy2
  have HL1 := Go.Lib.hid hl1
  have HL2 := Go.Lib.hid hl2
  clear hy1 hy2 hla hL hS hl1 hl2
  gi_wp2_with (fail)
  refine ⟨trivial, fun _ => by omega, (CallsIn.inRound l (callsIn_wide.2 cL)).mono ?_⟩
  clear cL
  rintro e W' ⟨rfl, hr1, hr2, hkf, hk2, hL'⟩
  have HKF := Aside0.mk hkf
  have HK2 := Aside0.mk hk2
  have HLI := Aside0.mk hL'
  clear hkf hk2 hL'
  gi_wp2_with (fail)
  have a1 := HKF.out
  have a2 := HLI.out
  rw [s11] at a1 a2
  rw [l8] at a2
  exact ⟨a1, HK2.out, y.1, y.2, HY2.out, hr2, hr1.trans HL2.out, a2⟩
 ·rintro D W hD ⟨en, row, hla, hl1, hl2, hL⟩ hDd
  have hla2 : some (en1, row1) = some (en, row) := by
   rw [← HALL.out, ← hla, List.take_of_length_le (by rw [List.length_reverse]; exact Nat.le_refl _)]
  cases hla2
  have x9 := blk_cell ((hL.gr.block (w7.heap.size + 1) (by omega) (fun e => by cases e; omega)).trans HX.out) 0
  have hS := S8.out.move hL.gr
  rw [← hl2] at hS
  have cL := large_calls hS hL.rr (fun W h => HST.out W Ac cc HCC.out h) HL0.out HLA.out (by omega) (by omega) hml
  gi_wp2_with (fail)
  refine ⟨trivial, (callsIn_wide.2 cL).mono ?_⟩
  clear cL
  rintro e W2 ⟨rfl, r2, hr2, g2⟩
  have G2 := grown_trans hL.gr g2 (fun b e => .inr (by rw [e]))
  have hS2 := S8.out.move G2
  rw [← hl2, ← hr2] at hS2
  have x92 := blk_cell ((G2.block (w7.heap.size + 1) (by omega) (fun e => by cases e; omega)).trans HX.out) 0
  have cM := smalls_calls hS2 r2 henl (fun ad e => by
   have : ad.block < w.heap.size := by subst e; exact Kd.C_lt HS.out hs0 (by decide)
   have := G2.size
   omega) (fun W h => (ends_calls h HSL.out hco hcol (fun W h => HST.out W Ac cc HCC.out h)).mono (fun e W' ⟨v, e1, e2, e3⟩ => ⟨v, e1, by rw [HEN.out] at e2; exact e2, e3⟩)) HCL.out HSML.out (by omega) (by omega) hml
  have R2 := Aside0.mk r2
  have GG2 := Aside0.mk G2
  have hD2 : W2.heap[D]? = some (.deferred (some [])) := (g2.block D (Array.getElem?_eq_some_iff.1 hDd).1 (fun e => by cases e; omega)).trans hDd
  have hDb : D ≠ br := by omega
  clear hS2 r2 g2 G2 hS hL hDd
  gi_wp2_with (fail)
  refine ⟨trivial, (callsIn_wide.2 cM).mono ?_⟩
  clear cM
  rintro e W3 ⟨rfl, r3, hr3, g3⟩
  have G3 := grown_trans GG2.out g3 (fun b e => .inr (by rw [e]))
  have hD3 : W3.heap[D]? = some (.deferred (some [])) := (g3.block D (Array.getElem?_eq_some_iff.1 hD2).1 (fun e => hDb (by cases e; rfl))).trans hD2
  have x93 := blk_cell ((G3.block (w7.heap.size + 1) (by omega) (fun e => by cases e; omega)).trans HX.out) 0
  obtain ⟨_, _, _, q3⟩ := (S8.out.move G3).cells
  rw [← hl2, ← hr2, ← hr3] at q3
  have R3' := Aside0.mk r3
  have BF : Aside0 (Below w.heap.size w W3) := ⟨(B7.out.trans (BB8.out.mono B7.out.size)).grown G3 (by omega) (fun k e => by cases e; omega)⟩
  have HD := Go.Lib.hid hD3
  clear r3 g3 G3 hD2 hD3
  gi_wp2_with (fail)
  have hs3 : row3.length = s.length := by rw [hr3, hr2, hl2]
  refine ⟨by simp, .inl ⟨_, _, rfl, run_takeDeferred HD.out, ?_⟩⟩
  refine ⟨_, results_tmp2 rfl _ _ _, .slice (some ⟨br, 0, none⟩) s.length cr, rfl, ?_, ?_⟩
  ·have r := R3'.out
   rw [hs3] at r
   exact Kd.R_mono (Kd.R_lower (Kd.R_step r (fun k hk _ => World.putObj_heap_other (by have := hk.1; omega))) l6) (fun _ _ => trivial)
  ·exact BF.out.grown (grownBy_putObj' W3 D _) BF.out.size (fun k e => by cases e; omega)
theorem sort_empty (n : Nat) (hn : 6 ≤ n) {w : World} {As Af : Option Addr} {cs cf : Nat} {s first co fs ri : List Int} {k : Int}
  (hs : Kd.C (Kd.int .i64) w As s.length s) (hf : Kd.C (Kd.int .i64) w Af first.length first) (hfl : first.length ≤ 1000000) (hs0 : s.length = 0) (hri : first.mergeSort (fun x y => decide (x ≤ y)) = ri)
  (hCounts : ∀ W, Kd.C (Kd.int .i64) W As s.length s → Calls Tryz.prog 91 #[.slice As s.length cs, .int .i64 k] W fun e W' => ∃ v, e = .returned (.tuple #[v, .bool true]) ∧ Kd.R (Kd.int .i64) 3 W' W.heap.size (fun _ => True) v co ∧ Below W.heap.size W W')
  (hFirst : ∀ W, Kd.C (Kd.int .i64) W As s.length s → Calls Tryz.prog 104 #[.slice As s.length cs] W fun e W' => ∃ v, e = .returned v ∧ Kd.R (Kd.int .i64) 3 W' W.heap.size (fun _ => True) v fs ∧ Below W.heap.size W W')
    (hEq : ∀ W A B c d, ri.length ≤ c → fs.length ≤ d → Kd.C (Kd.int .i64) W A ri.length ri → Kd.C (Kd.int .i64) W B fs.length fs →
   Calls Tryz.prog 63 #[.slice A ri.length c, .slice B fs.length d] W fun e W' => e = .returned (.bool true) ∧ Drawn0 W W') :
  CallsIn Fence.wide n Tryz.prog 105 #[.slice As s.length cs, .int .i64 k, .slice Af first.length cf] w fun e w' => ∃ v, e = .returned (.tuple #[v, .bool true]) ∧ Kd.R (Kd.int .i64) 3 w' w.heap.size (fun _ => True) v [] ∧ Below w.heap.size w w' := by
 have h1 : 1 ≤ n := by omega
 refine callsIn_of_wp_marks Tryz.func105 rfl trivial ?_ rfl
 simp only [Tryz.ntmps105, List.size_toArray, List.length_cons, List.length_nil, Nat.reduceAdd, Nat.reduceSub, Array.replicate_succ, Array.replicate_zero, List.push_toArray, List.append_toArray, List.nil_append, List.cons_append]
 have CS := Aside0.mk (hCounts w hs)
 have HS := Aside0.mk hs
 have HF := Aside0.mk hf
 have HFI := Aside0.mk hFirst
 have HEQ := Aside0.mk hEq
 have HRI := Go.Lib.hid hri
 have HS0 := Go.Lib.hid hs0
 clear hs0 hri hs hf hCounts hFirst hEq
 gi_wp2_with (fail)
 refine ⟨trivial, (callsIn_wide.2 CS.out).mono ?_⟩
 rintro e w1 ⟨v1, rfl, r1, b1⟩
 obtain ⟨Ac, cc, rfl, hcc, _⟩ := Kd.R_reads r1
 have R1 := Aside0.mk r1
 have HCC := Go.Lib.hid hcc
 clear hcc
 have B1 := Aside0.mk b1
 clear r1 b1
 gi_wp2_with (fail)
 refine ⟨trivial, (callsIn_wide.2 (values_calls _ _ _ _)).mono ?_⟩
 rintro e w2 ⟨rfl, ew2⟩
 have bB2 : Below w1.heap.size w1 w2 := by rw [ew2]; exact (Below.refl _ w1).alloc (Nat.le_refl _) _
 have hc2 : w2.cell? ⟨w1.heap.size, 0, none⟩ = some (.slice Af first.length cf) := by rw [ew2]; exact (Boxed.new w1 29 (.slice Af first.length cf)).cell
 have hs2 : w1.heap.size < w2.heap.size := by rw [ew2]; simp
 clear ew2
 have cI := C_Ints (c := cf) (Kd.C_below HF.out (B1.out.trans (bB2.mono B1.out.size))) (Nat.le_refl _)
 have cS := sorted_calls w1.heap.size (.slice Af first.length cf) first (by have : maxLen = 9223372036854775807 := rfl; omega) (by omega) w2 hs2 hc2 cI
 have B2 := Aside0.mk (B1.out.trans (bB2.mono B1.out.size))
 have BB2 := Aside0.mk bB2
 clear bB2 cI hc2 hs2
 gi_wp2_with (fail)
 refine ⟨trivial, (callsIn_wide.2 cS).mono ?_⟩
 clear cS
 rintro e w3 ⟨v3, rfl, o3, _, b3⟩
 have r3 := R_sorted o3
 rw [HRI.out] at r3
 obtain ⟨A3, c3, rfl, hc3, _⟩ := Kd.R_reads r3
 have R3 := Aside0.mk r3
 have HC3 := Go.Lib.hid hc3
 clear hc3
 have BB3 := Aside0.mk b3
 have B3 := Aside0.mk (B2.out.trans (b3.mono B2.out.size))
 clear r3 b3 o3
 gi_wp2_with (fail)
 have bw3 : Below w.heap.size w w3 := B3.out
 refine ⟨trivial, (callsIn_wide.2 (HFI.out w3 (Kd.C_below HS.out bw3))).mono ?_⟩
 rintro e w4 ⟨v4, rfl, r4, b4⟩
 obtain ⟨A4, c4, rfl, hc4, _⟩ := Kd.R_reads r4
 have R4 := Aside0.mk r4
 have HC4 := Go.Lib.hid hc4
 clear hc4
 have BB4 := Aside0.mk b4
 have B4 := Aside0.mk (B3.out.trans (b4.mono B3.out.size))
 clear r4 b4 bw3
 gi_wp2_with (fail)
 have f3 := Kd.C_below (Kd.F_now (Kd.R_F R3.out)) BB4.out
 have f4 := Kd.F_now (Kd.R_F R4.out)
 have cE := HEQ.out w4 A3 A4 c3 c4 HC3.out HC4.out f3 f4
 clear f3 f4
 refine ⟨trivial, (callsIn_wide.2 cE).mono ?_⟩
 clear cE
 rintro e w5 ⟨rfl, ⟨m5, rfl⟩⟩
 have b5 : Below w4.heap.size w4 (w4.drewN m5) := pw_below_drewN (Below.refl _ _) m5
 have BB5 := Aside0.mk b5
 have B5 := Aside0.mk (B4.out.trans (b5.mono B4.out.size))
 generalize w4.drewN m5 = w5 at *
 clear b5
 have hs0 := HS0.out
 gi_wp2_with (fail)
 have l5 := B5.out.size
 have bb5 := B5.out
 refine ⟨_, results_tmp2 rfl _ _ _, .slice (some ⟨w5.heap.size, 0, none⟩) 0 0, rfl, ?_, bb5.alloc (by omega) _⟩
 exact Re.R_fill (v := 0) (n := 0) (g := w5.heap.size) (World.alloc_heap_new w5 _) (by omega) (by decide)
def sortL (s first co : List Int) (sm : List Bool) (st : List Int) : Option (List Int) :=
 (lastAll s first.reverse (endsL co co.length 0 st) (List.replicate s.length (-1))).bind fun x =>
 (firstF s st x.2 ((s.length : Int) - 1)).bind fun y =>
 (largeL s sm x.2.length 0 y.1 y.2).bind fun r =>
 (clearL sm r.length 0 r).bind fun c => smallL s sm r.length (endsL co co.length 0 st) c
theorem sort_calls {w : World} {As Af : Option Addr} {cs cf : Nat} {s first co fs st row3 ri : List Int} {sm : List Bool} {k : Int}
  (hs : Kd.C (Kd.int .i64) w As s.length s) (hf : Kd.C (Kd.int .i64) w Af first.length first) (hfl : first.length ≤ 1000000) (hs0 : 0 < s.length) (hsl : s.length ≤ 1000000) (hstl : st.length = co.length) (hco : 0 < co.length) (hcol : co.length < 4611686018427387904) (hml : sm.length < 4611686018427387904)
  (hall : sortL s first co sm st = some row3) (hri : first.mergeSort (fun x y => decide (x ≤ y)) = ri)
  (hCounts : ∀ W, Kd.C (Kd.int .i64) W As s.length s → Calls Tryz.prog 91 #[.slice As s.length cs, .int .i64 k] W fun e W' => ∃ v, e = .returned (.tuple #[v, .bool true]) ∧ Kd.R (Kd.int .i64) 3 W' W.heap.size (fun _ => True) v co ∧ Below W.heap.size W W')
  (hFirst : ∀ W, Kd.C (Kd.int .i64) W As s.length s → Calls Tryz.prog 104 #[.slice As s.length cs] W fun e W' => ∃ v, e = .returned v ∧ Kd.R (Kd.int .i64) 3 W' W.heap.size (fun _ => True) v fs ∧ Below W.heap.size W W')
  (hEq : ∀ W A B c d, ri.length ≤ c → fs.length ≤ d → Kd.C (Kd.int .i64) W A ri.length ri → Kd.C (Kd.int .i64) W B fs.length fs →
   Calls Tryz.prog 63 #[.slice A ri.length c, .slice B fs.length d] W fun e W' => e = .returned (.bool true) ∧ Drawn0 W W')
  (hSmall : ∀ W, Kd.C (Kd.int .i64) W As s.length s → Calls Tryz.prog 120 #[.slice As s.length cs] W fun e W' => ∃ v, e = .returned v ∧ Kd.R Kd.bool 4 W' W.heap.size (fun _ => True) v sm ∧ Below W.heap.size W W')
  (hStarts : ∀ W A c, co.length ≤ c → Kd.C (Kd.int .i64) W A co.length co → Calls Tryz.prog 93 #[.slice A co.length c] W fun e W' => ∃ v, e = .returned v ∧ Kd.R (Kd.int .i64) 3 W' W.heap.size (fun _ => True) v st ∧ Below W.heap.size W W') :
  Calls Tryz.prog 105 #[.slice As s.length cs, .int .i64 k, .slice Af first.length cf] w fun e w' => ∃ v, e = .returned (.tuple #[v, .bool true]) ∧ Kd.R (Kd.int .i64) 3 w' w.heap.size (fun _ => True) v row3 ∧ Below w.heap.size w w' := by
 unfold sortL at hall
 cases h1 : lastAll s first.reverse (endsL co co.length 0 st) (List.replicate s.length (-1)) with
 | none => rw [h1] at hall; simp at hall
 | some x =>
   rw [h1, Option.bind_some] at hall
   cases h2 : firstF s st x.2 ((s.length : Int) - 1) with
   | none => rw [h2] at hall; simp at hall
   | some y =>
     rw [h2, Option.bind_some] at hall
     cases h3 : largeL s sm x.2.length 0 y.1 y.2 with
     | none => rw [h3] at hall; simp at hall
     | some r =>
       rw [h3, Option.bind_some] at hall
       cases h4 : clearL sm r.length 0 r with
       | none => rw [h4] at hall; simp at hall
       | some c =>
         rw [h4, Option.bind_some] at hall
         exact (callsIn_wide (n := 6)).1 (sort_main 6 (by omega) hs hf hfl hs0 hsl hstl hco hcol (by rw [endsL_length, hstl]; exact hco) rfl h2 h3 hml h4 hall h1 hCounts hFirst hri hEq hSmall hStarts)
end Go.Proofs.YtbbpplnnegdenaaGreat.St
end
section
namespace Go.Proofs.YtbbpplnnegdenaaGreat.Rk
open Go Go.RowKit Go.Shelf Go.Proofs Go.Proofs.YtbbpplnnegdenaaGreatW.PrintWords Go.Proofs.YtbbpplnnegdenaaGreat.So Go.Proofs.YtbbpplnnegdenaaGreat.It Go.Proofs.YtbbpplnnegdenaaGreat.St
def ranksL (F : Int → Option (Int × Bool)) (s : List Int) : Nat → Nat → List Int → Option (List Int)
 | 0, _, l => some l
 | d + 1, i, l => (F (s.getD i 0)).bind fun r => ranksL F s d (i + 1) (l.set i r.1)
theorem ranks_calls {w : World} {As : Option Addr} {cs : Nat} {s od res : List Int} {F : Int → Option (Int × Bool)}
  (hs : Kd.C (Kd.int .i64) w As s.length s) (hsl : s.length ≤ 1000000) (hod : s.mergeSort (fun x y => decide (x ≤ y)) = od)
  (hBS : ∀ W A c x r1 r2, od.length ≤ c → Kd.C (Kd.int .i64) W A od.length od → F x = some (r1, r2) → Calls Tryz.prog 148 #[.slice A od.length c, .int .i64 x] W fun e W' => e = .returned (.tuple #[.int .i64 r1, .bool r2]) ∧ Drawn0 W W')
  (h : ranksL F s s.length 0 (List.replicate s.length 0) = some res) :
  Calls Tryz.prog 133 #[.slice As s.length cs] w fun e w' => ∃ v, e = .returned v ∧ Kd.R (Kd.int .i64) 3 w' w.heap.size (fun _ => True) v res ∧ Below w.heap.size w w' := by
 have HS := Aside0.mk hs
 have HOD := Go.Lib.hid hod
 have HBS := Aside0.mk hBS
 have HH := Go.Lib.hid h
 clear hs hod hBS h
 go_enter Tryz.func133, Tryz.ntmps133
 go_wp2_with (fail)
 refine (values_calls _ _ _ _).mono ?_
 rintro e w2 ⟨rfl, ew2⟩
 have bB2 : Below w.heap.size w w2 := by rw [ew2]; exact (Below.refl _ w).alloc (Nat.le_refl _) _
 have hc2 : w2.cell? ⟨w.heap.size, 0, none⟩ = some (.slice As s.length cs) := by rw [ew2]; exact (Boxed.new w 29 (.slice As s.length cs)).cell
 have hs2 : w.heap.size < w2.heap.size := by rw [ew2]; simp
 clear ew2
 have cI := C_Ints (c := cs) (Kd.C_below HS.out bB2) (Nat.le_refl _)
 have cS := sorted_calls w.heap.size (.slice As s.length cs) s (by have : maxLen = 9223372036854775807 := rfl; omega) (by omega) w2 hs2 hc2 cI
 have B2 := Aside0.mk bB2
 clear bB2 cI hc2 hs2
 go_wp2_with (fail)
 refine cS.mono ?_
 clear cS
 rintro e w3 ⟨v3, rfl, o3, _, b3⟩
 have r3 := R_sorted o3
 rw [HOD.out] at r3
 obtain ⟨A3, c3, rfl, hc3, _⟩ := Kd.R_reads r3
 obtain ⟨W1, hmk, hrow, hB1⟩ := Re.made w3 s.length (by omega)
 have R3 := Aside0.mk r3
 have HC3 := Go.Lib.hid hc3
 have B3 := Aside0.mk (B2.out.trans (b3.mono B2.out.size))
 have B31 := Aside0.mk hB1
 have HRW := Go.Lib.hid hrow
 clear r3 o3 b3 hc3 hB1 hrow
 go_wp2_with (fail)
 have R0 : Aside0 (Kd.R (Kd.int .i64) 3 W1 w3.heap.size (fun _ => True) (.slice (some ⟨w3.heap.size, 0, none⟩) (List.replicate s.length (0 : Int)).length s.length) (List.replicate s.length 0)) := by
  refine ⟨?_⟩
  rw [List.length_replicate]
  refine Re.R_fill (v := 0) ?_ (Nat.le_refl _) (by have : maxLen = 9223372036854775807 := rfl; omega)
  have e : Re.fill 0 s.length s.length = Re.fill 0 0 s.length := by simp [Re.fill]
  rw [e]; exact HRW.out
 clear hmk HRW
 go_loopw [15] (fun v15 wr => ∃ (i : Nat) (lx : List Int), v15 = .int .i64 i ∧ Aside0 (i ≤ s.length) ∧ Hid (ranksL F s (s.length - i) i lx = some res) ∧ Aside0 (Kd.R (Kd.int .i64) 3 wr w3.heap.size (fun _ => True) (.slice (some ⟨w3.heap.size, 0, none⟩) lx.length s.length) lx) ∧
   Hid (lx.length = s.length) ∧ Aside0 (Below w3.heap.size w3 wr))
  (fun v15 _ => s.length - (intOf v15).toNat)
 case atStart => exact ⟨0, List.replicate s.length 0, rfl, ⟨Nat.zero_le _⟩, HH, R0, Go.Lib.hid (List.length_replicate ..), B31⟩
 case round =>
  obtain ⟨i, lx, rfl, hi, hF, hR, hl, hB⟩ := hrel
  by_cases hlt : i < s.length
  ·have hF2 := hF.out
   rw [show s.length - i = (s.length - (i + 1)) + 1 by omega, ranksL] at hF2
   obtain ⟨x, hx⟩ : ∃ x, s.getD i 0 = x := ⟨_, rfl⟩
   rw [hx] at hF2
   cases hFx : F x with
   | none => rw [hFx] at hF2; simp at hF2
   | some r =>
     obtain ⟨r1, r2⟩ := r
     rw [hFx, Option.bind_some] at hF2
     obtain ⟨ads, hAs, hcc⟩ := Kd.at_int (Kd.C_below HS.out (B3.out.trans (hB.out.mono B3.out.size))) (i : Int) (by omega) (by omega)
     subst hAs
     rw [Int.toNat_natCast, show rd s (i : Int) = x by simp [rd]; rw [← hx, List.getD_eq_getElem?_getD]] at hcc
     have cB := HBS.out wr A3 c3 x r1 r2 HC3.out (Kd.C_below (Kd.F_now (Kd.R_F R3.out)) hB.out) hFx
     have HF2 := Go.Lib.hid hF2
     have HX := Go.Lib.hid hx
     clear hF2 hx hFx
     go_wp2_with (fail)
     (with_reducible refine cB.mono ?_)
     clear cB
     rintro e w5 ⟨rfl, ⟨m5, rfl⟩⟩
     have hR5 := Kd.R_drewN hR.out m5
     have hB5 : Below w3.heap.size w3 (wr.drewN m5) := pw_below_drewN hB.out m5
     generalize wr.drewN m5 = w5 at *
     obtain ⟨hcell, hfro⟩ := Kd.R_cell 0 hR5 (i : Int) (by omega) (by have := hl.out; omega)
     rw [Int.toNat_natCast] at hfro hcell
     have r1' := Kd.R_putg hR5 (i : Int) r1
     rw [Int.toNat_natCast] at r1'
     have R1 := Aside0.mk r1'.1
     have BB := Aside0.mk (hB5.grown r1'.2 hB5.size (fun k e => by cases e; exact Nat.le_refl _))
     have HL := Go.Lib.hid (show (lx.set i r1).length = s.length by rw [List.length_set]; exact hl.out)
     clear hcc r1' hR5 hB5
     go_wp2
     go_roundw
     case rel => exact ⟨i + 1, lx.set i r1, by go_num, ⟨by omega⟩, HF2, ⟨by rw [List.length_set]; exact R1.out⟩, HL, BB⟩
     case measure => simp [intOf]; omega
  ·have hie : i = s.length := by have := hi.out; omega
   have hF2 := hF.out
   rw [hie, Nat.sub_self] at hF2
   obtain rfl : lx = res := by simpa [ranksL] using hF2
   have hge : s.length ≤ i := by omega
   have R3' := Aside0.mk hR.out
   clear hF hF2 hie
   go_wp2
   go_ret
   have r := R3'.out
   have b3 := B3.out
   have hb := hB.out
   rw [hl.out] at r
   exact ⟨_, rfl, Kd.R_lower r b3.size, b3.trans (hb.mono b3.size)⟩
end Go.Proofs.YtbbpplnnegdenaaGreat.Rk
end
section
namespace Go.Proofs.YtbbpplnnegdenaaGreat.Nm
open Go Go.RowKit Go.Shelf Go.Proofs Go.Proofs.YtbbpplnnegdenaaGreatW.PrintWords Go.Proofs.YtbbpplnnegdenaaGreatW.PrintLast Go.Proofs.YtbbpplnnegdenaaGreatW.PrintMore Go.Proofs.YtbbpplnnegdenaaGreat.So Go.Proofs.YtbbpplnnegdenaaGreat.St
def pieceL (s nx : List Int) (i : Int) : Option (List Int) :=
 if 0 ≤ i ∧ i < nx.length then
  (if 0 ≤ nx.getD i.toNat 0 ∧ nx.getD i.toNat 0 < 4611686018427387904 ∧ i ≤ min (nx.getD i.toNat 0 + 1) s.length then some ((s.take (min (nx.getD i.toNat 0 + 1) s.length).toNat).drop i.toNat) else none) else none
theorem piece_calls {W : World} {As An : Option Addr} {cs cn : Nat} {s nx p : List Int} {i : Int}
  (hs : Kd.C (Kd.int .i64) W As s.length s) (hn : Kd.C (Kd.int .i64) W An nx.length nx) (hc : s.length ≤ cs) (hsl : s.length ≤ 1000000) (h : pieceL s nx i = some p) :
  Calls Tryz.prog 128 #[.slice As s.length cs, .slice An nx.length cn, .int .i64 i] W fun e W' => ∃ A c, e = .returned (.slice A p.length c) ∧ p.length ≤ c ∧ Kd.C (Kd.int .i64) W' A p.length p ∧ Drawn0 W W' := by
 unfold pieceL at h
 by_cases h1 : 0 ≤ i ∧ i < nx.length
 case neg => rw [if_neg h1] at h; exact absurd h (by simp)
 rw [if_pos h1] at h
 obtain ⟨adn, hAn, hcn⟩ := Kd.at_int hn i h1.1 h1.2
 subst hAn
 obtain ⟨x, hx⟩ : ∃ x, nx.getD i.toNat 0 = x := ⟨_, rfl⟩
 rw [hx] at h
 rw [show rd nx i = x from hx] at hcn
 by_cases h2 : 0 ≤ x ∧ x < 4611686018427387904 ∧ i ≤ min (x + 1) s.length
 case neg => rw [if_neg h2] at h; exact absurd h (by simp)
 rw [if_pos h2] at h
 have hp := Option.some.inj h
 clear h
 obtain ⟨i0, hi0, hz0, hz1, hz2⟩ := info_parts Re.info3
 have hm1 : min (x + 1) (s.length : Int) ≤ s.length := by omega
 have hcut := cut_mid (P := Tryz.prog) 29 3 .i64 .i64 Tryz.underlying29 hi0 1 hz1 As s.length cs i (min (x + 1) (s.length : Int)) h1.1 h2.2.2 hm1 hc
 have hmid := Kd.F_mid (lo := i.toNat) (hi := (min (x + 1) (s.length : Int)).toNat) (c := cs) (Kd.C_F (Kd.heap_int _) hs) (by omega) (by omega) hc
 have hpl : p.length = (min (x + 1) (s.length : Int)).toNat - i.toNat := by rw [← hp, List.length_drop, List.length_take]; omega
 have hpc : p.length ≤ cs - i.toNat := by omega
 rw [hp] at hmid
 obtain ⟨A', hA'⟩ : ∃ A', A' = (if cs = i.toNat then As else As.map (·.add (i.toNat * 1))) := ⟨_, rfl⟩
 obtain ⟨c', hc'⟩ : ∃ c', c' = cs - i.toNat := ⟨_, rfl⟩
 rw [← hpl, ← hA', ← hc'] at hcut
 rw [← hc'] at hpc
 replace hmid : Kd.C (Kd.int .i64) W A' p.length p := by rw [hA']; exact Kd.F_now hmid
 have HM := Aside0.mk hmid
 have HPC := Go.Lib.hid hpc
 have hw : wrap64 (x + 1) = x + 1 := by clear hcut hmid HM; unfold wrap64; omega
 have i0' := h1.1
 have i1' := h1.2
 have H2 := Go.Lib.hid h2
 clear hs hn hmid h1 h2 hx hp hA' hc' hpc hpl hm1 hz0 hz2 hz1 hi0 hc
 go_enter Tryz.func128, Tryz.ntmps128
 go_wp2_with (fail)
 go_ret
 exact ⟨A', c', rfl, HPC.out, HM.out, Drawn0.refl _⟩
def nextL (n : Int) (fi : List Int) : Nat → Nat → List Int → Option (List Int)
 | 0, _, nx => some nx
 | d + 1, i, nx => if 0 ≤ fi.getD i 0 ∧ fi.getD i 0 < nx.length then nextL n fi d (i + 1) (nx.set (fi.getD i 0).toNat (if i + 1 < fi.length then fi.getD (i + 1) 0 else n)) else none
def differL (E : List Int → List Int → Option Bool) (s nx : List Int) (last j : Int) : Option Bool :=
 if 0 ≤ last then (if nx.getD j.toNat 0 = s.length then some true else (if last < nx.length then (if nx.getD last.toNat 0 = s.length then some true else
  (pieceL s nx last).bind fun p => (pieceL s nx j).bind fun q => (E p q).bind fun b => some (!b)) else none)) else some false
def namesL (E : List Int → List Int → Option Bool) (s nx od : List Int) : Nat → Nat → List Int → Int → Int → Option (List Int × Int)
 | 0, _, nm, n, _ => some (nm, n)
 | d + 1, i, nm, n, last =>
   if 0 ≤ od.getD i 0 ∧ od.getD i 0 < nx.length then (if nx.getD (od.getD i 0).toNat 0 = 0 then namesL E s nx od d (i + 1) nm n last else
    (differL E s nx last (od.getD i 0)).bind fun b => if 0 ≤ n ∧ n < 1000000000 then namesL E s nx od d (i + 1) (nm.set (od.getD i 0).toNat (if b then n + 1 else n)) (if b then n + 1 else n) (od.getD i 0) else none) else none
def outL (nm fi : List Int) : Nat → Nat → List Int → Option (List Int)
 | 0, _, o => some o
 | d + 1, i, o => if 0 ≤ fi.getD i 0 ∧ fi.getD i 0 < nm.length then outL nm fi d (i + 1) (o ++ [nm.getD (fi.getD i 0).toNat 0]) else none
theorem nextL_length {n : Int} {fi : List Int} : ∀ {d i : Nat} {nx r : List Int}, nextL n fi d i nx = some r → r.length = nx.length
 | 0, _, _, _, h => by cases h; rfl
 | d + 1, i, nx, r, h => by
   unfold nextL at h
   by_cases c : 0 ≤ fi.getD i 0 ∧ fi.getD i 0 < nx.length
   ·rw [if_pos c] at h; rw [nextL_length h, List.length_set]
   ·rw [if_neg c] at h; simp at h
theorem named_calls {w : World} {As Af Ao : Option Addr} {cs cf cO : Nat} {s fi od nx nm out : List Int} {n0 : Int} {E : List Int → List Int → Option Bool}
  (hs : Kd.C (Kd.int .i64) w As s.length s) (hsc : s.length ≤ cs) (hf : Kd.C (Kd.int .i64) w Af fi.length fi) (ho : Kd.C (Kd.int .i64) w Ao od.length od) (hsl : s.length ≤ 1000000) (hfl : fi.length ≤ 1000000) (hol : od.length ≤ 1000000)
  (hE : ∀ W A B c d p q b, p.length ≤ c → q.length ≤ d → Kd.C (Kd.int .i64) W A p.length p → Kd.C (Kd.int .i64) W B q.length q → E p q = some b →
   Calls Tryz.prog 63 #[.slice A p.length c, .slice B q.length d] W fun e W' => e = .returned (.bool b) ∧ Drawn0 W W')
  (h1 : nextL s.length fi fi.length 0 (List.replicate s.length 0) = some nx) (h2 : namesL E s nx od od.length 0 (List.replicate s.length 0) 0 (-1) = some (nm, n0)) (h3 : outL nm fi fi.length 0 [] = some out) :
  Calls Tryz.prog 106 #[.slice As s.length cs, .slice Af fi.length cf, .slice Ao od.length cO] w fun e w' => ∃ v, e = .returned (.tuple #[v, .int .i64 (wrap64 (n0 + 1))]) ∧ Kd.R (Kd.int .i64) 3 w' w.heap.size (fun _ => True) v out ∧ Below w.heap.size w w' := by
 have hnl : nx.length = s.length := by rw [nextL_length h1, List.length_replicate]
 have HS := Aside0.mk hs
 have HF := Aside0.mk hf
 have HO := Aside0.mk ho
 have HE := Aside0.mk hE
 have H1 := Go.Lib.hid h1
 have H2 := Go.Lib.hid h2
 have H3 := Go.Lib.hid h3
 have HSC := Go.Lib.hid hsc
 have HNL := Go.Lib.hid hnl
 obtain ⟨W1, hmk, hrow, hB1⟩ := Re.made w s.length (by omega)
 have B1 := Aside0.mk hB1
 have R0 : Aside0 (Kd.R (Kd.int .i64) 3 W1 w.heap.size (fun _ => True) (.slice (some ⟨w.heap.size, 0, none⟩) (List.replicate s.length (0 : Int)).length s.length) (List.replicate s.length 0)) := by
  refine ⟨?_⟩
  rw [List.length_replicate]
  refine Re.R_fill (v := 0) ?_ (Nat.le_refl _) (by have : maxLen = 9223372036854775807 := rfl; omega)
  have e : Re.fill 0 s.length s.length = Re.fill 0 0 s.length := by simp [Re.fill]
  rw [e]; exact hrow
 clear hs hf ho hE h1 h2 h3 hsc hnl hrow hB1
 go_enter Tryz.func106, Tryz.ntmps106
 go_wp2_with (fail)
 clear hmk
 go_loopw [24] (fun v24 wr => ∃ (i : Nat) (lx : List Int), v24 = .int .i64 i ∧ Aside0 (i ≤ fi.length) ∧ Hid (nextL s.length fi (fi.length - i) i lx = some nx) ∧ Aside0 (Kd.R (Kd.int .i64) 3 wr w.heap.size (fun _ => True) (.slice (some ⟨w.heap.size, 0, none⟩) lx.length s.length) lx) ∧
   Hid (lx.length = s.length) ∧ Aside0 (Below w.heap.size w wr))
  (fun v24 _ => fi.length - (intOf v24).toNat)
 case atStart => exact ⟨0, List.replicate s.length 0, rfl, ⟨Nat.zero_le _⟩, H1, R0, Go.Lib.hid (List.length_replicate ..), B1⟩
 case round =>
  obtain ⟨i, lx, rfl, hi, hF, hR, hl, hB⟩ := hrel
  by_cases hlt : i < fi.length
  ·have hF2 := hF.out
   rw [show fi.length - i = (fi.length - (i + 1)) + 1 by omega, nextL] at hF2
   obtain ⟨x, hx⟩ : ∃ x, fi.getD i 0 = x := ⟨_, rfl⟩
   rw [hx] at hF2
   by_cases hc : 0 ≤ x ∧ x < lx.length
   case neg => rw [if_neg hc] at hF2; exact absurd hF2 (by simp)
   rw [if_pos hc] at hF2
   have hlo := hl.out
   obtain ⟨adf, hAf, hcf⟩ := Kd.at_int (Kd.C_below HF.out hB.out) (i : Int) (by omega) (by omega)
   subst hAf
   rw [Int.toNat_natCast, show rd fi (i : Int) = x by simp [rd]; rw [← hx, List.getD_eq_getElem?_getD]] at hcf
   obtain ⟨m, rfl⟩ : ∃ m : Nat, x = (m : Int) := ⟨x.toNat, by omega⟩
   obtain ⟨hcell, hfro⟩ := Kd.R_cell 0 hR.out (m : Int) (by omega) (by omega)
   have r1 := Kd.R_putg hR.out (m : Int) (s.length : Int)
   have BB1 := hB.out.grown r1.2 hB.out.size (fun k e => by cases e; exact Nat.le_refl _)
   have hw : wrap64 ((i : Int) + 1) = (i : Int) + 1 := by unfold wrap64; omega
   rw [Int.toNat_natCast] at *
   have hms : m < s.length := by omega
   by_cases hn : i + 1 < fi.length
   ·rw [if_pos hn] at hF2
    obtain ⟨y, hy⟩ : ∃ y, fi.getD (i + 1) 0 = y := ⟨_, rfl⟩
    rw [hy] at hF2
    obtain ⟨adf', hAf', hcf2⟩ := Kd.at_int (Kd.C_below HF.out BB1) ((i + 1 : Nat) : Int) (by omega) (by omega)
    cases hAf'
    rw [Int.toNat_natCast, show rd fi ((i + 1 : Nat) : Int) = y by simp only [rd]; rw [Int.toNat_natCast]; exact hy] at hcf2
    rw [show adf.add (i + 1) = ⟨adf.block, adf.off + (i + 1), none⟩ by unfold Addr.add; simp] at hcf2
    have h1' : (List.set lx m (s.length : Int)).length = lx.length := List.length_set
    have r1a := r1.1
    rw [← h1'] at r1a
    obtain ⟨hcell2, hfro2⟩ := Kd.R_cell 0 r1a (m : Int) (by omega) (by omega)
    have r2 := Kd.R_putg r1a (m : Int) y
    rw [Int.toNat_natCast] at hcell2 hfro2 r2
    rw [List.set_set, h1'] at r2
    have BB2 := BB1.grown r2.2 BB1.size (fun k e => by cases e; exact Nat.le_refl _)
    have R2 := Aside0.mk r2.1
    have BB := Aside0.mk BB2
    have HF2 := Go.Lib.hid hF2
    have HL := Go.Lib.hid (show (lx.set m y).length = s.length by rw [List.length_set]; exact hlo)
    clear r1 r1a r2 BB1 BB2 hF2 hy hx hF hR h1' hc
    go_wp2
    go_roundw
    case rel => exact ⟨i + 1, lx.set m y, by go_num, ⟨by omega⟩, HF2, ⟨by rw [List.length_set]; exact R2.out⟩, HL, BB⟩
    case measure => simp [intOf]; omega
   ·rw [if_neg hn] at hF2
    have R2 := Aside0.mk r1.1
    have BB := Aside0.mk BB1
    have HF2 := Go.Lib.hid hF2
    have HL := Go.Lib.hid (show (lx.set m (s.length : Int)).length = s.length by rw [List.length_set]; exact hlo)
    have hn' : fi.length ≤ i + 1 := by omega
    clear r1 BB1 hF2 hx hF hR hc
    go_wp2
    go_roundw
    case rel => exact ⟨i + 1, lx.set m (s.length : Int), by go_num, ⟨by omega⟩, HF2, ⟨by rw [List.length_set]; exact R2.out⟩, HL, BB⟩
    case measure => simp [intOf]; omega
  ·have hie : i = fi.length := by have := hi.out; omega
   have hF2 := hF.out
   rw [hie, Nat.sub_self] at hF2
   obtain rfl : nx = lx := by simpa [nextL] using hF2.symm
   have hge : fi.length ≤ i := by omega
   have RN := Aside0.mk hR.out
   have BN := Aside0.mk hB.out
   obtain ⟨W2, hmk2, hrow2, hB2⟩ := Re.made wr s.length (by omega)
   have B2 := Aside0.mk hB2
   have R02 : Aside0 (Kd.R (Kd.int .i64) 3 W2 wr.heap.size (fun _ => True) (.slice (some ⟨wr.heap.size, 0, none⟩) (List.replicate s.length (0 : Int)).length s.length) (List.replicate s.length 0)) := by
    refine ⟨?_⟩
    rw [List.length_replicate]
    refine Re.R_fill (v := 0) ?_ (Nat.le_refl _) (by have : maxLen = 9223372036854775807 := rfl; omega)
    have e : Re.fill 0 s.length s.length = Re.fill 0 0 s.length := by simp [Re.fill]
    rw [e]; exact hrow2
   clear hF hF2 hie hR hB hrow2 hB2 hl
   generalize wr = wz at *
   go_wp2_with (fail)
   clear hmk2
   go_loopw [53, 12, 13] (fun v53 v12 v13 wq => ∃ (i : Nat) (lx : List Int) (n last : Int), v53 = .int .i64 i ∧ v12 = .int .i64 n ∧ v13 = .int .i64 last ∧ Aside0 (i ≤ od.length) ∧ Hid (namesL E s nx od (od.length - i) i lx n last = some (nm, n0)) ∧ Aside0 (Kd.R (Kd.int .i64) 3 wq wz.heap.size (fun _ => True) (.slice (some ⟨wz.heap.size, 0, none⟩) lx.length s.length) lx) ∧
     Hid (lx.length = s.length) ∧ Aside0 (Below wz.heap.size wz wq) ∧ Aside0 (-1 ≤ last ∧ last < 1000000))
    (fun v53 _ _ _ => od.length - (intOf v53).toNat)
   case atStart => exact ⟨0, List.replicate s.length 0, 0, -1, rfl, rfl, rfl, ⟨Nat.zero_le _⟩, H2, R02, Go.Lib.hid (List.length_replicate ..), B2, ⟨by omega⟩⟩
   case round =>
    obtain ⟨i, lx, n, last, rfl, rfl, rfl, hi, hF, hR, hl, hB, hla⟩ := hrel
    by_cases hlt : i < od.length
    ·have hF2 := hF.out
     rw [show od.length - i = (od.length - (i + 1)) + 1 by omega, namesL] at hF2
     obtain ⟨x, hx⟩ : ∃ x, od.getD i 0 = x := ⟨_, rfl⟩
     rw [hx] at hF2
     have hlo := hl.out
     have hnl := HNL.out
     by_cases hc : 0 ≤ x ∧ x < nx.length
     case neg => rw [if_neg hc] at hF2; exact absurd hF2 (by simp)
     rw [if_pos hc] at hF2
     obtain ⟨ado, hAo, hco⟩ := Kd.at_int (Kd.C_below HO.out (BN.out.trans (hB.out.mono BN.out.size))) (i : Int) (by omega) (by omega)
     subst hAo
     rw [Int.toNat_natCast, show rd od (i : Int) = x by simp [rd]; rw [← hx, List.getD_eq_getElem?_getD]] at hco
     obtain ⟨m, rfl⟩ : ∃ m : Nat, x = (m : Int) := ⟨x.toNat, by omega⟩
     rw [Int.toNat_natCast] at hF2
     have hms : m < s.length := by omega
     have hRN := Kd.R_below RN.out hB.out
     obtain ⟨y, hy⟩ : ∃ y, nx.getD m 0 = y := ⟨_, rfl⟩
     obtain ⟨hcN, _⟩ := Kd.R_cell 0 hRN (m : Int) (by omega) (by omega)
     rw [Int.toNat_natCast, show rdOf 0 nx (m : Int) = y by rw [← hy]; simp [rdOf]] at hcN
     rw [hy] at hF2
     have hw : wrap64 ((i : Int) + 1) = (i : Int) + 1 := by unfold wrap64; omega
     by_cases hz : y = 0
     ·rw [if_pos hz] at hF2
      have HF2 := Go.Lib.hid hF2
      have BB := Aside0.mk hB.out
      subst hz
      clear hF2 hRN hx hF hc
      go_wp2
      go_roundw
      case rel => exact ⟨i + 1, lx, n, last, by go_num, rfl, rfl, ⟨by omega⟩, HF2, hR, hl, BB, hla⟩
      case measure => simp [intOf]; omega
     ·rw [if_neg hz] at hF2
      cases hD : differL E s nx last (m : Int) with
      | none => rw [hD] at hF2; simp at hF2
      | some b =>
      rw [hD, Option.bind_some] at hF2
      by_cases hN : 0 ≤ n ∧ n < 1000000000
      case neg => rw [if_neg hN] at hF2; exact absurd hF2 (by simp)
      rw [if_pos hN] at hF2
      have hR0 := hR.out
      have hB0 := hB.out
      have hlaq := hla.out
      have hwn : wrap64 (n + 1) = n + 1 := by unfold wrap64; omega
      unfold differL at hD
      rw [Int.toNat_natCast, hy] at hD
      by_cases d1 : 0 ≤ last
      ·rw [if_pos d1] at hD
       have d1' := decide_eq_true d1
       by_cases d2 : y = s.length
       ·rw [if_pos d2] at hD
        obtain rfl := Option.some.inj hD
        rw [if_pos rfl] at hF2
        clear hD
        obtain ⟨hcM, hfM⟩ := Kd.R_cell 0 hR0 (m : Int) (by omega) (by omega)
        rw [Int.toNat_natCast] at hcM hfM
        have r1 := Kd.R_putg hR0 (m : Int) (n + 1)
        rw [Int.toNat_natCast] at r1
        have R1 := Aside0.mk r1.1
        have BB := Aside0.mk (hB0.grown r1.2 hB0.size (fun k e => by cases e; exact Nat.le_refl _))
        have HL := Go.Lib.hid (show (lx.set m (n + 1)).length = s.length by rw [List.length_set]; exact hlo)
        have HF2 := Go.Lib.hid hF2
        clear r1 hF2 hF hx hc hy
        go_wp2
        go_roundw
        case rel => exact ⟨i + 1, lx.set m (n + 1), (n + 1), m, by go_num, by go_num, rfl, ⟨by omega⟩, HF2, ⟨by rw [List.length_set]; exact R1.out⟩, HL, BB, ⟨by omega⟩⟩
        case measure => simp [intOf]; omega
       ·rw [if_neg d2] at hD
        by_cases d3 : last < nx.length
        case neg => rw [if_neg d3] at hD; exact absurd hD (by simp)
        rw [if_pos d3] at hD
        obtain ⟨q, rfl⟩ : ∃ q : Nat, last = (q : Int) := ⟨last.toNat, by omega⟩
        rw [Int.toNat_natCast] at hD
        obtain ⟨z, hz2⟩ : ∃ z, nx.getD q 0 = z := ⟨_, rfl⟩
        obtain ⟨hcL, _⟩ := Kd.R_cell 0 hRN (q : Int) (by omega) (by omega)
        rw [Int.toNat_natCast, show rdOf 0 nx (q : Int) = z by rw [← hz2]; simp [rdOf]] at hcL
        rw [hz2] at hD
        have hqs : q < s.length := by omega
        by_cases d4 : z = s.length
        ·rw [if_pos d4] at hD
         obtain rfl := Option.some.inj hD
         rw [if_pos rfl] at hF2
         clear hD
         obtain ⟨hcM, hfM⟩ := Kd.R_cell 0 hR0 (m : Int) (by omega) (by omega)
         rw [Int.toNat_natCast] at hcM hfM
         have r1 := Kd.R_putg hR0 (m : Int) (n + 1)
         rw [Int.toNat_natCast] at r1
         have R1 := Aside0.mk r1.1
         have BB := Aside0.mk (hB0.grown r1.2 hB0.size (fun k e => by cases e; exact Nat.le_refl _))
         have HL := Go.Lib.hid (show (lx.set m (n + 1)).length = s.length by rw [List.length_set]; exact hlo)
         have HF2 := Go.Lib.hid hF2
         clear r1 hF2 hF hx hc hy
         go_wp2
         go_roundw
         case rel => exact ⟨i + 1, lx.set m (n + 1), (n + 1), m, by go_num, by go_num, rfl, ⟨by omega⟩, HF2, ⟨by rw [List.length_set]; exact R1.out⟩, HL, BB, ⟨by omega⟩⟩
         case measure => simp [intOf]; omega
        ·rw [if_neg d4] at hD
         cases hp : pieceL s nx (q : Int) with
         | none => rw [hp] at hD; simp at hD
         | some p =>
         rw [hp, Option.bind_some] at hD
         cases hp2 : pieceL s nx (m : Int) with
         | none => rw [hp2] at hD; simp at hD
         | some p2 =>
         rw [hp2, Option.bind_some] at hD
         cases he : E p p2 with
         | none => rw [he] at hD; simp at hD
         | some eq =>
         rw [he, Option.bind_some] at hD
         obtain rfl := Option.some.inj hD
         have cP := piece_calls (cs := cs) (cn := s.length) (Kd.C_below HS.out (BN.out.trans (hB0.mono BN.out.size))) (Kd.F_now (Kd.R_F hRN)) HSC.out hsl hp
         rw [hnl] at cP
         have HP2 := Go.Lib.hid hp2
         have HE2 := Go.Lib.hid he
         have HF2 := Go.Lib.hid hF2
         have HY := Go.Lib.hid hy
         have HZ := Go.Lib.hid hz2
         clear hD hp hp2 he hF2 hy hz2 hx hF
         go_wp2_with (fail)
         (with_reducible refine cP.mono ?_)
         clear cP
         rintro e w5 ⟨A5, c5, rfl, hc5, C5, ⟨m5, rfl⟩⟩
         have hB5 : Below wz.heap.size wz (wr.drewN m5) := pw_below_drewN hB0 m5
         have hR5 := Kd.R_drewN hR0 m5
         generalize wr.drewN m5 = w5 at *
         have hRN5 := Kd.R_below RN.out hB5
         have cP := piece_calls (cs := cs) (cn := s.length) (Kd.C_below HS.out (BN.out.trans (hB5.mono BN.out.size))) (Kd.F_now (Kd.R_F hRN5)) HSC.out hsl HP2.out
         rw [hnl] at cP
         have CC5 := Aside0.mk C5
         have HC5 := Go.Lib.hid hc5
         clear C5 hc5 hRN5
         go_wp2_with (fail)
         (with_reducible refine cP.mono ?_)
         clear cP
         rintro e w6 ⟨A6, c6, rfl, hc6, C6, ⟨m6, rfl⟩⟩
         have C56 := Kd.C_drewN CC5.out m6
         have hB6 : Below wz.heap.size wz (w5.drewN m6) := pw_below_drewN hB5 m6
         have hR6 := Kd.R_drewN hR5 m6
         generalize w5.drewN m6 = w6 at *
         have cE := HE.out w6 A5 A6 c5 c6 p p2 eq HC5.out hc6 C56 C6 HE2.out
         clear C56 C6 hc6
         go_wp2_with (fail)
         (with_reducible refine cE.mono ?_)
         clear cE
         rintro e w7 ⟨rfl, ⟨m7, rfl⟩⟩
         have hB7 : Below wz.heap.size wz (w6.drewN m7) := pw_below_drewN hB6 m7
         have hR7 := Kd.R_drewN hR6 m7
         generalize w6.drewN m7 = w7 at *
         have hF3 := HF2.out
         clear HF2
         have e1 : (y == (s.length : Int)) = false := by simp [d2]
         have e2 : (z == (s.length : Int)) = false := by simp [d4]
         cases eq with
         | true =>
           rw [if_neg (by simp)] at hF3
           have HF2 := Go.Lib.hid hF3
           clear hF3
           obtain ⟨hcM, hfM⟩ := Kd.R_cell 0 hR7 (m : Int) (by omega) (by omega)
           rw [Int.toNat_natCast] at hcM hfM
           have r1 := Kd.R_putg hR7 (m : Int) n
           rw [Int.toNat_natCast] at r1
           have R1 := Aside0.mk r1.1
           have BB := Aside0.mk (hB7.grown r1.2 hB7.size (fun k e => by cases e; exact Nat.le_refl _))
           have HL := Go.Lib.hid (show (lx.set m n).length = s.length by rw [List.length_set]; exact hlo)
           clear r1 hc
           go_wp2
           go_roundw
           case rel => exact ⟨i + 1, lx.set m n, n, m, by go_num, by go_num, rfl, ⟨by omega⟩, HF2, ⟨by rw [List.length_set]; exact R1.out⟩, HL, BB, ⟨by omega⟩⟩
           case measure => simp [intOf]; omega
         | false =>
           rw [if_pos (by simp)] at hF3
           have HF2 := Go.Lib.hid hF3
           clear hF3
           obtain ⟨hcM, hfM⟩ := Kd.R_cell 0 hR7 (m : Int) (by omega) (by omega)
           rw [Int.toNat_natCast] at hcM hfM
           have r1 := Kd.R_putg hR7 (m : Int) (n + 1)
           rw [Int.toNat_natCast] at r1
           have R1 := Aside0.mk r1.1
           have BB := Aside0.mk (hB7.grown r1.2 hB7.size (fun k e => by cases e; exact Nat.le_refl _))
           have HL := Go.Lib.hid (show (lx.set m (n + 1)).length = s.length by rw [List.length_set]; exact hlo)
           clear r1 hc
           go_wp2
           go_roundw
           case rel => exact ⟨i + 1, lx.set m (n + 1), (n + 1), m, by go_num, by go_num, rfl, ⟨by omega⟩, HF2, ⟨by rw [List.length_set]; exact R1.out⟩, HL, BB, ⟨by omega⟩⟩
           case measure => simp [intOf]; omega
      ·rw [if_neg d1] at hD
       obtain rfl := Option.some.inj hD
       rw [if_neg (by simp)] at hF2
       have d1' : last < 0 := by omega
       clear hD
       obtain ⟨hcM, hfM⟩ := Kd.R_cell 0 hR0 (m : Int) (by omega) (by omega)
       rw [Int.toNat_natCast] at hcM hfM
       have r1 := Kd.R_putg hR0 (m : Int) n
       rw [Int.toNat_natCast] at r1
       have R1 := Aside0.mk r1.1
       have BB := Aside0.mk (hB0.grown r1.2 hB0.size (fun k e => by cases e; exact Nat.le_refl _))
       have HL := Go.Lib.hid (show (lx.set m n).length = s.length by rw [List.length_set]; exact hlo)
       have HF2 := Go.Lib.hid hF2
       clear r1 hF2 hF hx hc hy
       go_wp2
       go_roundw
       case rel => exact ⟨i + 1, lx.set m n, n, m, by go_num, by go_num, rfl, ⟨by omega⟩, HF2, ⟨by rw [List.length_set]; exact R1.out⟩, HL, BB, ⟨by omega⟩⟩
       case measure => simp [intOf]; omega
    ·have hie : i = od.length := by have := hi.out; omega
     have hF2 := hF.out
     rw [hie, Nat.sub_self] at hF2
     have hF3 : some (lx, n) = some (nm, n0) := hF2
     cases hF3
     have hge2 : od.length ≤ i := by omega
     have RM := Aside0.mk hR.out
     have BM := Aside0.mk (BN.out.trans (hB.out.mono BN.out.size))
     have HLM := Go.Lib.hid hl.out
     clear hF hF2 hie hR hB hl hla
     generalize wr = wt at *
     go_wp2_with (fail)
     go_loopw [104, 16] (fun v104 v16 wq => ∃ (i : Nat) (o : List Int), v104 = .int .i64 i ∧ Aside0 (i ≤ fi.length) ∧ Hid (outL nm fi (fi.length - i) i o = some out) ∧ Aside0 (Kd.R (Kd.int .i64) 3 wq wt.heap.size (fun _ => True) v16 o) ∧
       Hid (o.length = i) ∧ Aside0 (Below wt.heap.size wt wq))
      (fun v104 _ _ => fi.length - (intOf v104).toNat)
     case atStart => exact ⟨0, [], rfl, ⟨Nat.zero_le _⟩, H3, ⟨Kd.R_nil _ _ _ _ _⟩, Go.Lib.hid rfl, ⟨Below.refl _ _⟩⟩
     case round =>
      obtain ⟨i, o, rfl, hi, hF, hR, hl, hB⟩ := hrel
      by_cases hlt : i < fi.length
      ·have hF2 := hF.out
       rw [show fi.length - i = (fi.length - (i + 1)) + 1 by omega, outL] at hF2
       obtain ⟨x, hx⟩ : ∃ x, fi.getD i 0 = x := ⟨_, rfl⟩
       rw [hx] at hF2
       have hlm := HLM.out
       by_cases hc : 0 ≤ x ∧ x < nm.length
       case neg => rw [if_neg hc] at hF2; exact absurd hF2 (by simp)
       rw [if_pos hc] at hF2
       have hB4 := hB.out
       obtain ⟨adf, hAf, hcf⟩ := Kd.at_int (Kd.C_below HF.out (BM.out.trans (hB4.mono BM.out.size))) (i : Int) (by omega) (by omega)
       subst hAf
       rw [Int.toNat_natCast, show rd fi (i : Int) = x by simp [rd]; rw [← hx, List.getD_eq_getElem?_getD]] at hcf
       obtain ⟨m, rfl⟩ : ∃ m : Nat, x = (m : Int) := ⟨x.toNat, by omega⟩
       rw [Int.toNat_natCast] at hF2
       have hms : m < s.length := by omega
       have hRM := Kd.R_below RM.out hB4
       obtain ⟨y, hy⟩ : ∃ y, nm.getD m 0 = y := ⟨_, rfl⟩
       obtain ⟨hcN, _⟩ := Kd.R_cell 0 hRM (m : Int) (by omega) (by omega)
       rw [Int.toNat_natCast, show rdOf 0 nm (m : Int) = y by rw [← hy]; simp [rdOf]] at hcN
       rw [hy] at hF2
       have HF2 := Go.Lib.hid hF2
       clear hF2 hF hx hy hRM hc
       go_wp2_with ((with_reducible refine gate_builtin (b := .append) (xs := #[.tmp 108, .tmp 113]) rfl ?_); at_builtin; refine Kd.R_append (Kd.int .i64) (w0 := wt) wt.heap.size rfl (.tmp 108) (.tmp 113) 29 3 (.int .i64 0) 8 rfl Tryz.underlying29 Re.info3 rfl (by decide) (by omega) _ o y [.int .i64 y] (fun _ => True) (fun _ => False) rfl rfl ?aP (fun _ hk => hk.elim) ?aF ?aO ?aB ?aS ?aL ?_; (case aP => exact rfl); (case aB => exact hB.out); (case aF => exact (fun _ _ => trivial)); (case aO => exact hR.out); (case aS => exact hB.out.size); (case aL => have := hl.out; omega); intro v124 w18 ho hb hg hat; have RO := Aside0.mk ho; have BO := Aside0.mk hb; clear ho hb hg hat)
       go_roundw
       case rel => exact ⟨i + 1, o ++ [y], by go_num, ⟨by omega⟩, HF2, RO, Go.Lib.hid (by rw [List.length_append, hl.out]; rfl), BO⟩
       case measure => simp [intOf]; omega
      ·have hie : i = fi.length := by have := hi.out; omega
       have hF2 := hF.out
       rw [hie, Nat.sub_self] at hF2
       obtain rfl : out = o := by simpa [outL] using hF2.symm
       have hge3 : fi.length ≤ i := by omega
       have R3 := Aside0.mk hR.out
       have B3 := Aside0.mk hB.out
       clear hF hF2 hie
       go_wp2
       refine bodyPost_ret (results_tmp2 rfl _ _ _) rfl ?_
       have r := R3.out
       have bm := BM.out
       have bb := B3.out
       exact ⟨_, rfl, Kd.R_lower r bm.size, bm.trans (bb.mono bm.size)⟩
end Go.Proofs.YtbbpplnnegdenaaGreat.Nm
end
section
namespace Go.Proofs.YtbbpplnnegdenaaGreat.Cr
open Go Go.RowKit Go.Shelf Go.Proofs Go.Proofs.YtbbpplnnegdenaaGreatW.PrintWords Go.Proofs.YtbbpplnnegdenaaGreat.So Go.Proofs.YtbbpplnnegdenaaGreat.St
theorem new_calls (w : World) : Calls Tryz.prog 30 #[] w fun e w' => ∃ g, e = .returned (.pointer (some ⟨g, 0, none⟩)) ∧ w.heap.size ≤ g ∧ w'.heap[g]? = some (.cells #[.int .i64 0, .int .i64 0, .int .i64 0] 107 (0, 0)) ∧ Below w.heap.size w w' := by
 go_enter Tryz.func30, Tryz.ntmps30
 go_wp2
 go_ret
 exact ⟨w.heap.size, rfl, Nat.le_refl _, World.alloc_heap_new w _, (Below.refl _ w).alloc (Nat.le_refl _) _⟩
theorem set_grown (W : World) (g i : Nat) (v : Value) : W.grownBy (W.setCell ⟨g, i, none⟩ v) (some g) :=
 ⟨rfl, rfl, rfl, by simp [World.setCell], fun k _ hk => Below.heap_setCell _ _ _ _ (fun e => hk (by simp [e]))⟩
theorem set_same {W : World} {g i : Nat} {cs : Array Value} {T : TypeId} (h : W.heap[g]? = some (.cells cs T (0, 0))) (v : Value) : (W.setCell ⟨g, i, none⟩ v).heap[g]? = some (.cells (cs.setIfInBounds i v) T (0, 0)) := by
 simp [World.setCell, Array.getElem?_modify, h]
theorem add_run (w : World) (a : Addr) (x d : Int) (h : w.cell? a = some (.int .i64 x)) (hf : w.frozen? a = false) :
  (callFunc 96 #[.pointer (some a), .int .i64 d]).run Tryz.prog w = .ok (.value (.int .i64 (wrap64 (x + d)))) (w.setCell a (.int .i64 (wrap64 (x + d)))) := by
 rw [run_callFunc_extern (e := Go.Extern.Atomic.update (Op.intArith .add) .i64 true) Tryz.func96 (by kernel_rfl) (by kernel_rfl) (by rfl) (by rfl)]
 have e : Go.Extern.Atomic.update (Op.intArith .add) .i64 true #[.pointer (some a), .int .i64 d] = (do
   let a ← asAddr (.pointer (some a))
   let old ← Go.Extern.Atomic.read (.int .i64) a
   let new ← Op.intArith .add .i64 (← asInt old) (← asInt (.int .i64 d))
   store a new .atomic
   pure new) := rfl
 rw [e]
 have e2 : ∀ a, Go.Extern.Atomic.read (.int .i64) a = (do
   let v ← load a .atomic
   match Go.Extern.Atomic.T.int .i64, v with
   | .int k, .int k' _ => if k = k' then pure v else unsupported (.unsafePointer "atomic: a cell of another type")
   | .int .u64, .pointer (some _) => pure v
   | .ptr, .pointer _ => pure v
   | _, _ => unsupported (.unsafePointer "atomic: a cell of another type")) := fun a => rfl
 simp [e2, go_sem, h, hf]
 have hw : IntKind.i64.wrap (x + d) = wrap64 (x + d) := by
  unfold wrap64 IntKind.wrap
  simp only [show IntKind.i64.signed = true from rfl, show IntKind.i64.bits = 64 from rfl, Bool.true_and, decide_eq_true_eq, show (2 : Int) ^ 64 = 18446744073709551616 from rfl, show (2 : Int) ^ (64 - 1) = 9223372036854775808 from rfl]
  split <;> omega
 rw [hw]
 exact ⟨rfl, rfl⟩
theorem add_calls (w : World) (g i : Nat) (x d : Int) (h : w.cell? ⟨g, i, none⟩ = some (.int .i64 x)) (hf : w.frozen? ⟨g, i, none⟩ = false) :
  Calls Tryz.prog 79 #[.pointer (some ⟨g, i, none⟩), .int .i64 d] w fun e w' => e = .returned (.int .i64 (wrap64 (x + d))) ∧ w' = w.setCell ⟨g, i, none⟩ (.int .i64 (wrap64 (x + d))) := by
 have ha := add_run w ⟨g, i, none⟩ x d h hf
 go_enter Tryz.func79, Tryz.ntmps79
 go_wp2_with (fail)
 go_ret
 exact ⟨rfl, rfl⟩
theorem sort0_calls (w : World) (g : Nat) (x0 x1 x2 : Int) (A : Option Addr) (n c : Nat) (r : List Int) (hg : w.heap[g]? = some (.cells #[.int .i64 x0, .int .i64 x1, .int .i64 x2] 107 (0, 0)))
  (hS : Calls Tryz.prog 38 #[.slice A n c] w fun e w' => ∃ v, e = .returned (.tuple #[v, .int .i64 0]) ∧ Kd.R (Kd.int .i64) 3 w' w.heap.size (fun _ => True) v r ∧ Below w.heap.size w w') :
  Calls Tryz.prog 60 #[.pointer (some ⟨g, 0, none⟩), .int .i64 0, .slice A n c] w fun e w' => ∃ v, e = .returned (.tuple #[v, .int .i64 0]) ∧ Kd.R (Kd.int .i64) 3 w' w.heap.size (fun _ => True) v r ∧ w.grownBy w' (some g) ∧
   ∃ y0 y1 y2, w'.heap[g]? = some (.cells #[.int .i64 y0, .int .i64 y1, .int .i64 y2] 107 (0, 0)) := by
 have hgl : g < w.heap.size := blk_lt hg
 have HG := Go.Lib.hid hg
 clear hg
 go_enter Tryz.func60, Tryz.ntmps60
 have hix : (Instr.index 127 (.agg #[.func (.func 38) #[] #[], .func (.func 77) #[] #[], .func (.func 78) #[] #[]]) (.int .i64 0)).run Tryz.prog w = .ok (.func (.func 38) #[] #[]) w := rfl
 go_wp2_with (fail)
 (with_reducible refine hS.mono ?_)
 clear hS
 rintro e w1 ⟨v1, rfl, r1, b1⟩
 obtain ⟨A1, c1, rfl⟩ := Kd.R_slice r1
 have hg1 := (b1.block g hgl).trans HG.out
 have cA := add_calls w1 g 0 x0 1 (blk_cell hg1 0) (blk_frozen hg1 0)
 have R1 := Aside0.mk r1
 have B1 := Aside0.mk b1
 have HG1 := Go.Lib.hid hg1
 clear r1 b1 hg1
 go_wp2_with (fail)
 (with_reducible refine cA.mono ?_)
 clear cA
 rintro e w2 ⟨rfl, hw2⟩
 have hg2 : w2.heap[g]? = some (.cells (#[.int .i64 x0, .int .i64 x1, .int .i64 x2].setIfInBounds 0 (.int .i64 (wrap64 (x0 + 1)))) 107 (0, 0)) := by rw [hw2]; exact set_same HG1.out _
 have HG2 := Go.Lib.hid hg2
 have GR : Aside0 (w.grownBy w2 (some g)) := ⟨by rw [hw2]; exact grown_trans (grown_below B1.out (some g)) (set_grown w1 g 0 _) (fun b e => .inr (by rw [e]))⟩
 have RR : Aside0 (Kd.R (Kd.int .i64) 3 w2 w.heap.size (fun _ => True) (.slice A1 r.length c1) r) := ⟨by rw [hw2]; exact Kd.R_step (Kd.R_bound R1.out) (fun k hk _ => Below.heap_setCell w1 ⟨g, 0, none⟩ _ k (by have := hk.2.1; show k ≠ g; omega)) |> fun h => Kd.R_mono h (fun _ _ => trivial)⟩
 clear hw2 hg2
 go_wp2_with (fail)
 go_ret2
 exact ⟨_, rfl, RR.out, GR.out, _, _, _, HG2.out⟩
theorem sort1_calls (w : World) (g : Nat) (x0 x1 x2 : Int) (A : Option Addr) (n c : Nat) (r : List Int) (hg : w.heap[g]? = some (.cells #[.int .i64 x0, .int .i64 x1, .int .i64 x2] 107 (0, 0)))
  (hS : Calls Tryz.prog 77 #[.slice A n c] w fun e w' => ∃ v, e = .returned (.tuple #[v, .int .i64 0]) ∧ Kd.R (Kd.int .i64) 3 w' w.heap.size (fun _ => True) v r ∧ Below w.heap.size w w') :
  Calls Tryz.prog 60 #[.pointer (some ⟨g, 0, none⟩), .int .i64 1, .slice A n c] w fun e w' => ∃ v, e = .returned (.tuple #[v, .int .i64 0]) ∧ Kd.R (Kd.int .i64) 3 w' w.heap.size (fun _ => True) v r ∧ w.grownBy w' (some g) ∧
   ∃ y0 y1 y2, w'.heap[g]? = some (.cells #[.int .i64 y0, .int .i64 y1, .int .i64 y2] 107 (0, 0)) := by
 have hgl : g < w.heap.size := blk_lt hg
 have HG := Go.Lib.hid hg
 clear hg
 go_enter Tryz.func60, Tryz.ntmps60
 have hix : (Instr.index 127 (.agg #[.func (.func 38) #[] #[], .func (.func 77) #[] #[], .func (.func 78) #[] #[]]) (.int .i64 1)).run Tryz.prog w = .ok (.func (.func 77) #[] #[]) w := rfl
 go_wp2_with (fail)
 (with_reducible refine hS.mono ?_)
 clear hS
 rintro e w1 ⟨v1, rfl, r1, b1⟩
 obtain ⟨A1, c1, rfl⟩ := Kd.R_slice r1
 have hg1 := (b1.block g hgl).trans HG.out
 have cA := add_calls w1 g 1 x1 1 (blk_cell hg1 1) (blk_frozen hg1 1)
 have R1 := Aside0.mk r1
 have B1 := Aside0.mk b1
 have HG1 := Go.Lib.hid hg1
 clear r1 b1 hg1
 go_wp2_with (fail)
 (with_reducible refine cA.mono ?_)
 clear cA
 rintro e w2 ⟨rfl, hw2⟩
 have hg2 : w2.heap[g]? = some (.cells (#[.int .i64 x0, .int .i64 x1, .int .i64 x2].setIfInBounds 1 (.int .i64 (wrap64 (x1 + 1)))) 107 (0, 0)) := by rw [hw2]; exact set_same HG1.out _
 have HG2 := Go.Lib.hid hg2
 have GR : Aside0 (w.grownBy w2 (some g)) := ⟨by rw [hw2]; exact grown_trans (grown_below B1.out (some g)) (set_grown w1 g 1 _) (fun b e => .inr (by rw [e]))⟩
 have RR : Aside0 (Kd.R (Kd.int .i64) 3 w2 w.heap.size (fun _ => True) (.slice A1 r.length c1) r) := ⟨by rw [hw2]; exact Kd.R_step (Kd.R_bound R1.out) (fun k hk _ => Below.heap_setCell w1 ⟨g, 1, none⟩ _ k (by have := hk.2.1; show k ≠ g; omega)) |> fun h => Kd.R_mono h (fun _ _ => trivial)⟩
 clear hw2 hg2
 go_wp2_with (fail)
 go_ret2
 exact ⟨_, rfl, RR.out, GR.out, _, _, _, HG2.out⟩
theorem sort2_calls (w : World) (g : Nat) (x0 x1 x2 : Int) (A : Option Addr) (n c : Nat) (r : List Int) (hg : w.heap[g]? = some (.cells #[.int .i64 x0, .int .i64 x1, .int .i64 x2] 107 (0, 0)))
  (hS : Calls Tryz.prog 78 #[.slice A n c] w fun e w' => ∃ v, e = .returned (.tuple #[v, .int .i64 0]) ∧ Kd.R (Kd.int .i64) 3 w' w.heap.size (fun _ => True) v r ∧ Below w.heap.size w w') :
  Calls Tryz.prog 60 #[.pointer (some ⟨g, 0, none⟩), .int .i64 2, .slice A n c] w fun e w' => ∃ v, e = .returned (.tuple #[v, .int .i64 0]) ∧ Kd.R (Kd.int .i64) 3 w' w.heap.size (fun _ => True) v r ∧ w.grownBy w' (some g) ∧
   ∃ y0 y1 y2, w'.heap[g]? = some (.cells #[.int .i64 y0, .int .i64 y1, .int .i64 y2] 107 (0, 0)) := by
 have hgl : g < w.heap.size := blk_lt hg
 have HG := Go.Lib.hid hg
 clear hg
 go_enter Tryz.func60, Tryz.ntmps60
 have hix : (Instr.index 127 (.agg #[.func (.func 38) #[] #[], .func (.func 77) #[] #[], .func (.func 78) #[] #[]]) (.int .i64 2)).run Tryz.prog w = .ok (.func (.func 78) #[] #[]) w := rfl
 go_wp2_with (fail)
 (with_reducible refine hS.mono ?_)
 clear hS
 rintro e w1 ⟨v1, rfl, r1, b1⟩
 obtain ⟨A1, c1, rfl⟩ := Kd.R_slice r1
 have hg1 := (b1.block g hgl).trans HG.out
 have cA := add_calls w1 g 2 x2 1 (blk_cell hg1 2) (blk_frozen hg1 2)
 have R1 := Aside0.mk r1
 have B1 := Aside0.mk b1
 have HG1 := Go.Lib.hid hg1
 clear r1 b1 hg1
 go_wp2_with (fail)
 (with_reducible refine cA.mono ?_)
 clear cA
 rintro e w2 ⟨rfl, hw2⟩
 have hg2 : w2.heap[g]? = some (.cells (#[.int .i64 x0, .int .i64 x1, .int .i64 x2].setIfInBounds 2 (.int .i64 (wrap64 (x2 + 1)))) 107 (0, 0)) := by rw [hw2]; exact set_same HG1.out _
 have HG2 := Go.Lib.hid hg2
 have GR : Aside0 (w.grownBy w2 (some g)) := ⟨by rw [hw2]; exact grown_trans (grown_below B1.out (some g)) (set_grown w1 g 2 _) (fun b e => .inr (by rw [e]))⟩
 have RR : Aside0 (Kd.R (Kd.int .i64) 3 w2 w.heap.size (fun _ => True) (.slice A1 r.length c1) r) := ⟨by rw [hw2]; exact Kd.R_step (Kd.R_bound R1.out) (fun k hk _ => Below.heap_setCell w1 ⟨g, 2, none⟩ _ k (by have := hk.2.1; show k ≠ g; omega)) |> fun h => Kd.R_mono h (fun _ _ => trivial)⟩
 clear hw2 hg2
 go_wp2_with (fail)
 go_ret2
 exact ⟨_, rfl, RR.out, GR.out, _, _, _, HG2.out⟩
end Go.Proofs.YtbbpplnnegdenaaGreat.Cr
end
section
namespace Go.Proofs.YtbbpplnnegdenaaGreat.Rn
open Go Go.RowKit Go.Shelf Go.Proofs Go.Proofs.YtbbpplnnegdenaaGreatW.PrintWords Go.Proofs.YtbbpplnnegdenaaGreat.So Go.Proofs.YtbbpplnnegdenaaGreat.St Go.Proofs.YtbbpplnnegdenaaGreat.Cr
abbrev SortsTo (F : Nat) (s r : List Int) : Prop := ∀ W A c, s.length ≤ c → Kd.C (Kd.int .u8) W A s.length s → Calls Tryz.prog F #[.slice A s.length c] W fun e W' => ∃ v, e = .returned (.tuple #[v, .int .i64 0]) ∧ Kd.R (Kd.int .i64) 3 W' W.heap.size (fun _ => True) v r ∧ Below W.heap.size W W'
abbrev LcpTo (F : Nat) (s r x : List Int) : Prop := ∀ W A c B d, s.length ≤ c → r.length ≤ d → Kd.C (Kd.int .u8) W A s.length s → Kd.C (Kd.int .i64) W B r.length r → Calls Tryz.prog F #[.slice A s.length c, .slice B r.length d] W fun e W' => ∃ v b, e = .returned (.tuple #[v, .bool b]) ∧ Kd.R (Kd.int .i64) 3 W' W.heap.size (fun _ => True) v x ∧ Below W.heap.size W W'
abbrev SameTo (r : List Int) : Prop := ∀ W A c B d, r.length ≤ c → r.length ≤ d → Kd.C (Kd.int .i64) W A r.length r → Kd.C (Kd.int .i64) W B r.length r → Calls Tryz.prog 63 #[.slice A r.length c, .slice B r.length d] W fun e W' => e = .returned (.bool true) ∧ Drawn0 W W'
theorem load38 (W : World) (b : Nat) (x y z : Value) (h0 : W.cell? ⟨b, 0, none⟩ = some x) (h1 : W.cell? ⟨b, 1, none⟩ = some y) (h2 : W.cell? ⟨b, 2, none⟩ = some z) : (loadVar 62 ⟨b, 0, none⟩).run Tryz.prog W = .ok (.agg #[x, y, z]) W := by
 go_simp
theorem results_cell {P : Program} {fn : Func} {a u : Tmp} {T : TypeId} {w : World} {v : Value} {ad : Addr} (h : fn.results = #[.cell a T, .tmp u]) (tmps : Array Value) (ha : tmps.getD a undef = .pointer (some ad)) (hl : (loadVar T ad).run P w = .ok v w) :
  (results fn tmps).run P w = .ok (.tuple #[v, tmps.getD u undef]) w := by
 have ha' : tmps[a]?.getD undef = .pointer (some ad) := by simpa using ha
 simp [results, h, ha', hl, asAddr]
structure RI (w : World) (g i : Nat) (r : List Int) (W : World) : Prop where
 gr : w.grownBy W (some g)
 sz : w.heap.size + 2 ≤ W.heap.size
 cg : ∃ y0 y1 y2, W.heap[g]? = some (.cells #[.int .i64 y0, .int .i64 y1, .int .i64 y2] 107 (0, 0))
 res : W.heap[w.heap.size]? = some (.cells #[.slice none 0 0, .slice none 0 0, .bool false] 62 (0, 0))
 l : ∃ v0 v1 v2, W.heap[w.heap.size + 1]? = some (.cells #[v0, v1, v2] 108 (0, 0)) ∧ (0 < i → Kd.R (Kd.int .i64) 3 W (w.heap.size + 2) (fun k => w.heap.size + 2 ≤ k) v0 r) ∧ (1 < i → Kd.R (Kd.int .i64) 3 W (w.heap.size + 2) (fun k => w.heap.size + 2 ≤ k) v1 r) ∧ (2 < i → Kd.R (Kd.int .i64) 3 W (w.heap.size + 2) (fun k => w.heap.size + 2 ≤ k) v2 r)
theorem run_calls (w : World) (g : Nat) (x0 x1 x2 : Int) (A : Option Addr) (c : Nat) (s r x : List Int) (hg : w.heap[g]? = some (.cells #[.int .i64 x0, .int .i64 x1, .int .i64 x2] 107 (0, 0)))
  (hs : Kd.C (Kd.int .u8) w A s.length s) (hsc : s.length ≤ c) (hAg : ∀ ad, A = some ad → ad.block ≠ g)
  (h4 : SortsTo 38 s r) (h5 : SortsTo 77 s r) (h6 : SortsTo 78 s r) (h23 : LcpTo 61 s r x) (h24 : LcpTo 62 s r x) (hr : SameTo r) (hx : SameTo x)
  (h26 : ∀ W A c B d C e, s.length ≤ c → r.length ≤ d → x.length ≤ e → Kd.C (Kd.int .u8) W A s.length s → Kd.C (Kd.int .i64) W B r.length r → Kd.C (Kd.int .i64) W C x.length x → Calls Tryz.prog 64 #[.slice A s.length c, .slice B r.length d, .slice C x.length e] W fun e W' => e = .returned (.bool true) ∧ Below W.heap.size W W') :
  Calls Tryz.prog 31 #[.pointer (some ⟨g, 0, none⟩), .slice A s.length c] w fun e w' => ∃ v Au nu cu, e = .returned (.tuple #[.agg #[v, .slice Au nu cu, .bool true], .int .i64 0]) ∧ Kd.R (Kd.int .i64) 3 w' w.heap.size (fun _ => True) v r ∧ w.grownBy w' (some g) := by
 go_enter Tryz.func31, Tryz.ntmps31
 go_wp2_with (fail)
 have hgl : g < w.heap.size := blk_lt hg
 obtain ⟨W0, hW0⟩ : ∃ W0, (w.alloc (.cells #[.slice none 0 0, .slice none 0 0, .bool false] 62)).alloc (.cells #[.slice none 0 0, .slice none 0 0, .slice none 0 0] 108) = W0 := ⟨_, rfl⟩
 have I0 : RI w g 0 r W0 := by
  have hb : Below w.heap.size w W0 := by rw [← hW0]; exact (((Below.refl _ w).alloc (Nat.le_refl _) _).alloc (by simp) _)
  refine ⟨grown_below hb _, by rw [← hW0]; simp, ⟨_, _, _, (hb.block g hgl).trans hg⟩, ?_, ⟨.slice none 0 0, .slice none 0 0, .slice none 0 0, ?_, by omega, by omega, by omega⟩⟩
  ·rw [← hW0]; exact (Below.heap_alloc _ _ _ (by simp)).trans (World.alloc_heap_new w _)
  ·rw [← hW0]; have := World.alloc_heap_new (w.alloc (.cells #[.slice none 0 0, .slice none 0 0, .bool false] 62)) (.cells #[.slice none 0 0, .slice none 0 0, .slice none 0 0] 108); rwa [World.size_alloc] at this
 rw [hW0]
 have HS := Aside0.mk hs
 have II := Aside0.mk I0
 clear hg hs I0 hW0
 go_loopw [15] (fun v15 wr => ∃ i : Nat, v15 = .int .i64 i ∧ Aside0 (i ≤ 3) ∧ Aside0 (RI w g i r wr)) (fun v15 _ => 3 - (intOf v15).toNat)
 case atStart => exact ⟨0, rfl, ⟨by omega⟩, II⟩
 case round =>
  obtain ⟨i, rfl, hi, hI⟩ := hrel
  obtain ⟨gr, sz, ⟨y0, y1, y2, cg⟩, res, ⟨v0, v1, v2, hl, q0, q1, q2⟩⟩ := hI.out
  have hsW : Kd.C (Kd.int .u8) wr A s.length s := Kd.C_foot_ne (g := g) (fun h => h) HS.out (fun ad e _ => hAg ad e) wr ⟨gr.size, fun k hk hne _ => gr.block k hk (fun e => hne (by cases e; rfl))⟩
  have hi3 : i = 0 ∨ i = 1 ∨ i = 2 ∨ i = 3 := by have := hi.out; omega
  rcases hi3 with rfl | rfl | rfl | rfl
  ·have cS := sort0_calls wr g y0 y1 y2 A s.length c r cg (h4 wr A c hsc hsW)
   have HG := Go.Lib.hid hl
   have HI := Aside0.mk (show w.grownBy wr (some g) from gr)
   have HRES := Go.Lib.hid res
   have HQ0 := Aside0.mk q0
   have HQ1 := Aside0.mk q1
   have HQ2 := Aside0.mk q2
   clear gr cg res hl q0 q1 q2 hsW hI II
   go_wp2_with (fail)
   (with_reducible refine cS.mono ?_)
   clear cS
   rintro e w2 ⟨v, rfl, rv, gv, ⟨z0, z1, z2, hc⟩⟩
   obtain ⟨Av, cv, rfl⟩ := Kd.R_slice rv
   have hl2 := (gv.block (w.heap.size + 1) (by omega) (fun e => by cases e; omega)).trans HG.out
   have hr2 := (gv.block w.heap.size (by omega) (fun e => by cases e; omega)).trans HRES.out
   have hlc := blk_cell hl2 0
   have hlf := blk_frozen hl2 0
   have nI : Aside0 (RI w g 1 r (w2.setCell ⟨w.heap.size + 1, 0, none⟩ (.slice Av r.length cv))) := by
    refine ⟨⟨?_, ?_, ⟨z0, z1, z2, ?_⟩, ?_, ⟨.slice Av r.length cv, v1, v2, set_same hl2 _, ?_, ?_, ?_⟩⟩⟩
    ·exact grown_trans (grown_trans HI.out gv (fun b e => .inr (by rw [e]))) (set_grown w2 (w.heap.size + 1) 0 _) (fun b e => .inl (by cases e; omega))
    ·have := gv.size; have := (set_grown w2 (w.heap.size + 1) 0 (.slice Av r.length cv)).size; omega
    ·exact blk_far hc (by show g ≠ w.heap.size + 1; omega) _
    ·exact blk_far hr2 (by show w.heap.size ≠ w.heap.size + 1; omega) _
    ·exact fun _ => Kd.R_far (p := ⟨w.heap.size + 1, 0, none⟩) (Kd.R_mono (Kd.R_lower (Kd.R_bound rv) sz) (fun q hq => by have := hq.2.1; omega)) (fun q hq => by show q ≠ w.heap.size + 1; omega) _
    ·exact fun h => absurd h (by omega)
    ·exact fun h => absurd h (by omega)
   clear hl2 hr2 hc gv rv
   go_wp2_with (fail)
   go_roundw
   case rel => exact ⟨1, by go_num, ⟨by omega⟩, nI⟩
   case measure => simp [intOf]
  ·have cS := sort1_calls wr g y0 y1 y2 A s.length c r cg (h5 wr A c hsc hsW)
   have HG := Go.Lib.hid hl
   have HI := Aside0.mk (show w.grownBy wr (some g) from gr)
   have HRES := Go.Lib.hid res
   have HQ0 := Aside0.mk q0
   have HQ1 := Aside0.mk q1
   have HQ2 := Aside0.mk q2
   clear gr cg res hl q0 q1 q2 hsW hI II
   go_wp2_with (fail)
   (with_reducible refine cS.mono ?_)
   clear cS
   rintro e w2 ⟨v, rfl, rv, gv, ⟨z0, z1, z2, hc⟩⟩
   obtain ⟨Av, cv, rfl⟩ := Kd.R_slice rv
   have hl2 := (gv.block (w.heap.size + 1) (by omega) (fun e => by cases e; omega)).trans HG.out
   have hr2 := (gv.block w.heap.size (by omega) (fun e => by cases e; omega)).trans HRES.out
   have hlc := blk_cell hl2 1
   have hlf := blk_frozen hl2 1
   have nI : Aside0 (RI w g 2 r (w2.setCell ⟨w.heap.size + 1, 1, none⟩ (.slice Av r.length cv))) := by
    refine ⟨⟨?_, ?_, ⟨z0, z1, z2, ?_⟩, ?_, ⟨v0, .slice Av r.length cv, v2, set_same hl2 _, ?_, ?_, ?_⟩⟩⟩
    ·exact grown_trans (grown_trans HI.out gv (fun b e => .inr (by rw [e]))) (set_grown w2 (w.heap.size + 1) 1 _) (fun b e => .inl (by cases e; omega))
    ·have := gv.size; have := (set_grown w2 (w.heap.size + 1) 1 (.slice Av r.length cv)).size; omega
    ·exact blk_far hc (by show g ≠ w.heap.size + 1; omega) _
    ·exact blk_far hr2 (by show w.heap.size ≠ w.heap.size + 1; omega) _
    ·exact fun _ => Kd.R_far (p := ⟨w.heap.size + 1, 1, none⟩) (Kd.R_grown (HQ0.out (by omega)) gv (fun q hq e => by cases e; omega)) (fun q hq => by show q ≠ w.heap.size + 1; omega) _
    ·exact fun _ => Kd.R_far (p := ⟨w.heap.size + 1, 1, none⟩) (Kd.R_mono (Kd.R_lower (Kd.R_bound rv) sz) (fun q hq => by have := hq.2.1; omega)) (fun q hq => by show q ≠ w.heap.size + 1; omega) _
    ·exact fun h => absurd h (by omega)
   clear hl2 hr2 hc gv rv
   go_wp2_with (fail)
   go_roundw
   case rel => exact ⟨2, by go_num, ⟨by omega⟩, nI⟩
   case measure => simp [intOf]
  ·have cS := sort2_calls wr g y0 y1 y2 A s.length c r cg (h6 wr A c hsc hsW)
   have HG := Go.Lib.hid hl
   have HI := Aside0.mk (show w.grownBy wr (some g) from gr)
   have HRES := Go.Lib.hid res
   have HQ0 := Aside0.mk q0
   have HQ1 := Aside0.mk q1
   have HQ2 := Aside0.mk q2
   clear gr cg res hl q0 q1 q2 hsW hI II
   go_wp2_with (fail)
   (with_reducible refine cS.mono ?_)
   clear cS
   rintro e w2 ⟨v, rfl, rv, gv, ⟨z0, z1, z2, hc⟩⟩
   obtain ⟨Av, cv, rfl⟩ := Kd.R_slice rv
   have hl2 := (gv.block (w.heap.size + 1) (by omega) (fun e => by cases e; omega)).trans HG.out
   have hr2 := (gv.block w.heap.size (by omega) (fun e => by cases e; omega)).trans HRES.out
   have hlc := blk_cell hl2 2
   have hlf := blk_frozen hl2 2
   have nI : Aside0 (RI w g 3 r (w2.setCell ⟨w.heap.size + 1, 2, none⟩ (.slice Av r.length cv))) := by
    refine ⟨⟨?_, ?_, ⟨z0, z1, z2, ?_⟩, ?_, ⟨v0, v1, .slice Av r.length cv, set_same hl2 _, ?_, ?_, ?_⟩⟩⟩
    ·exact grown_trans (grown_trans HI.out gv (fun b e => .inr (by rw [e]))) (set_grown w2 (w.heap.size + 1) 2 _) (fun b e => .inl (by cases e; omega))
    ·have := gv.size; have := (set_grown w2 (w.heap.size + 1) 2 (.slice Av r.length cv)).size; omega
    ·exact blk_far hc (by show g ≠ w.heap.size + 1; omega) _
    ·exact blk_far hr2 (by show w.heap.size ≠ w.heap.size + 1; omega) _
    ·exact fun _ => Kd.R_far (p := ⟨w.heap.size + 1, 2, none⟩) (Kd.R_grown (HQ0.out (by omega)) gv (fun q hq e => by cases e; omega)) (fun q hq => by show q ≠ w.heap.size + 1; omega) _
    ·exact fun _ => Kd.R_far (p := ⟨w.heap.size + 1, 2, none⟩) (Kd.R_grown (HQ1.out (by omega)) gv (fun q hq e => by cases e; omega)) (fun q hq => by show q ≠ w.heap.size + 1; omega) _
    ·exact fun _ => Kd.R_far (p := ⟨w.heap.size + 1, 2, none⟩) (Kd.R_mono (Kd.R_lower (Kd.R_bound rv) sz) (fun q hq => by have := hq.2.1; omega)) (fun q hq => by show q ≠ w.heap.size + 1; omega) _
   clear hl2 hr2 hc gv rv
   go_wp2_with (fail)
   go_roundw
   case rel => exact ⟨3, by go_num, ⟨by omega⟩, nI⟩
   case measure => simp [intOf]
  ·have Q0 := q0 (by omega)
   have Q1 := q1 (by omega)
   have Q2 := q2 (by omega)
   obtain ⟨A0, c0, rfl, hc0, C0⟩ := Kd.R_reads Q0
   obtain ⟨A1, c1, rfl, hc1, C1⟩ := Kd.R_reads Q1
   obtain ⟨A2, c2, rfl, hc2, C2⟩ := Kd.R_reads Q2
   have hlc := blk_cell hl 0
   have cK := h23 wr A c A0 c0 hsc hc0 hsW C0
   have HG := Go.Lib.hid hl
   have HRES := Go.Lib.hid res
   have HC0 := Aside0.mk C0
   have HC1 := Aside0.mk C1
   have HC2 := Aside0.mk C2
   have HSW := Aside0.mk hsW
   have HQ0 := Aside0.mk Q0
   have HGR := Aside0.mk (show w.grownBy wr (some g) from gr)
   clear gr cg res hl q0 q1 q2 hsW hI II Q0 Q1 Q2 C0 C1 C2
   go_wp2_with (fail)
   (with_reducible refine cK.mono ?_)
   clear cK
   rintro e w3 ⟨v3, b3, rfl, r3, k3⟩
   obtain ⟨A3, c3, rfl, hc3, C3⟩ := Kd.R_reads r3
   have hl3 := (k3.block (w.heap.size + 1) (by omega)).trans HG.out
   have hlc3 := blk_cell hl3 0
   have cP := h24 w3 A c A0 c0 hsc hc0 (Kd.C_below HSW.out k3) (Kd.C_below HC0.out k3)
   have K3 := Aside0.mk k3
   have CC3 := Aside0.mk C3
   clear hl3 k3 C3 r3 hlc
   go_wp2_with (fail)
   (with_reducible refine cP.mono ?_)
   clear cP
   rintro e w4 ⟨v4, b4, rfl, r4, k4⟩
   obtain ⟨A4, c4, rfl, hc4, C4⟩ := Kd.R_reads r4
   have K4 := Aside0.mk (K3.out.trans (k4.mono K3.out.size))
   have hl4 := (K4.out.block (w.heap.size + 1) (by omega)).trans HG.out
   have hlc40 := blk_cell hl4 0
   have hlc41 := blk_cell hl4 1
   have hlc42 := blk_cell hl4 2
   have cE := hr w4 A0 c0 A1 c1 hc0 hc1 (Kd.C_below HC0.out K4.out) (Kd.C_below HC1.out K4.out)
   have CC4 := Aside0.mk C4
   have CC34 := Aside0.mk (Kd.C_below CC3.out k4)
   clear hl4 k4 C4 r4 hlc3
   go_wp2_with (fail)
   (with_reducible refine cE.mono ?_)
   clear cE
   rintro e w5 ⟨rfl, ⟨m5, rfl⟩⟩
   have hE5 := hr (w4.drewN m5) A0 c0 A2 c2 hc0 hc2 (Kd.C_drewN (Kd.C_below HC0.out K4.out) m5) (Kd.C_drewN (Kd.C_below HC2.out K4.out) m5)
   have K5 := Aside0.mk (show Below wr.heap.size wr (w4.drewN m5) from pw_below_drewN K4.out m5)
   have C5a := Aside0.mk (Kd.C_drewN CC34.out m5)
   have C5b := Aside0.mk (Kd.C_drewN CC4.out m5)
   generalize w4.drewN m5 = w5 at *
   have hl5 := (K5.out.block (w.heap.size + 1) (by omega)).trans HG.out
   have hlc50 := blk_cell hl5 0
   have hlc52 := blk_cell hl5 2
   clear hl5 hlc40 hlc41 hlc42
   go_wp2_with (fail)
   (with_reducible refine hE5.mono ?_)
   clear hE5
   rintro e w6 ⟨rfl, ⟨m6, rfl⟩⟩
   have hE6 := hx (w5.drewN m6) A3 c3 A4 c4 hc3 hc4 (Kd.C_drewN C5a.out m6) (Kd.C_drewN C5b.out m6)
   have K6 := Aside0.mk (show Below wr.heap.size wr (w5.drewN m6) from pw_below_drewN K5.out m6)
   have C6a := Aside0.mk (Kd.C_drewN C5a.out m6)
   generalize w5.drewN m6 = w6 at *
   clear hlc50 hlc52
   go_wp2_with (fail)
   (with_reducible refine hE6.mono ?_)
   clear hE6
   rintro e w7 ⟨rfl, ⟨m7, rfl⟩⟩
   have HSW7 := Aside0.mk (Kd.C_drewN (Kd.C_below HSW.out K6.out) m7)
   have HC07 := Aside0.mk (Kd.C_drewN (Kd.C_below HC0.out K6.out) m7)
   have C7a := Aside0.mk (Kd.C_drewN C6a.out m7)
   have K7 := Aside0.mk (show Below wr.heap.size wr (w6.drewN m7) from pw_below_drewN K6.out m7)
   generalize w6.drewN m7 = w7 at *
   have hl7 := (K7.out.block (w.heap.size + 1) (by omega)).trans HG.out
   have hlc7 := blk_cell hl7 0
   have hr7 := (K7.out.block w.heap.size (by omega)).trans HRES.out
   have HL7 := Go.Lib.hid hl7
   have HR7 := Go.Lib.hid hr7
   have H26 := Aside0.mk h26
   clear hl7 hr7 h26
   go_upto_region 13 with (fail)
   have cC := Aside0.mk (H26.out w7.drew A c A0 c0 A3 c3 hsc hc0 hc3 (Kd.C_drew HSW7.out) (Kd.C_drew HC07.out) (Kd.C_drew C7a.out))
   have KK := Aside0.mk (show ∀ w8, Below w7.drew.heap.size w7.drew w8 → Below w7.heap.size w7 w8 from fun w8 h => (below_drew1 (Below.refl _ w7)).trans (h.mono (by simp)))
   go_region_with (go_at_call 64; go_loud (with_reducible refine cC.out.mono ?_; rintro e w8 ⟨rfl, k80⟩; have k8 := KK.out _ k80; clear k80; have hsz7 : w.heap.size + 1 < w7.heap.size := (by have := K7.out.size; omega); have hlc8 := blk_cell ((k8.block (w.heap.size + 1) hsz7).trans HL7.out) 0; have hr8 := (k8.block w.heap.size (show w.heap.size < w7.heap.size by omega)).trans HR7.out; have hrc0 := blk_cell hr8 0; have hrc1 := blk_cell hr8 1; have hrc2 := blk_cell hr8 2; have hrf0 := blk_frozen hr8 0; have hrf1 := blk_frozen hr8 1; have hrf2 := blk_frozen hr8 2; have HR8 := Go.Lib.hid hr8; have K8 := Aside0.mk k8; clear hr8 k8 hsz7))
   all_goals go_wp2_with (fail)
   all_goals (refine bodyPost_ret (results_cell (ad := ⟨w.heap.size, 0, none⟩) (v := .agg #[.slice A0 r.length c0, .slice A3 x.length c3, .bool true]) rfl _ rfl (load38 _ _ _ _ _ (by go_simp) (by go_simp) (by go_simp))) rfl ?_)
   all_goals (refine ⟨_, _, _, _, rfl, ?_, grown_trans (grown_trans (grown_trans (grown_trans HGR.out (grown_below (K7.out.trans (K8.out.mono K7.out.size)) none) (fun b e => by cases e)) (set_grown _ w.heap.size 0 _) (fun b e => .inl (by cases e; omega))) (set_grown _ w.heap.size 1 _) (fun b e => .inl (by cases e; omega))) (set_grown _ w.heap.size 2 _) (fun b e => .inl (by cases e; omega))⟩)
   all_goals (have QR := Kd.R_lower (base' := w.heap.size) (Kd.R_below HQ0.out (K7.out.trans (K8.out.mono K7.out.size))) (by omega))
   all_goals exact Kd.R_mono (Kd.R_far (p := ⟨w.heap.size, 2, none⟩) (Kd.R_far (p := ⟨w.heap.size, 1, none⟩) (Kd.R_far (p := ⟨w.heap.size, 0, none⟩) QR (fun q hq => by show q ≠ w.heap.size; omega) _) (fun q hq => by show q ≠ w.heap.size; omega) _) (fun q hq => by show q ≠ w.heap.size; omega) _) (fun _ _ => trivial)
end Go.Proofs.YtbbpplnnegdenaaGreat.Rn
end
section
namespace Go.Proofs.YtbbpplnnegdenaaGreat.Mo
open Go Go.RowKit Go.Shelf Go.Proofs Go.Proofs.YtbbpplnnegdenaaGreatW.PrintWords Go.Proofs.YtbbpplnnegdenaaGreat.So Go.Proofs.YtbbpplnnegdenaaGreat.St
abbrev IRow (W : World) (b : Nat) (k : IntKind) (t : TypeId) (xs : List Int) : Prop := W.heap[b]? = some (.cells (xs.map (Value.int k)).toArray t (0, 0))
theorem IRow.cell {W : World} {b : Nat} {k : IntKind} {t : TypeId} {xs : List Int} (h : IRow W b k t xs) {i : Nat} (hi : i < xs.length) : W.cell? ⟨b, i, none⟩ = some (.int k (xs.getD i 0)) := by
 rw [blk_cell h i]
 simp [List.getD_eq_getElem?_getD, List.getElem?_eq_getElem hi]
theorem IRow.frozen {W : World} {b : Nat} {k : IntKind} {t : TypeId} {xs : List Int} (h : IRow W b k t xs) (i : Nat) : W.frozen? ⟨b, i, none⟩ = false := blk_frozen h i
theorem IRow.set {W : World} {b : Nat} {k : IntKind} {t : TypeId} {xs : List Int} (h : IRow W b k t xs) (i : Nat) (v : Int) : IRow (W.setCell ⟨b, i, none⟩ (.int k v)) b k t (xs.set i v) := by
 show (W.setCell ⟨b, i, none⟩ (.int k v)).heap[b]? = _
 have h' : W.heap[b]? = some (.cells (xs.map (Value.int k)).toArray t (0, 0)) := h
 simp [World.setCell, Array.getElem?_modify, h']
theorem IRow.far {W : World} {b : Nat} {k : IntKind} {t : TypeId} {xs : List Int} (h : IRow W b k t xs) {p : Addr} (hp : b ≠ p.block) (v : Value) : IRow (W.setCell p v) b k t xs := blk_far h hp v
structure Mdl (W : World) (g b : Nat) (cs : List Int) (tot : Int) : Prop where
 G : W.heap[g]? = some (.cells #[.slice (some ⟨b, 0, none⟩) cs.length cs.length, .int .i64 tot] 92 (0, 0))
 R : IRow W b .i64 3 cs
 ne : g ≠ b
structure Keep (ks : List Nat) (W W' : World) : Prop where
 os : W'.os = W.os
 tape : W'.tape = W.tape
 output : W'.output = W.output
 size : W.heap.size ≤ W'.heap.size
 block : ∀ k, k < W.heap.size → k ∉ ks → W'.heap[k]? = W.heap[k]?
theorem Keep.refl (ks : List Nat) (W : World) : Keep ks W W := ⟨rfl, rfl, rfl, Nat.le_refl _, fun _ _ _ => rfl⟩
theorem Keep.trans {ks : List Nat} {A B C : World} (h : Keep ks A B) (k : Keep ks B C) : Keep ks A C :=
 ⟨k.os.trans h.os, k.tape.trans h.tape, k.output.trans h.output, Nat.le_trans h.size k.size, fun x hx hn => (k.block x (Nat.lt_of_lt_of_le hx h.size) hn).trans (h.block x hx hn)⟩
theorem Keep.mono {ks ls : List Nat} {A B : World} (h : Keep ks A B) (hk : ∀ x ∈ ks, x ∈ ls) : Keep ls A B := ⟨h.os, h.tape, h.output, h.size, fun x hx hn => h.block x hx (fun k => hn (hk x k))⟩
theorem Keep.set {ks : List Nat} (W : World) {p : Addr} (hp : p.block ∈ ks) (v : Value) : Keep ks W (W.setCell p v) :=
 ⟨rfl, rfl, rfl, by simp [World.setCell], fun k _ hn => Below.heap_setCell _ _ _ _ (fun e => hn (by rw [e]; exact hp))⟩
theorem Keep.drew (ks : List Nat) (W : World) : Keep ks W W.drew := ⟨rfl, rfl, rfl, Nat.le_refl _, fun _ _ _ => rfl⟩
theorem Keep.drewN (ks : List Nat) (W : World) (n : Nat) : Keep ks W (W.drewN n) := ⟨rfl, rfl, rfl, Nat.le_refl _, fun _ _ _ => rfl⟩
theorem Keep.below {W W' : World} (h : Below W.heap.size W W') (ks : List Nat) : Keep ks W W' := ⟨h.os, h.tape, h.output, h.size, fun k hk _ => h.block k hk⟩
theorem Keep.toBelow {W W' : World} {n : Nat} {ks : List Nat} (h : Keep ks W W') (hn : n ≤ W.heap.size) (hk : ∀ k ∈ ks, n ≤ k) : Below n W W' :=
 ⟨h.os, h.tape, h.output, h.size, fun k hlt => h.block k (Nat.lt_of_lt_of_le hlt hn) (fun hm => by have := hk k hm; omega)⟩
theorem Mdl.keep {W W' : World} {g b : Nat} {cs : List Int} {tot : Int} (h : Mdl W g b cs tot) {ks : List Nat} (hk : Keep ks W W') (hg : g ∉ ks) (hb : b ∉ ks) : Mdl W' g b cs tot :=
 ⟨(hk.block g (blk_lt h.G) hg).trans h.G, (hk.block b (blk_lt h.R) hb).trans h.R, h.ne⟩
theorem Mdl.setCount {W : World} {g b : Nat} {cs : List Int} {tot : Int} (h : Mdl W g b cs tot) (i : Nat) (v : Int) : Mdl (W.setCell ⟨b, i, none⟩ (.int .i64 v)) g b (cs.set i v) tot :=
 ⟨by rw [List.length_set]; exact blk_far h.G h.ne _, h.R.set i v, h.ne⟩
def mixL (f : Int → Int) (xs : List Int) (i : Nat) : List Int := (xs.take i).map f ++ xs.drop i
theorem mix_length (f : Int → Int) (xs : List Int) (i : Nat) : (mixL f xs i).length = xs.length := by
 unfold mixL; rw [List.length_append, List.length_map, List.length_take, List.length_drop]; omega
theorem mix_set {f : Int → Int} {xs : List Int} {i : Nat} (h : i < xs.length) : (mixL f xs i).set i (f (xs.getD i 0)) = mixL f xs (i + 1) := by
 unfold mixL
 have hl : ((xs.take i).map f).length = i := by rw [List.length_map, List.length_take]; omega
 rw [List.set_append_right _ _ (by omega), hl, Nat.sub_self, List.drop_eq_getElem_cons h, List.set_cons_zero, List.take_succ_eq_append_getElem h, List.map_append, List.append_assoc]
 simp [List.getD_eq_getElem?_getD, List.getElem?_eq_getElem h]
theorem mix_all (f : Int → Int) (xs : List Int) : mixL f xs xs.length = xs.map f := by unfold mixL; simp
theorem mix_zero (f : Int → Int) (xs : List Int) : mixL f xs 0 = xs := by unfold mixL; simp
def hf (n : Int) : Int := (n + 1) / 2
theorem info3 : (Tryz.prog.info? 3).map (fun i => (i.zero, i.size, i.bytes)) = some (some (.int .i64 0), 1, 8) := by kernel_rfl
theorem new_calls (W : World) (n : Nat) (h1 : 1 ≤ n) (h2 : n ≤ 1000) :
  Calls Tryz.prog 45 #[.int .i64 n] W fun e W' => ∃ g b, e = .returned (.pointer (some ⟨g, 0, none⟩)) ∧ Mdl W' g b (List.replicate n 1) n ∧ W.heap.size ≤ g ∧ W.heap.size ≤ b ∧ Keep [] W W' := by
 obtain ⟨W1, hmk, hrow, hb⟩ := Re.made W n (by omega)
 have HROW := Go.Lib.hid hrow
 have HB := Aside0.mk hb
 clear hrow hb
 go_enter Tryz.func45, Tryz.ntmps45
 go_wp2_with (fail)
 have hgl : W.heap.size < W1.heap.size := blk_lt HROW.out
 have M0 : Aside0 (Mdl (W1.alloc (.cells #[.slice (some ⟨W.heap.size, 0, none⟩) n n, .int .i64 n] 92)) W1.heap.size W.heap.size (mixL (fun _ => 1) (List.replicate n 0) 0) n) := ⟨by
  rw [mix_zero]
  refine ⟨by rw [List.length_replicate]; exact World.alloc_heap_new W1 _, ?_, by omega⟩
  show (W1.alloc _).heap[W.heap.size]? = _
  rw [Below.heap_alloc _ _ _ hgl, HROW.out]
  simp [Re.fill]⟩
 have K0 : Aside0 (Keep [] W (W1.alloc (.cells #[.slice (some ⟨W.heap.size, 0, none⟩) n n, .int .i64 n] 92))) := ⟨Keep.below (HB.out.trans ((Below.refl _ W1).alloc HB.out.size _)) []⟩
 obtain ⟨w2, hw2⟩ : ∃ w2, W1.alloc (.cells #[.slice (some ⟨W.heap.size, 0, none⟩) n n, .int .i64 n] 92) = w2 := ⟨_, rfl⟩
 rw [hw2] at M0 K0 ⊢
 obtain ⟨g, hg⟩ : ∃ g, W1.heap.size = g := ⟨_, rfl⟩
 rw [hg] at M0 hgl ⊢
 have HG0 := Aside0.mk hgl
 clear hw2 hg hgl HROW HB hmk
 go_loopw [21] (fun v21 wr => ∃ i : Nat, v21 = .int .i64 i ∧ Aside0 (i ≤ n) ∧ Aside0 (Mdl wr g W.heap.size (mixL (fun _ => 1) (List.replicate n 0) i) n) ∧ Aside0 (Keep [] W wr)) (fun v21 _ => n - (intOf v21).toNat)
 case atStart => exact ⟨0, rfl, ⟨by omega⟩, M0, K0⟩
 case round =>
  obtain ⟨i, rfl, hi, hM, hK⟩ := hrel
  have hile := hi.out
  have hml : (mixL (fun _ => 1) (List.replicate n (0 : Int)) i).length = n := by rw [mix_length, List.length_replicate]
  have d0 : wr.cell? ⟨g, 0, none⟩ = some (.slice (some ⟨W.heap.size, 0, none⟩) n n) := by rw [← hml]; exact blk_cell hM.out.G 0
  have HML := Go.Lib.hid hml
  clear hml
  by_cases hlt : i < n
  ·have cJ := IRow.cell hM.out.R (i := i) (by rw [HML.out]; exact hlt)
   have fJ := IRow.frozen hM.out.R i
   have hms := mix_set (f := fun _ => 1) (xs := List.replicate n (0 : Int)) (i := i) (by rw [List.length_replicate]; exact hlt)
   obtain ⟨y, hye⟩ : ∃ y, (mixL (fun _ => 1) (List.replicate n (0 : Int)) i).getD i 0 = y := ⟨_, rfl⟩
   rw [hye] at cJ
   have HMS := Aside0.mk hms
   clear hms hye
   go_wp2_with (fail)
   go_roundw
   case rel =>
    refine ⟨i + 1, by go_num, ⟨by omega⟩, ⟨?_⟩, ⟨?_⟩⟩
    ·have m1 := hM.out.setCount i 1
     rw [HMS.out] at m1
     exact m1
    ·have k1 := hK.out
     exact ⟨k1.os, k1.tape, k1.output, by have := k1.size; simpa [World.setCell] using this, fun k hk hn => (Below.heap_setCell _ _ _ _ (by show k ≠ W.heap.size; omega)).trans (k1.block k hk hn)⟩
   case measure => simp [intOf]; omega
  ·obtain rfl : i = n := by omega
   go_wp2_with (fail)
   go_ret
   refine ⟨g, W.heap.size, rfl, ?_, ?_, Nat.le_refl _, hK.out⟩
   ·have h1 := hM.out
    have e : mixL (fun _ => 1) (List.replicate i (0 : Int)) i = List.replicate i 1 := by
     have := mix_all (fun _ => (1 : Int)) (List.replicate i (0 : Int))
     rw [List.length_replicate] at this
     rw [this]; simp
    rw [e] at h1
    exact h1
   ·have := HG0.out; omega
end Go.Proofs.YtbbpplnnegdenaaGreat.Mo
end
section
namespace Go.Proofs.YtbbpplnnegdenaaGreat.Qt
open Go
section
variable {P : Program} {ops : Array Oper} {md : Region.Mode} {C : World → Prop}
def anyT (P : Program) (md : Region.Mode) (ops : Array Oper) (C : World → Prop) (n : Nat) (L : Array Bool → Act → Prop) : Nat → Array Bool → Act → Prop
 | 0, listed, a => L listed a
 | f + 1, listed, a =>
   Region.ready md ops listed ≠ [] ∧ ∀ i ∈ Region.ready md ops listed, i < n ∧ qOp P ops C i (anyT P md ops C n L f (listed.setIfInBounds i true)) a
theorem any_of_head {n g : Nat} {L : Array Bool → Act → Prop} {Q' : Exit → Act → World → Prop} (hL : ∀ listed a w, C w → L listed a → wpAny P md ops Q' g listed a w) :
  ∀ (f : Nat) (listed : Array Bool) (a : Act) (w : World), C w → anyT P md ops C n L f listed a → wpAny P md ops Q' (f + g) listed a w
 | 0, listed, a, w, hw, h => by rw [Nat.zero_add]; exact hL _ _ _ hw h
 | f + 1, listed, a, w, hw, h => by
   rw [show f + 1 + g = (f + g) + 1 by omega]
   exact ⟨fun h0 => absurd h0 h.1, fun i hi => wpOp_of_qOp hw (fun a' w' hw' h' => any_of_head hL f _ a' w' hw' h') (h.2 i hi).2⟩
theorem any_first {n i : Nat} {oi : Oper} {v : Value} {L : Array Bool → Act → Prop} (hi : ops[i]? = some oi) (hsel : ∀ (j : Nat) (o : Oper) cs b, ops[j]? = some o → o.op ≠ .select cs b)
  (hs : Region.sinkB md ops n = true) (hc : Region.chainB md ops n = true) (hn : n < ops.size) (hin : i < n)
  (hdone : ∀ listed a, L listed a → ∀ j ∈ Region.ready md ops listed, n ≤ j) :
  ∀ (f : Nat) (listed : Array Bool) (a : Act), HeadInv md ops n listed →
    (∀ j oj, ops[j]? = some oj → j ≠ i → listed.getD j true = false → (∀ e ∈ oj.after, Region.binds md e = true → e.on ≠ i) → oi.apart ops oj = true) →
    i ∈ Region.ready md ops listed → YieldsIn P ops C oi v a →
    anyT P md ops C n L f (listed.setIfInBounds i true) (a.put oi.dst v) → anyT P md ops C n L (f + 1) listed a := by
 intro f
 induction f with
 | zero =>
   intro listed a inv _ hr hy H
   have hun := (mem_ready.1 hr).1
   refine ⟨fun h => (by rw [h] at hr; cases hr), fun j hj => ?_⟩
   have hjn : j < n := by
    rcases Nat.lt_or_ge j n with h | h
    ·exact h
    ·exact absurd hj (tail_waits hs hc hn inv _ i rfl hin hun j h)
   refine ⟨hjn, ?_⟩
   by_cases hji : j = i
   ·subst hji; exact hy.qOp hi H
   ·have := hdone _ _ H j (ready_mono hj hji)
    omega
 | succ f ih =>
   intro listed a inv hfree hr hy H
   have hun := (mem_ready.1 hr).1
   refine ⟨fun h => (by rw [h] at hr; cases hr), fun j hj => ?_⟩
   have hjn : j < n := by
    rcases Nat.lt_or_ge j n with h | h
    ·exact h
    ·exact absurd hj (tail_waits hs hc hn inv _ i rfl hin hun j h)
   refine ⟨hjn, ?_⟩
   by_cases hji : j = i
   ·subst hji; exact hy.qOp hi H
   ·have h1 := (H.2 j (ready_mono hj hji)).2
    obtain ⟨hjun, oj, hoj, hall⟩ := mem_ready.1 hj
    have hnot : ∀ e ∈ oj.after, Region.binds md e = true → e.on ≠ i := fun e he hb heq => by
     have h1 := hall e he hb
     rw [heq, getD_both hun] at h1
     cases h1
    have h2 := qOp_put hoj (hfree j oj hoj hji hjun hnot) (fun cs b => hsel i oi cs b hi) (fun cs b => hsel j oj cs b hoj) hy h1
    have hfree' : ∀ k ok, ops[k]? = some ok → k ≠ i → (listed.setIfInBounds j true).getD k true = false →
      (∀ e ∈ ok.after, Region.binds md e = true → e.on ≠ i) → oi.apart ops ok = true := fun k ok hk hki hun hno => by
     refine hfree k ok hk hki ?_ hno
     by_cases hjk : j = k
     ·subst hjk; exact hjun
     ·rw [getD_set_ne true hjk] at hun; exact hun
    refine qOp_mono (fun a' h3 => ih (listed.setIfInBounds j true) a' (inv.set hj hjn) hfree' (ready_mono hr (Ne.symm hji)) h3.1 ?_) h2
    rw [Array.setIfInBounds_comm _ _ hji]
    exact h3.2
theorem any_lex {n g : Nat} {Lq : Act → Prop} (hsel : Region.noSelect ops = true) (hs : Region.sinkB md ops n = true) (hc : Region.chainB md ops n = true) (hn : n < ops.size) :
  ∀ (l : List Oper) (k : Nat) (listed : Array Bool) (a : Act), (∀ j, j < l.length → l[j]? = ops[k + j]?) → k + l.length = n → HeadInv md ops n listed →
  Region.lexHead md ops g l.length k listed = true → wpQuiet P ops C Lq l a →
  anyT P md ops C n (fun listed' a' => Region.seqB md ops g n listed' = true ∧ Lq a') l.length listed a
 | [], k, listed, a, _, hk, _, hB, h => by
   have : k = n := by simpa using hk
   subst this
   exact ⟨by simpa [Region.lexHead] using hB, h⟩
 | o :: l, k, listed, a, hl, hk, inv, hB, h => by
   have h0 : ops[k]? = some o := by simpa using (hl 0 (by simp)).symm
   simp only [List.length_cons, Region.lexHead, Bool.and_eq_true] at hB
   obtain ⟨⟨hr, hf⟩, hB'⟩ := hB
   have hkn : k < n := by simp only [List.length_cons] at hk; omega
   have hr' : k ∈ Region.ready md ops listed := by simpa using hr
   have hst : qOp P ops C k (wpQuiet P ops C Lq l) a := by unfold qOp; simp only [h0]; exact h
   obtain ⟨v, hy, hK⟩ := yieldsIn_of_qOp h0 hst
   exact any_first h0 (Region.noSelect_spec hsel) hs hc hn hkn (fun listed' a' hL => seqB_ready hL.1) l.length listed a inv (Region.free_spec h0 hf) hr' hy
    (any_lex hsel hs hc hn l (k + 1) _ _ (fun j hj => by have := hl (j + 1) (by simp; omega); simpa [Nat.add_assoc, Nat.add_comm 1 j] using this) (by simp only [List.length_cons] at hk; omega) (inv.set hr' hkn) hB' hK)
theorem region_tail {id : Nat} {Q : Exit → Act → World → Prop} {a : Act} {w : World} {l : List Oper} (n : Nat) (hm : P.follows .mixedOrders = true) (hB : Region.lexTailB .any l.toArray n = true) (hC : C { w with drawn := w.drawn + 1 })
  (h : wpQuiet P l.toArray C (fun a' => ∀ w', C w' → wpList P l.toArray Q (l.drop n) a' w') (l.take n) a) : (Code.region id l.toArray true).wp P Q a w := by
 simp only [Region.lexTailB, Bool.and_eq_true, decide_eq_true_eq] at hB
 obtain ⟨⟨⟨⟨hsel, hn⟩, hs⟩, hc⟩, hlex⟩ := hB
 have hn' : n < l.length := by simpa using hn
 have htl : (l.take n).length = n := by simp; omega
 have hdl : (l.drop n).length = l.toArray.size - n := by simp
 have inv0 : HeadInv .any l.toArray n (Array.replicate l.toArray.size false) :=
  ⟨by simp, fun j oj _ hl => (by rw [getD_replicate_false] at hl; cases hl), fun t _ ht => getD_in (by simpa using ht) (getD_replicate_false _ _)⟩
 have H := any_lex (md := .any) (C := C) (g := l.toArray.size - n) hsel hs hc hn (l.take n) 0 _ a (fun j hj => by
  have hj' : j < n := by rw [htl] at hj; exact hj
  simp [hj']) (by simpa using htl) inv0 (by rw [htl]; exact hlex) h
 refine wp_region_any hm ?_
 have := any_of_head (Q' := Q) (g := l.toArray.size - n) (fun listed a' w' hw' hL => by
  have := wpAny_of_seq (md := .any) (Q' := Q) (l.drop n) n listed a' w' (fun j => by simp [List.getElem?_drop]) (by rw [hdl]; exact hL.1) (hL.2 w' hw')
  rwa [hdl] at this) _ _ _ _ hC H
 rw [htl, show n + (l.toArray.size - n) = l.toArray.size by omega] at this
 exact this
theorem region_grown_tail {id : Nat} {Q : Exit → Act → World → Prop} {a : Act} {w : World} {l : List Oper} (n : Nat) (hm : P.follows .mixedOrders = true) (hB : Region.lexTailB .any l.toArray n = true)
  (h : wpQuiet P l.toArray (fun w' => ∃ p : GrownBy, w' = Sort.grow (w.drewN p.n) p.os) (fun a' => ∀ w', (∃ p : GrownBy, w' = Sort.grow (w.drewN p.n) p.os) → wpList P l.toArray Q (l.drop n) a' w') (l.take n) a) : (Code.region id l.toArray true).wp P Q a w :=
 region_tail (C := fun w' => ∃ p : GrownBy, w' = Sort.grow (w.drewN p.n) p.os) n hm hB ⟨⟨1, #[]⟩, by rw [Sort.grow_empty]; rfl⟩ h
end
end Go.Proofs.YtbbpplnnegdenaaGreat.Qt
end
section
namespace Go.Proofs.YtbbpplnnegdenaaGreat.Oa
open Go Go.RowKit Go.Shelf Go.Proofs Go.Sort Go.Proofs.YtbbpplnnegdenaaGreatW.PrintWords Go.Proofs.YtbbpplnnegdenaaGreat.So Go.Proofs.YtbbpplnnegdenaaGreat.St Go.Proofs.YtbbpplnnegdenaaGreat.Mo Go.Proofs.YtbbpplnnegdenaaGreat.Qt
open Go.Proofs.YtbbpplnnegdenaaGreat.Om (wd isT onT on_zero)
def Gr (W W' : World) : Prop := ∃ q os, W' = grow (W.drewN q) os
theorem Gr.refl (W : World) : Gr W W := ⟨0, #[], by rw [grow_empty]; rfl⟩
theorem Gr.trans {A B C : World} (h : Gr A B) (k : Gr B C) : Gr A C := by
 obtain ⟨q, os, rfl⟩ := h
 obtain ⟨q2, os2, rfl⟩ := k
 exact ⟨q + q2, os ++ os2, by show grow (grow ((A.drewN q).drewN q2) os) os2 = _; rw [grow_grow, World.drewN_drewN]⟩
theorem Gr.alloc (W : World) (o : Obj) : Gr W (W.alloc o) := ⟨0, #[o], by rw [alloc_eq_grow]; rfl⟩
theorem Gr.drewN (W : World) (n : Nat) : Gr W (W.drewN n) := ⟨n, #[], by rw [grow_empty]⟩
theorem Gr.drew (W : World) : Gr W W.drew := ⟨1, #[], by rw [grow_empty]; rfl⟩
theorem Gr.grow (W : World) (os : Array Obj) : Gr W (grow W os) := ⟨0, os, rfl⟩
theorem Gr.keep {W W' : World} (h : Gr W W') : Keep [] W W' := by
 obtain ⟨q, os, rfl⟩ := h
 refine ⟨rfl, rfl, rfl, ?_, fun k hk _ => ?_⟩
 ·rw [size_grow]; exact Nat.le_add_right _ _
 ·show (W.heap ++ os)[k]? = W.heap[k]?
  rw [Array.getElem?_append_left hk]
theorem Gr.below {W W' : World} (h : Gr W W') : Below W.heap.size W W' := h.keep.toBelow (Nat.le_refl _) (by simp)
theorem i64_id {x : Int} (h0 : -9223372036854775808 ≤ x) (h1 : x < 9223372036854775808) : IntKind.i64.wrap x = x := by
 rw [IntKind.wrap_i64]; omega
def CellLe (W W' : World) : Prop := ∀ a v, W.cell? a = some v → W'.cell? a = some v
theorem CellLe.refl (W : World) : CellLe W W := fun _ _ h => h
theorem CellLe.trans {A B C : World} (h : CellLe A B) (k : CellLe B C) : CellLe A C := fun a v e => k a v (h a v e)
theorem cell_gr {w W' : World} (hg : Gr w W') {a : Addr} {v : Value} (h : w.cell? a = some v) : W'.cell? a = some v := by
 obtain ⟨q, os, rfl⟩ := hg
 exact cell_grown (World.block_lt_of_cell? w a h) h q os
theorem Gr.le {W W' : World} (h : Gr W W') : CellLe W W' := fun a v e => cell_gr h e
theorem CellLe.below {W W' : World} (h : Below W.heap.size W W') : CellLe W W' := fun a v e => (World.cell?_of_block (h.block _ (World.block_lt_of_cell? W a e))).trans e
theorem C_le {α : Type} {enc : α → Value} {h1 : ∀ x, (enc x).oneCell' = true} {W W' : World} {A : Option Addr} {n : Nat} {xs : List α} (h : (Kd.scalar enc h1).C W A n xs) (hl : CellLe W W') : (Kd.scalar enc h1).C W' A n xs := by
 refine ⟨h.1, h.2.1, fun hn => ?_⟩
 obtain ⟨ad, e, hc⟩ := h.2.2 hn
 refine ⟨ad, e, fun j p hj => ?_⟩
 obtain ⟨c, hs, hr, hcell⟩ := hc j p hj
 exact ⟨c, hs, hr, fun i u hu => hl _ _ (hcell i u hu)⟩
abbrev Hdr := Option Addr × Nat × Nat
def encH (h : Hdr) : Value := .slice h.1 h.2.1 h.2.2
def kdH : Kd Hdr := Kd.scalar encH (fun _ => rfl)
structure Inner (W : World) (hs : List Hdr) (ws : List (List Int)) : Prop where
 len : hs.length = ws.length
 each : ∀ i, i < ws.length → ∃ A c, hs.getD i (none, 0, 0) = (A, (wd ws i).length, c) ∧ (wd ws i).length ≤ c ∧ Kd.C (Kd.int .u8) W A (wd ws i).length (wd ws i)
structure Words (W : World) (A : Option Addr) (ws : List (List Int)) : Prop where
 row : ∃ hs, Kd.C kdH W A ws.length hs ∧ Inner W hs ws
theorem Inner.le {W W' : World} {hs : List Hdr} {ws : List (List Int)} (h : Inner W hs ws) (hb : CellLe W W') : Inner W' hs ws :=
 ⟨h.len, fun i hi => by obtain ⟨A, c, e, hc, hC⟩ := h.each i hi; exact ⟨A, c, e, hc, C_le hC hb⟩⟩
theorem Words.le {W W' : World} {A : Option Addr} {ws : List (List Int)} (h : Words W A ws) (hb : CellLe W W') : Words W' A ws := by
 obtain ⟨hs, h1, h2⟩ := h.row
 exact ⟨hs, C_le h1 hb, h2.le hb⟩
theorem C_at {α : Type} {enc : α → Value} {h1 : ∀ x, (enc x).oneCell' = true} {W : World} {A : Option Addr} {n : Nat} {xs : List α} (h : (Kd.scalar enc h1).C W A n xs) (z : α) {i : Nat} (hi : i < n) : ∃ ad, A = some ad ∧ W.cell? (ad.add i) = some (enc (xs.getD i z)) := by
 obtain ⟨ad, c, e1, _, e2, e3⟩ := Kd.C_get h z i (by omega) (by omega)
 refine ⟨ad, e1, ?_⟩
 have e2 : c = [enc (xs.getD (i : Int).toNat z)] := e2
 have := e3 0 (enc (xs.getD i z)) (by rw [e2, Int.toNat_natCast]; rfl)
 simpa [Kd.scalar] using this
theorem Words.at {W : World} {A : Option Addr} {ws : List (List Int)} (h : Words W A ws) {i : Nat} (hi : i < ws.length) : ∃ ad B c, A = some ad ∧ W.cell? (ad.add i) = some (.slice B (wd ws i).length c) ∧ (wd ws i).length ≤ c ∧ Kd.C (Kd.int .u8) W B (wd ws i).length (wd ws i) := by
 obtain ⟨hs, h1, h2⟩ := h.row
 obtain ⟨ad, e1, e2⟩ := C_at h1 (none, 0, 0) hi
 obtain ⟨B, c, e3, e4, e5⟩ := h2.each i hi
 rw [e3] at e2
 exact ⟨ad, B, c, e1, e2, e4, e5⟩
def offs (ws : List (List Int)) (i : Nat) : Nat := ((ws.take i).map List.length).sum
theorem offs_succ {ws : List (List Int)} {i : Nat} (h : i < ws.length) : offs ws (i + 1) = offs ws i + (wd ws i).length := by
 unfold offs wd
 rw [List.take_succ_eq_append_getElem h, List.map_append, List.sum_append, List.getD_eq_getElem?_getD, List.getElem?_eq_getElem h]
 simp
theorem offs_mono {ws : List (List Int)} {i j : Nat} (hij : i ≤ j) (hj : j ≤ ws.length) : offs ws i ≤ offs ws j := by
 induction j with
 | zero => rw [show i = 0 by omega]; exact Nat.le_refl _
 | succ j ih =>
   rcases Nat.lt_or_ge j i with e | e
   ·rw [show i = j + 1 by omega]; exact Nat.le_refl _
   ·have := ih e (by omega); rw [offs_succ (by omega)]; omega
theorem offs_lt {ws : List (List Int)} {t : Nat × Nat} (h : isT ws t) : offs ws t.1 + t.2 < offs ws ws.length := by
 have h1 := offs_succ h.1
 have h2 := offs_mono (ws := ws) (show t.1 + 1 ≤ ws.length from h.1) (Nat.le_refl _)
 have := h.2; omega
structure Srt (W : World) (g : Nat) (Aw : Option Addr) (cw : Nat) (Ab : Option Addr) (cb : Nat) (Ar : Option Addr) (cr : Nat) (ws : List (List Int)) (bl rl : List Int) : Prop where
 q0 : W.cell? ⟨g, 0, none⟩ = some (.slice Aw ws.length cw)
 q2 : W.cell? ⟨g, 2, none⟩ = some (.slice Ab bl.length cb)
 q3 : W.cell? ⟨g, 3, none⟩ = some (.slice Ar rl.length cr)
 words : Words W Aw ws
 base : Kd.C (Kd.int .i64) W Ab bl.length bl
 ranks : Kd.C (Kd.int .i64) W Ar rl.length rl
 bl : bl.length = ws.length ∧ ∀ i, i < ws.length → bl.getD i 0 = (offs ws i : Int)
 rl : rl.length = offs ws ws.length
 small : offs ws ws.length ≤ 1000000000
section
variable {W W' : World} {g : Nat} {Aw : Option Addr} {cw : Nat} {Ab : Option Addr} {cb : Nat} {Ar : Option Addr} {cr : Nat} {ws : List (List Int)} {bl rl : List Int}
theorem Srt.le (h : Srt W g Aw cw Ab cb Ar cr ws bl rl) (hb : CellLe W W') : Srt W' g Aw cw Ab cb Ar cr ws bl rl :=
 ⟨hb _ _ h.q0, hb _ _ h.q2, hb _ _ h.q3, h.words.le hb, C_le h.base hb, C_le h.ranks hb, h.bl, h.rl, h.small⟩
theorem Srt.gr (h : Srt W g Aw cw Ab cb Ar cr ws bl rl) (hb : Gr W W') : Srt W' g Aw cw Ab cb Ar cr ws bl rl := h.le hb.le
def rk (ws : List (List Int)) (rl : List Int) (t : Nat × Nat) : Int := rl.getD (offs ws t.1 + t.2) 0
theorem ahead_plain (W : World) (g : Nat) (aw ab ar : Addr) (B : Option Addr) (cw cb cr c n nb N i k h L off m p : Nat) (v : Int)
  (q0 : ∀ o, (W.alloc o).cell? ⟨g, 0, none⟩ = some (.slice (some aw) n cw)) (q2 : ∀ o, (W.alloc o).cell? ⟨g, 2, none⟩ = some (.slice (some ab) nb cb)) (q3 : ∀ o, (W.alloc o).cell? ⟨g, 3, none⟩ = some (.slice (some ar) N cr))
  (c0 : ∀ o, (W.alloc o).cell? (aw.add i) = some (.slice B L c)) (c1 : ∀ o, (W.alloc o).cell? (ab.add i) = some (.int .i64 off)) (c2 : ∀ o, (W.alloc o).cell? (ar.add p) = some (.int .i64 v))
  (h1 : i < n) (h2 : i < nb) (h3 : p < N) (hL : 0 < L) (hm : (k + h) % L = m) (hp : off + m = p) (hk : k ≤ 1000000000) (hh : h ≤ 4000000000) (hN : N ≤ 1000000000) :
  Calls Tryz.prog 90 #[.pointer (some ⟨g, 0, none⟩), .agg #[.int .i64 i, .int .i64 k], .int .i64 h] W fun e W' => e = .returned (.int .i64 v) ∧ Gr W W' := by
 have e0 : (L : Int) ≠ 0 := by omega
 have e0' : L ≠ 0 := by omega
 have e1 : IntKind.i64.wrap ((k : Int) + h) = (k : Int) + h := i64_id (by omega) (by omega)
 have e2 : Int.tmod ((k : Int) + h) (L : Int) = (m : Int) := by rw [← hm, Int.tmod_eq_emod_of_nonneg (by omega)]; rfl
 have e5 : IntKind.i64.wrap (m : Int) = (m : Int) := i64_id (by omega) (by omega)
 have e3 : IntKind.i64.wrap ((off : Int) + m) = (p : Int) := by rw [i64_id (by omega) (by omega)]; omega
 have e6 : (p : Int) < (N : Int) := by omega
 clear hm hp hL
 go_enter Tryz.func90, Tryz.ntmps90
 go_wp2_with (fail)
 go_quiet (fail)
 go_wp2_with (fail)
 go_ret
 exact ⟨rfl, (Gr.alloc W _).trans (Gr.drewN _ _)⟩
theorem ahead_calls (W : World) (hS : Srt W g Aw cw Ab cb Ar cr ws bl rl) (t : Nat × Nat) (ht : isT ws t) (h : Nat) (hh : h ≤ 4000000000) :
  Calls Tryz.prog 90 #[.pointer (some ⟨g, 0, none⟩), .agg #[.int .i64 t.1, .int .i64 t.2], .int .i64 h] W fun e W' => e = .returned (.int .i64 (rk ws rl (onT ws t h))) ∧ Gr W W' := by
 have al : ∀ o a v, W.cell? a = some v → (W.alloc o).cell? a = some v := fun o a v h => by rw [World.cell?_alloc_some W a o (by rw [h]; rfl)]; exact h
 obtain ⟨aw, B, c, rfl, cw0, hlc, _⟩ := hS.words.at ht.1
 obtain ⟨ab, rfl, cb0⟩ := C_at hS.base 0 (i := t.1) (by rw [hS.bl.1]; exact ht.1)
 have hmod : (t.2 + h) % (wd ws t.1).length < (wd ws t.1).length := Nat.mod_lt _ (by have := ht.2; omega)
 have hlt := offs_lt (ws := ws) (t := onT ws t h) ⟨ht.1, hmod⟩
 obtain ⟨ar, rfl, cr0⟩ := C_at hS.ranks 0 (i := offs ws t.1 + (t.2 + h) % (wd ws t.1).length) (by rw [hS.rl]; exact hlt)
 rw [hS.bl.2 _ ht.1] at cb0
 have hs := hS.small
 have ho := offs_lt ht
 exact ahead_plain W g aw ab ar B cw cb cr c ws.length bl.length rl.length t.1 t.2 h (wd ws t.1).length (offs ws t.1) _ _ _ (fun o => al _ _ _ hS.q0) (fun o => al _ _ _ hS.q2) (fun o => al _ _ _ hS.q3)
  (fun o => al _ _ _ cw0) (fun o => al _ _ _ cb0) (fun o => al _ _ _ cr0) ht.1 (by rw [hS.bl.1]; exact ht.1) (by rw [hS.rl]; exact hlt) (by have := ht.2; omega) rfl rfl (by omega) hh (by rw [hS.rl]; exact hs)
theorem own_calls (W : World) (hS : Srt W g Aw cw Ab cb Ar cr ws bl rl) (t : Nat × Nat) (ht : isT ws t) :
  Calls Tryz.prog 89 #[.pointer (some ⟨g, 0, none⟩), .agg #[.int .i64 t.1, .int .i64 t.2]] W fun e W' => e = .returned (.int .i64 (rk ws rl t)) ∧ Gr W W' := by
 have hc := ahead_calls _ (hS.gr (Gr.alloc W (.cells #[.int .i64 t.1, .int .i64 t.2] 36))) t ht 0 (by omega)
 rw [on_zero ht] at hc
 have hc : Calls Tryz.prog 90 #[.pointer (some ⟨g, 0, none⟩), .agg #[.int .i64 t.1, .int .i64 t.2], .int .i64 0] (W.alloc (.cells #[.int .i64 t.1, .int .i64 t.2] 36)) fun e W' => e = .returned (.int .i64 (rk ws rl t)) ∧ Gr (W.alloc (.cells #[.int .i64 t.1, .int .i64 t.2] 36)) W' := hc
 clear hS ht
 go_enter Tryz.func89, Tryz.ntmps89
 go_wp2_with (fail)
 (with_reducible refine hc.mono ?_)
 rintro e w1 ⟨rfl, hg⟩
 go_wp2_with (fail)
 go_ret
 exact ⟨rfl, (Gr.alloc W _).trans hg⟩
def cmpI (a b : Int) : Int := if a < b then -1 else if a > b then 1 else 0
theorem nan_calls (W : World) (a : Int) : Calls Tryz.prog 103 #[.int .i64 a] W fun e W' => e = .returned (.bool false) ∧ W' = W := by
 go_enter Tryz.func103, Tryz.ntmps103
 go_wp2_with (fail)
 go_ret
 exact ⟨by simp, rfl⟩
theorem cmp_calls (W : World) (a b : Int) : Calls Tryz.prog 88 #[.int .i64 a, .int .i64 b] W fun e W' => e = .returned (.int .i64 (cmpI a b)) ∧ W' = W := by
 have ca := fun W => nan_calls W a
 have cb := fun W => nan_calls W b
 unfold cmpI
 by_cases h1 : a < b
 ·rw [if_pos h1]
  go_enter Tryz.func88, Tryz.ntmps88
  go_wp2_with (fail)
  (with_reducible refine (ca _).mono ?_)
  rintro e w1 ⟨rfl, rfl⟩
  go_wp2_with (fail)
  (with_reducible refine (cb _).mono ?_)
  rintro e w1 ⟨rfl, rfl⟩
  go_wp2_with (fail)
  go_ret
  exact ⟨rfl, rfl⟩
 ·rw [if_neg h1]
  by_cases h2 : a > b
  ·rw [if_pos h2]
   go_enter Tryz.func88, Tryz.ntmps88
   go_wp2_with (fail)
   (with_reducible refine (ca _).mono ?_)
   rintro e w1 ⟨rfl, rfl⟩
   go_wp2_with (fail)
   (with_reducible refine (cb _).mono ?_)
   rintro e w1 ⟨rfl, rfl⟩
   go_wp2_with (fail)
   go_ret
   exact ⟨rfl, rfl⟩
  ·rw [if_neg h2]
   go_enter Tryz.func88, Tryz.ntmps88
   go_wp2_with (fail)
   (with_reducible refine (ca _).mono ?_)
   rintro e w1 ⟨rfl, rfl⟩
   go_wp2_with (fail)
   (with_reducible refine (cb _).mono ?_)
   rintro e w1 ⟨rfl, rfl⟩
   go_wp2_with (fail)
   go_ret
   exact ⟨rfl, rfl⟩
end
end Go.Proofs.YtbbpplnnegdenaaGreat.Oa
end
section
namespace Go.Proofs.YtbbpplnnegdenaaGreat.Oc
open Go Go.RowKit Go.Shelf Go.Proofs Go.Sort Go.Proofs.YtbbpplnnegdenaaGreatW.PrintWords Go.Proofs.YtbbpplnnegdenaaGreat.So Go.Proofs.YtbbpplnnegdenaaGreat.St Go.Proofs.YtbbpplnnegdenaaGreat.Mo Go.Proofs.YtbbpplnnegdenaaGreat.Qt Go.Proofs.YtbbpplnnegdenaaGreat.Oa
open Go.Proofs.YtbbpplnnegdenaaGreat.Om (wd isT onT on_zero)
def orI : List Int → Int
 | [] => 0
 | x :: xs => if x = 0 then orI xs else x
theorem or_calls (W : World) {b : Nat} {xs : List Int} (h : IRow W b .i64 3 xs) (hl : xs.length ≤ 1000) : Calls Tryz.prog 87 #[.slice (some ⟨b, 0, none⟩) xs.length xs.length] W fun e W' => e = .returned (.int .i64 (orI xs)) ∧ W' = W := by
 have HR := Aside0.mk h
 clear h
 go_enter Tryz.func87, Tryz.ntmps87
 go_wp2_with (fail)
 go_loopw [8] (fun v8 wr => ∃ i : Nat, v8 = .int .i64 i ∧ Aside0 (i ≤ xs.length) ∧ Aside0 (wr = W) ∧ Aside0 (orI (xs.drop i) = orI xs)) (fun v8 _ => xs.length - (intOf v8).toNat)
 case atStart => exact ⟨0, rfl, ⟨by omega⟩, ⟨rfl⟩, ⟨rfl⟩⟩
 case round =>
  obtain ⟨i, rfl, hi, hw, ho⟩ := hrel
  obtain rfl := hw.out
  have hile := hi.out
  by_cases hlt : i < xs.length
  ·have cI := IRow.cell HR.out (i := i) hlt
   have hd : xs.drop i = xs.getD i 0 :: xs.drop (i + 1) := by
    rw [List.drop_eq_getElem_cons hlt, List.getD_eq_getElem?_getD, List.getElem?_eq_getElem hlt]; rfl
   have ho1 := ho.out
   rw [hd, orI] at ho1
   obtain ⟨x, hx⟩ : ∃ x, xs.getD i 0 = x := ⟨_, rfl⟩
   rw [hx] at cI ho1
   clear hd hx
   by_cases hz : x = 0
   ·rw [if_pos hz] at ho1
    subst hz
    have HO := Aside0.mk ho1
    clear ho1
    go_wp2_with (fail)
    go_roundw
    case rel => exact ⟨i + 1, by go_num, ⟨by omega⟩, ⟨by first | rfl | trivial⟩, HO⟩
    case measure => simp [intOf]; omega
   ·rw [if_neg hz] at ho1
    have hzb : (x == 0) = false := beq_eq_false_iff_ne.2 hz
    have HO := Aside0.mk ho1
    clear ho1
    go_wp2_with (fail)
    go_ret
    exact ⟨by rw [HO.out]; rfl, rfl⟩
  ·obtain rfl : i = xs.length := by omega
   have ho1 := ho.out
   rw [List.drop_length, orI] at ho1
   have HO := Aside0.mk ho1
   clear ho1
   go_wp2_with (fail)
   go_ret
   exact ⟨by rw [← HO.out]; rfl, rfl⟩
theorem or4 (W : World) (a b c d : Int) : Calls Tryz.prog 87 #[.slice (some ⟨W.heap.size, 0, none⟩) 4 4] (W.alloc (.cells #[.int .i64 a, .int .i64 b, .int .i64 c, .int .i64 d] 3)) fun e W' => e = .returned (.int .i64 (orI [a, b, c, d])) ∧ W' = W.alloc (.cells #[.int .i64 a, .int .i64 b, .int .i64 c, .int .i64 d] 3) :=
 or_calls _ (b := W.heap.size) (xs := [a, b, c, d]) (World.alloc_heap_new W _) (by show 4 ≤ 1000; decide)
def cmpT (ws : List (List Int)) (rl : List Int) (h : Nat) (x y : Nat × Nat) : Int :=
 orI [cmpI (rk ws rl x) (rk ws rl y), cmpI (rk ws rl (onT ws x h)) (rk ws rl (onT ws y h)), cmpI x.1 y.1, cmpI x.2 y.2]
theorem cmp_gr (W : World) (a b : Int) : Calls Tryz.prog 88 #[.int .i64 a, .int .i64 b] W fun e W' => e = .returned (.int .i64 (cmpI a b)) ∧ Gr W W' := (cmp_calls W a b).mono (fun e W' ⟨h1, h2⟩ => ⟨h1, h2 ▸ Gr.refl _⟩)
section
variable {W W' : World} {g : Nat} {Aw : Option Addr} {cw : Nat} {Ab : Option Addr} {cb : Nat} {Ar : Option Addr} {cr : Nat} {ws : List (List Int)} {bl rl : List Int}
theorem closure_calls (W : World) (hS : Srt W g Aw cw Ab cb Ar cr ws bl rl) {bs bh : Nat} {h : Nat} (hh : h ≤ 4000000000) (cs : W.cell? ⟨bs, 0, none⟩ = some (.pointer (some ⟨g, 0, none⟩))) (ch : W.cell? ⟨bh, 0, none⟩ = some (.int .i64 h))
  (x y : Nat × Nat) (hx : isT ws x) (hy : isT ws y) :
  Calls Tryz.prog 86 #[.agg #[.int .i64 x.1, .int .i64 x.2], .agg #[.int .i64 y.1, .int .i64 y.2], .pointer (some ⟨bs, 0, none⟩), .pointer (some ⟨bh, 0, none⟩)] W fun e W' => e = .returned (.int .i64 (cmpT ws rl h x y)) ∧ Gr W W' := by
 obtain ⟨w2, hw2⟩ : ∃ w2, (W.alloc (.cells #[.int .i64 x.1, .int .i64 x.2] 36)).alloc (.cells #[.int .i64 y.1, .int .i64 y.2] 36) = w2 := ⟨_, rfl⟩
 have hg2 : Gr W w2 := by rw [← hw2]; exact (Gr.alloc W _).trans (Gr.alloc _ _)
 have gr : ∀ n os, Gr w2 (grow (w2.drewN n) os) := fun n os => ⟨n, os, rfl⟩
 have hb1 : w2.heap[W.heap.size]? = some (.cells #[.int .i64 x.1, .int .i64 x.2] 36 (0, 0)) := by
  rw [← hw2]
  exact ((Gr.alloc (W.alloc (.cells #[.int .i64 x.1, .int .i64 x.2] 36)) _).keep.block _ (by simp) (by simp)).trans (World.alloc_heap_new W _)
 have hb2 : w2.heap[W.heap.size + 1]? = some (.cells #[.int .i64 y.1, .int .i64 y.2] 36 (0, 0)) := by
  rw [← hw2]
  have := World.alloc_heap_new (W.alloc (.cells #[.int .i64 x.1, .int .i64 x.2] 36)) (.cells #[.int .i64 y.1, .int .i64 y.2] 36)
  simpa using this
 have k0 := fun n os => cell_gr (gr n os) (cell_gr hg2 cs)
 have k1 := fun n os => cell_gr (gr n os) (cell_gr hg2 ch)
 have k2 := fun n os => cell_gr (gr n os) (show w2.cell? ⟨W.heap.size, 0, none⟩ = some (.int .i64 x.1) from blk_cell hb1 0)
 have k3 := fun n os => cell_gr (gr n os) (show w2.cell? ⟨W.heap.size, 1, none⟩ = some (.int .i64 x.2) from blk_cell hb1 1)
 have k4 := fun n os => cell_gr (gr n os) (show w2.cell? ⟨W.heap.size + 1, 0, none⟩ = some (.int .i64 y.1) from blk_cell hb2 0)
 have k5 := fun n os => cell_gr (gr n os) (show w2.cell? ⟨W.heap.size + 1, 1, none⟩ = some (.int .i64 y.2) from blk_cell hb2 1)
 have cx := fun p : GrownBy => Calls.grown_of (own_calls _ ((hS.gr hg2).gr (gr p.n p.os)) x hx)
 have cy := fun p : GrownBy => Calls.grown_of (own_calls _ ((hS.gr hg2).gr (gr p.n p.os)) y hy)
 have ax := fun p : GrownBy => Calls.grown_of (ahead_calls _ ((hS.gr hg2).gr (gr p.n p.os)) x hx h hh)
 have ay := fun p : GrownBy => Calls.grown_of (ahead_calls _ ((hS.gr hg2).gr (gr p.n p.os)) y hy h hh)
 have cm := fun (p : GrownBy) a b => Calls.grown_of (cmp_gr (grow (w2.drewN p.n) p.os) a b)
 have CX := Aside0.mk cx
 have CY := Aside0.mk cy
 have AX := Aside0.mk ax
 have AY := Aside0.mk ay
 have CM := Aside0.mk cm
 clear cx cy ax ay cm hS hb1 hb2 cs ch hx hy
 go_enter Tryz.func86, Tryz.ntmps86
 go_wp2_with (fail)
 refine region_grown_tail 26 (by kernel_rfl) (by kernel_rfl) ?_
 simp only [List.take_succ_cons, List.take_zero, List.drop_succ_cons, List.drop_zero]
 repeat (go_big_quiet_step (with_reducible first | exact CX.out _ | exact CY.out _ | exact AX.out _ | exact AY.out _ | exact CM.out _ _ _))
 refine wpQuiet_nil ?_
 intro w' hw'
 obtain ⟨⟨nq, osq⟩, rfl⟩ := hw'
 dsimp only
 have hG := gr nq osq
 generalize grow (w2.drewN nq) osq = w3 at hG ⊢
 have cO := or4 w3 (cmpI (rk ws rl x) (rk ws rl y)) (cmpI (rk ws rl (onT ws x h)) (rk ws rl (onT ws y h))) (cmpI x.1 y.1) (cmpI x.2 y.2)
 clear k0 k1 k2 k3 k4 k5 CX CY AX AY
 go_wp2_with (fail)
 (with_reducible refine cO.mono ?_)
 rintro e w4 ⟨rfl, rfl⟩
 go_wp2_with (fail)
 go_ret
 exact ⟨rfl, (hg2.trans hG).trans (Gr.alloc _ _)⟩
end
end Go.Proofs.YtbbpplnnegdenaaGreat.Oc
end
section
namespace Go.Proofs
open Go.Shelf
def Tryz.sortF85_ren : Go.Shelf.Ren := ⟨fun | 6 => 85 | 15 => 102 | 14 => 101 | 28 => 118 | 29 => 119 | 20 => 110 | 21 => 111 | 22 => 112 | 23 => 113 | 24 => 114 | 25 => 115 | 26 => 116 | 27 => 117 | 46 => 135 | 47 => 136 | 48 => 137 | 49 => 138 | 50 => 139 | 57 => 150 | n => n, fun | 22 => 31 | 24 => 36 | 25 => 136 | 3 => 3 | 39 => 93 | 0 => 0 | 53 => 158 | 55 => 85 | 4 => 4 | 46 => 152 | 45 => 151 | 50 => 98 | 5 => 5 | 9 => 9 | 66 => 175 | 70 => 179 | 76 => 187 | 77 => 188 | n => n, fun | n => n⟩
theorem Tryz.sortF85 : Go.Proofs.SlLaysF0.n6 Tryz.prog Tryz.sortF85_ren := {
 mixed := by kernel_rfl
 f6 := ⟨Tryz.f85.name, by decide, Tryz.func85.trans (congrArg some (by kernel_rfl))⟩
 f14 := ⟨Tryz.f101.name, by decide, Tryz.func101.trans (congrArg some (by kernel_rfl))⟩
 f15 := Tryz.func102.trans (congrArg some (by kernel_rfl))
 f20 := ⟨Tryz.f110.name, by decide, Tryz.func110.trans (congrArg some (by kernel_rfl))⟩
 f21 := ⟨Tryz.f111.name, by decide, Tryz.func111.trans (congrArg some (by kernel_rfl))⟩
 f22 := ⟨Tryz.f112.name, by decide, Tryz.func112.trans (congrArg some (by kernel_rfl))⟩
 f23 := ⟨Tryz.f113.name, by decide, Tryz.func113.trans (congrArg some (by kernel_rfl))⟩
 f24 := ⟨Tryz.f114.name, by decide, Tryz.func114.trans (congrArg some (by kernel_rfl))⟩
 f25 := ⟨Tryz.f115.name, by decide, Tryz.func115.trans (congrArg some (by kernel_rfl))⟩
 f26 := ⟨Tryz.f116.name, by decide, Tryz.func116.trans (congrArg some (by kernel_rfl))⟩
 f27 := ⟨Tryz.f117.name, by decide, Tryz.func117.trans (congrArg some (by kernel_rfl))⟩
 f28 := Tryz.func118.trans (congrArg some (by kernel_rfl))
 f29 := Tryz.func119.trans (congrArg some (by kernel_rfl))
 f46 := ⟨Tryz.f135.name, by decide, Tryz.func135.trans (congrArg some (by kernel_rfl))⟩
 f47 := Tryz.func136.trans (congrArg some (by kernel_rfl))
 f48 := Tryz.func137.trans (congrArg some (by kernel_rfl))
 f49 := ⟨Tryz.f138.name, by decide, Tryz.func138.trans (congrArg some (by kernel_rfl))⟩
 f50 := ⟨Tryz.f139.name, by decide, Tryz.func139.trans (congrArg some (by kernel_rfl))⟩
 f57 := ⟨Tryz.f150.name, by decide, Tryz.func150.trans (congrArg some (by kernel_rfl))⟩
 t0 := Tryz.underlying0
 a0 := Tryz.isAgg0
 z0 := Tryz.sizeOf0
 v0 := Tryz.zeroValue0
 t3 := Tryz.underlying3
 a3 := Tryz.isAgg3
 z3 := Tryz.sizeOf3
 v3 := Tryz.zeroValue3
 t4 := Tryz.underlying4
 a4 := Tryz.isAgg4
 z4 := Tryz.sizeOf4
 v4 := Tryz.zeroValue4
 t5 := Tryz.underlying5
 a5 := Tryz.isAgg5
 z5 := Tryz.sizeOf5
 v5 := Tryz.zeroValue5
 t9 := Tryz.underlying9
 a9 := Tryz.isAgg9
 z9 := Tryz.sizeOf9
 v9 := Tryz.zeroValue9
 t22 := Tryz.underlying31
 a22 := Tryz.isAgg31
 z22 := Tryz.sizeOf31
 v22 := Tryz.zeroValue31
 t25 := Tryz.underlying136
 a25 := Tryz.isAgg136
 z25 := Tryz.sizeOf136
 v25 := Tryz.zeroValue136
 t39 := Tryz.underlying93
 a39 := Tryz.isAgg93
 z39 := Tryz.sizeOf93
 v39 := Tryz.zeroValue93
 t45 := Tryz.underlying151
 a45 := Tryz.isAgg151
 z45 := Tryz.sizeOf151
 v45 := Tryz.zeroValue151
 t46 := Tryz.underlying152
 a46 := Tryz.isAgg152
 z46 := Tryz.sizeOf152
 v46 := Tryz.zeroValue152
 t50 := Tryz.underlying98
 a50 := Tryz.isAgg98
 z50 := Tryz.sizeOf98
 v50 := Tryz.zeroValue98
 t53 := Tryz.underlying158
 a53 := Tryz.isAgg158
 z53 := Tryz.sizeOf158
 v53 := Tryz.zeroValue158
 t55 := Tryz.underlying85
 a55 := Tryz.isAgg85
 z55 := Tryz.sizeOf85
 v55 := Tryz.zeroValue85
 t66 := Tryz.underlying175
 a66 := Tryz.isAgg175
 z66 := Tryz.sizeOf175
 v66 := Tryz.zeroValue175
 t70 := Tryz.underlying179
 a70 := Tryz.isAgg179
 z70 := Tryz.sizeOf179
 v70 := Tryz.zeroValue179
 t76 := Tryz.underlying187
 a76 := Tryz.isAgg187
 z76 := Tryz.sizeOf187
 v76 := Tryz.zeroValue187
 t77 := Tryz.underlying188
 a77 := Tryz.isAgg188
 z77 := Tryz.sizeOf188
 v77 := Tryz.zeroValue188 }
end Go.Proofs
end
section
namespace Go.Proofs.YtbbpplnnegdenaaGreat.Os
open Go Go.RowKit Go.Shelf Go.Proofs Go.Sort Go.Proofs.YtbbpplnnegdenaaGreatW.PrintWords Go.Proofs.YtbbpplnnegdenaaGreat.So Go.Proofs.YtbbpplnnegdenaaGreat.St Go.Proofs.YtbbpplnnegdenaaGreat.Mo Go.Proofs.YtbbpplnnegdenaaGreat.Qt Go.Proofs.YtbbpplnnegdenaaGreat.Oa Go.Proofs.YtbbpplnnegdenaaGreat.Oc
open Go.Proofs.YtbbpplnnegdenaaGreat.Om (wd isT onT on_zero at_ at_mem at_pw at_of_mem ixL ordK keyLt keyEq onT_is)
def bare (W : World) (b : Nat) : World := mapBlock W b (fun _ => #[])
theorem bare_heap (W : World) (b k : Nat) : (bare W b).heap[k]? = if b = k then (W.heap[k]?).map (onCells fun _ => #[]) else W.heap[k]? := by
 unfold bare mapBlock
 show (W.heap.modify b _)[k]? = _
 rw [Array.getElem?_modify]
theorem bare_le {W W' : World} {b : Nat} (h : ∀ k, k < W.heap.size → k ≠ b → W'.heap[k]? = W.heap[k]?) : CellLe (bare W b) W' := by
 intro a v hv
 unfold World.cell? at hv ⊢
 rw [bare_heap] at hv
 by_cases e : b = a.block
 ·rw [if_pos e] at hv
  cases ho : W.heap[a.block]? with
  | none => rw [ho] at hv; simp at hv
  | some o =>
    rw [ho] at hv
    cases o with
    | cells c t f =>
      simp only [Option.map_some, onCells] at hv
      split at hv
      ·cases hv
      ·simp at hv
    | _ => simp [onCells] at hv
 ·rw [if_neg e] at hv
  cases ho : W.heap[a.block]? with
  | none => rw [ho] at hv; simp at hv
  | some o => rw [h a.block ((Array.getElem?_eq_some_iff.1 ho).1) (fun k => e k.symm)]; exact hv
theorem le_bare {W0 W : World} {b : Nat} (h : ∀ k, k < W0.heap.size → W.heap[k]? = W0.heap[k]?) (hb : W0.heap.size ≤ b) : CellLe W0 (bare W b) := by
 intro a v hv
 have hlt := World.block_lt_of_cell? W0 a hv
 unfold World.cell? at hv ⊢
 rw [bare_heap, if_neg (by omega), h _ hlt]
 exact hv
theorem bare_le_bare {W W' : World} {b : Nat} (h : ∀ k, k < W.heap.size → k ≠ b → W'.heap[k]? = W.heap[k]?) (hb : b < W.heap.size) : CellLe (bare W b) (bare W' b) := by
 intro a v hv
 have hne : a.block ≠ b := by
  intro e
  unfold World.cell? at hv
  rw [bare_heap, if_pos e.symm] at hv
  cases ho : W.heap[a.block]? with
  | none => rw [ho] at hv; simp at hv
  | some o =>
    rw [ho] at hv
    cases o with
    | cells c t f =>
      simp only [Option.map_some, onCells] at hv
      split at hv
      ·cases hv
      ·simp at hv
    | _ => simp [onCells] at hv
 have h1 := bare_le h a v hv
 unfold World.cell? at h1 ⊢
 rw [bare_heap, if_neg (fun e => hne e.symm)]
 exact h1
theorem bare_cell {W : World} {b : Nat} {a : Addr} (h : a.block ≠ b) : (bare W b).cell? a = W.cell? a := by
 unfold World.cell?
 rw [bare_heap, if_neg (fun e => h e.symm)]
def TRow (W : World) (b : Nat) (T : List (Nat × Nat)) : Prop :=
 ∃ cur, W.heap[b]? = some (.cells cur 36 (0, 0)) ∧ ∀ i, i < T.length → cur[2 * i]? = some (.int .i64 (at_ T i).1) ∧ cur[2 * i + 1]? = some (.int .i64 (at_ T i).2)
theorem TRow.cell {W : World} {b : Nat} {T : List (Nat × Nat)} (h : TRow W b T) {i : Nat} (hi : i < T.length) : W.cell? ⟨b, 2 * i, none⟩ = some (.int .i64 (at_ T i).1) ∧ W.cell? ⟨b, 2 * i + 1, none⟩ = some (.int .i64 (at_ T i).2) := by
 obtain ⟨cur, hG, hc⟩ := h
 rw [blk_cell hG, blk_cell hG]; exact hc i hi
theorem TRow.keep {W W' : World} {b : Nat} {T : List (Nat × Nat)} (h : TRow W b T) (hb : W'.heap[b]? = W.heap[b]?) : TRow W' b T := by
 obtain ⟨cur, hG, hc⟩ := h
 exact ⟨cur, hb.trans hG, hc⟩
theorem TRow.lt {W : World} {b : Nat} {T : List (Nat × Nat)} (h : TRow W b T) : b < W.heap.size := by
 obtain ⟨cur, hG, hc⟩ := h; exact blk_lt hG
section
variable {ws : List (List Int)} {rl : List Int}
abbrev Tu (ws : List (List Int)) := {t : Nat × Nat // isT ws t}
def encT (x : Tu ws) : List Value := [.int .i64 x.1.1, .int .i64 x.1.2]
def cfT (ws : List (List Int)) (rl : List Int) (h : Nat) (x y : Tu ws) : Int := cmpT ws rl h x.1 y.1
def lex4 (a a' b b' : Int) (c c' d d' : Nat) : Prop := a < a' ∨ (a = a' ∧ (b < b' ∨ (b = b' ∧ (c < c' ∨ (c = c' ∧ d < d')))))
theorem cmpI_lt {a b : Int} : cmpI a b < 0 ↔ a < b := by unfold cmpI; split <;> (try split) <;> omega
theorem cmpI_zero {a b : Int} : cmpI a b = 0 ↔ a = b := by unfold cmpI; split <;> (try split) <;> omega
theorem cmpT_lt {h : Nat} {x y : Nat × Nat} : cmpT ws rl h x y < 0 ↔ lex4 (rk ws rl x) (rk ws rl y) (rk ws rl (onT ws x h)) (rk ws rl (onT ws y h)) x.1 y.1 x.2 y.2 := by
 unfold cmpT lex4
 generalize rk ws rl x = a
 generalize rk ws rl y = a'
 generalize rk ws rl (onT ws x h) = b
 generalize rk ws rl (onT ws y h) = b'
 simp only [orI]
 have h1 := @cmpI_lt a a'
 have h2 := @cmpI_zero a a'
 have h3 := @cmpI_lt b b'
 have h4 := @cmpI_zero b b'
 have h5 := @cmpI_lt x.1 y.1
 have h6 := @cmpI_zero x.1 y.1
 have h7 := @cmpI_lt x.2 y.2
 have h8 := @cmpI_zero x.2 y.2
 generalize cmpI a a' = p at *
 generalize cmpI b b' = q at *
 generalize cmpI (x.1 : Int) (y.1 : Int) = r at *
 generalize cmpI (x.2 : Int) (y.2 : Int) = s at *
 split
 ·split
  ·split
   ·split <;> omega
   ·omega
  ·omega
 ·omega
theorem swo (h : Nat) : SWO (ltOf (cfT ws rl h)) where
 irrefl x := by unfold ltOf cfT; rw [decide_eq_false_iff_not, cmpT_lt]; unfold lex4; omega
 trans x y z h1 h2 := by
  unfold ltOf cfT at *
  rw [decide_eq_true_eq, cmpT_lt] at *
  unfold lex4 at *; omega
 ntrans x y z h1 h2 := by
  unfold ltOf cfT at *
  rw [decide_eq_false_iff_not, cmpT_lt] at *
  unfold lex4 at *; omega
def arr (T : List (Nat × Nat)) (hall : ∀ t ∈ T, isT ws t) : Array (Tu ws) := (T.pmap (fun t h => (⟨t, h⟩ : Tu ws)) hall).toArray
theorem arr_size (T : List (Nat × Nat)) (hall : ∀ t ∈ T, isT ws t) : (arr T hall).size = T.length := by unfold arr; simp
theorem arr_val (T : List (Nat × Nat)) (hall : ∀ t ∈ T, isT ws t) : (arr T hall).toList.map Subtype.val = T := by
 unfold arr
 rw [List.toList_toArray, List.map_pmap]
 simp
theorem at_list {d : Array (Tu ws)} [Inhabited (Tu ws)] {i : Nat} (hi : i < d.size) : at_ (d.toList.map Subtype.val) i = (d[i]!).1 := by
 unfold at_
 rw [List.getD_eq_getElem?_getD, List.getElem?_map, Array.getElem?_toList, Array.getElem?_eq_getElem hi]
 rw [getElem!_pos d i hi]; rfl
theorem sort_row {W : World} {b n : Nat} {d d' : Array (Tu ws)} [Inhabited (Tu ws)] {os : Array Obj} (hT : TRow W b (d.toList.map Subtype.val)) (hs : d'.size = d.size) (hH : HoldsK encT 2 W b 0 d) :
  TRow (sortWorldK encT 2 W b 0 n d' os) b (d'.toList.map Subtype.val) ∧ Keep [b] W (sortWorldK encT 2 W b 0 n d' os) := by
 have hlt := hT.lt
 obtain ⟨cur, hG, hc⟩ := hT
 have hH' := holdsK_sortWorldK_c encT 2 W b 0 d d' n os hH hlt hs
 have hG' : (sortWorldK encT 2 W b 0 n d' os).heap[b]? = some (.cells (putCells id 0 (flatK encT 2 d') cur) 36 (0, 0)) := by
  unfold sortWorldK putRowK putRow mapBlock
  rw [heap_grow_old _ _ (by show b < (Array.modify _ _ _).size; rw [Array.size_modify]; exact hlt)]
  show (Array.modify W.heap b _)[b]? = _
  rw [Array.getElem?_modify, if_pos rfl, hG]; rfl
 refine ⟨⟨_, hG', fun i hi => ?_⟩, ?_⟩
 ·rw [List.length_map, Array.length_toList] at hi
  have h0 := (hH'.cell (i := i) (c := 0) hi (by decide)).1
  have h1 := (hH'.cell (i := i) (c := 1) hi (by decide)).1
  rw [show 0 + i * 2 + 0 = 2 * i by omega, blk_cell hG'] at h0
  rw [show 0 + i * 2 + 1 = 2 * i + 1 by omega, blk_cell hG'] at h1
  rw [at_list hi]
  exact ⟨h0, h1⟩
 ·refine ⟨rfl, rfl, rfl, size_sortWorldK_c encT 2 W b 0 n d' os, fun k hk hn => ?_⟩
  unfold sortWorldK putRowK putRow mapBlock
  rw [heap_grow_old _ _ (by show k < (Array.modify _ _ _).size; rw [Array.size_modify]; exact hk)]
  show (Array.modify W.heap b _)[k]? = _
  rw [Array.getElem?_modify, if_neg (fun e => hn (by rw [e]; exact List.mem_singleton_self _))]
theorem sort_calls (W : World) {g : Nat} {Aw : Option Addr} {cw : Nat} {Ab : Option Addr} {cb : Nat} {Ar : Option Addr} {cr : Nat} {bl : List Int} {b : Nat} (cap : Nat) {T : List (Nat × Nat)} (hS : Srt (bare W b) g Aw cw Ab cb Ar cr ws bl rl) {bs bh h : Nat} (hh : h ≤ 4000000000)
  (cs : (bare W b).cell? ⟨bs, 0, none⟩ = some (.pointer (some ⟨g, 0, none⟩))) (ch : (bare W b).cell? ⟨bh, 0, none⟩ = some (.int .i64 h)) (hT : TRow W b T) (hall : ∀ t ∈ T, isT ws t) (hne : T ≠ []) (hl : T.length ≤ 1000000000) :
  Calls Tryz.prog 85 #[.slice (some ⟨b, 0, none⟩) T.length cap, .func (.func 86) #[] #[.pointer (some ⟨bs, 0, none⟩), .pointer (some ⟨bh, 0, none⟩)]] W fun e w' => e = .returned (.tuple #[]) ∧ ∃ T', T'.Perm T ∧ T'.Pairwise (fun x y => ¬ cmpT ws rl h y x < 0) ∧ TRow w' b T' ∧ Keep [b] W w' := by
 haveI : Inhabited (Tu ws) := ⟨⟨T.head hne, hall _ (List.head_mem hne)⟩⟩
 have hlt := hT.lt
 have hsz := arr_size T hall
 have hval := arr_val T hall
 generalize arr T hall = d at hsz hval
 have hH : HoldsK encT 2 W b 0 d := by
  intro j hj
  rw [size_flatK] at hj
  obtain ⟨cur, hG, hc⟩ := hT
  have hi : j / 2 < d.size := by omega
  have hci := hc (j / 2) (by rw [← hsz]; exact hi)
  rw [Nat.zero_add, blk_cell hG, blk_frozen hG]
  refine ⟨?_, rfl⟩
  rw [show id (flatK encT 2 d)[j]! = (flatK encT 2 d)[j]! from rfl, get_flatK encT 2 d j hj]
  have e1 : at_ T (j / 2) = (d[j / 2]!).1 := by rw [← hval]; exact at_list hi
  rw [e1] at hci
  rcases Nat.mod_two_eq_zero_or_one j with e | e
  ·rw [e, show j = 2 * (j / 2) by omega, hci.1, show 2 * (j / 2) / 2 = j / 2 by omega]; rfl
  ·rw [e, show j = 2 * (j / 2) + 1 by omega, hci.2, show (2 * (j / 2) + 1) / 2 = j / 2 by omega]; rfl
 have hcmp : CmpLays Tryz.prog 86 #[.pointer (some ⟨bs, 0, none⟩), .pointer (some ⟨bh, 0, none⟩)] encT 2 (cfT ws rl h) b 0 d.size W := by
  intro m os dk hdk x y
  have hle : CellLe (bare W b) (sortWorldK encT 2 W b 0 m dk os) := bare_le (fun k hk hn => by
   unfold sortWorldK putRowK putRow mapBlock
   rw [heap_grow_old _ _ (by show k < (Array.modify _ _ _).size; rw [Array.size_modify]; exact hk)]
   show (Array.modify W.heap b _)[k]? = _
   rw [Array.getElem?_modify, if_neg (fun e => hn e.symm)])
  exact closure_calls _ (hS.le hle) hh (hle _ _ cs) (hle _ _ ch) x.1 y.1 x.2 y.2
 have hcon := AnyQ.slices_SortFunc Tryz.sortF85 2 Tryz.isAgg36 Tryz.sizeOf36 encT (fun _ => rfl) (fun x v hv => by simp [encT] at hv; rcases hv with rfl | rfl <;> rfl) (cfT ws rl h) (swo h) 86 #[.pointer (some ⟨bs, 0, none⟩), .pointer (some ⟨bh, 0, none⟩)] b 0 cap d W (enters_of Tryz.func86 (by kernel_rfl) rfl) hcmp hH hlt (by omega)
 change Calls Tryz.prog 85 _ _ _ at hcon
 rw [hsz] at hcon
 refine hcon.mono ?_
 rintro e w' ⟨rfl, d', n, os, hp, hs, rfl⟩
 have hd's : d'.size = d.size := hp.1
 have hrow := sort_row (n := n) (os := os) (d := d) (d' := d') (by rw [hval]; exact hT) hd's hH
 refine ⟨rfl, d'.toList.map Subtype.val, ?_, ?_, hrow.1, hrow.2⟩
 ·have := hp.2.2
  rw [← hsz, Array.extract_eq_self_of_le (Nat.le_refl _), Array.extract_eq_self_of_le (by omega)] at this
  rw [← hval]
  exact this.map _
 ·rw [List.pairwise_map, List.pairwise_iff_getElem]
  intro i j hi hj hij
  rw [Array.length_toList] at hi hj
  have := hs i j (Nat.zero_le _) hij (by omega)
  rw [getElem!_pos d' i hi, getElem!_pos d' j hj] at this
  unfold ltOf cfT at this
  rw [decide_eq_false_iff_not] at this
  simpa using this
end
end Go.Proofs.YtbbpplnnegdenaaGreat.Os
end
section
namespace Go.Proofs.YtbbpplnnegdenaaGreat.Od
open Go Go.RowKit Go.Shelf Go.Proofs Go.Sort Go.Proofs.YtbbpplnnegdenaaGreatW.PrintWords Go.Proofs.YtbbpplnnegdenaaGreat.So Go.Proofs.YtbbpplnnegdenaaGreat.St Go.Proofs.YtbbpplnnegdenaaGreat.Mo Go.Proofs.YtbbpplnnegdenaaGreat.Qt Go.Proofs.YtbbpplnnegdenaaGreat.Oa Go.Proofs.YtbbpplnnegdenaaGreat.Oc Go.Proofs.YtbbpplnnegdenaaGreat.Os
open Go.Proofs.YtbbpplnnegdenaaGreat.Om (wd isT onT on_zero at_ at_mem at_pw at_of_mem ixL ordK keyLt keyEq onT_is rkA)
theorem madeI (W : World) (n : Nat) (hn : n ≤ 17592186044416) : ∃ W1, (Instr.makeSlice 29 (.int .i64 n) (.int .i64 n)).run Tryz.prog W = .ok (.slice (some ⟨W.heap.size, 0, none⟩) n n) W1 ∧
  IRow W1 W.heap.size .i64 3 (List.replicate n 0) ∧ Below W.heap.size W W1 := by
 obtain ⟨W1, h1, h2, h3⟩ := Re.made W n hn
 exact ⟨W1, h1, by rw [IRow, h2]; simp [Re.fill], h3⟩
def chgI (ws : List (List Int)) (rl : List Int) (h : Nat) (T : List (Nat × Nat)) (i : Nat) : Bool :=
 !(rk ws rl (at_ T (i - 1)) == rk ws rl (at_ T i) && rk ws rl (onT ws (at_ T (i - 1)) h) == rk ws rl (onT ws (at_ T i) h))
def posT (ws : List (List Int)) (t : Nat × Nat) : Nat := offs ws t.1 + t.2
structure DI (W0 wr : World) (gr N : Nat) (ws : List (List Int)) (T : List (Nat × Nat)) (c : Nat → Bool) (xs : List Int) (i : Nat) : Prop where
 K : Below W0.heap.size W0 wr
 R : IRow wr gr .i64 3 xs
 len : xs.length = N
 nn : ∀ x ∈ xs, 0 ≤ x
 num : ∀ j, j < i → xs.getD (posT ws (at_ T j)) 0 = rkA c j
theorem posT_inj {ws : List (List Int)} {a b : Nat × Nat} (ha : isT ws a) (hb : isT ws b) (h : posT ws a = posT ws b) : a = b := by
 unfold posT at h
 have h1 := offs_succ ha.1
 have h2 := offs_succ hb.1
 have h3 := ha.2
 have h4 := hb.2
 rcases Nat.lt_trichotomy a.1 b.1 with c | c | c
 ·have := offs_mono (ws := ws) (show a.1 + 1 ≤ b.1 from c) (Nat.le_of_lt hb.1); omega
 ·refine Prod.ext c ?_
  rw [c] at h; omega
 ·have := offs_mono (ws := ws) (show b.1 + 1 ≤ a.1 from c) (Nat.le_of_lt ha.1); omega
theorem rkA_le (c : Nat → Bool) : ∀ i, rkA c i ≤ i
 | 0 => Nat.le_refl _
 | i + 1 => by have := rkA_le c i; rw [rkA]; split <;> omega
theorem DI.step {W0 wr w5 : World} {gr N : Nat} {ws : List (List Int)} {T : List (Nat × Nat)} {c : Nat → Bool} {xs : List Int} {i : Nat} (h : DI W0 wr gr N ws T c xs i) (hg : Gr wr w5) (hgr : W0.heap.size ≤ gr) (hi : i < T.length) (hnd : T.Nodup) (hall : ∀ t ∈ T, isT ws t) {p : Nat} (hp : posT ws (at_ T i) = p) (hpN : p < N) :
  DI W0 (w5.setCell ⟨gr, p, none⟩ (.int .i64 (rkA c i))).drew gr N ws T c (xs.set p (rkA c i)) (i + 1) := by
 have hb := h.K
 have hR := (hg.keep.block gr (blk_lt h.R) (by simp)).trans h.R
 refine ⟨?_, IRow.set hR p _, by rw [List.length_set]; exact h.len, ?_, ?_⟩
 ·have k1 := hb.trans (hg.keep.toBelow hb.size (by simp))
  exact ⟨k1.os, k1.tape, k1.output, by have := k1.size; simpa [World.setCell] using this, fun k hk => (Below.heap_setCell _ _ _ _ (by show k ≠ gr; omega)).trans (k1.block k hk)⟩
 ·intro x hx
  rcases List.mem_or_eq_of_mem_set hx with hx | rfl
  ·exact h.nn x hx
  ·omega
 ·intro j hj
  rw [List.getD_eq_getElem?_getD, List.getElem?_set]
  by_cases e : p = posT ws (at_ T j)
  ·rw [if_pos e, if_pos (by rw [h.len]; omega)]
   have : j = i := by
    have h1 := hall _ (at_mem (T := T) (i := j) (by omega))
    have h2 := hall _ (at_mem (T := T) (i := i) hi)
    have h3 := posT_inj h1 h2 (by rw [hp, ← e])
    unfold at_ at h3
    rw [List.getD_eq_getElem?_getD, List.getD_eq_getElem?_getD, List.getElem?_eq_getElem hi, List.getElem?_eq_getElem (show j < T.length by omega)] at h3
    exact (List.getElem_inj hnd).1 h3
   rw [this]; rfl
  ·rw [if_neg e, ← List.getD_eq_getElem?_getD]
   have : j ≠ i := by intro k; subst k; exact e hp.symm
   exact h.num j (by omega)
section
variable {W : World} {g : Nat} {Aw : Option Addr} {cw : Nat} {Ab : Option Addr} {cb : Nat} {Ar : Option Addr} {cr : Nat} {ws : List (List Int)} {bl rl : List Int}
structure DPost (W : World) (g b : Nat) (Aw : Option Addr) (cw : Nat) (vt : Value) (Ab : Option Addr) (cb : Nat) (ws : List (List Int)) (bl rl : List Int) (T : List (Nat × Nat)) (h : Nat) (W' : World) (T' : List (Nat × Nat)) (gr : Nat) (xs : List Int) : Prop where
 perm : T'.Perm T
 sort : T'.Pairwise (fun x y => ¬ cmpT ws rl h y x < 0)
 row : TRow W' b T'
 K : Keep [b, g] W W'
 G : W'.heap[g]? = some (.cells #[.slice Aw ws.length cw, vt, .slice Ab bl.length cb, .slice (some ⟨gr, 0, none⟩) xs.length xs.length] 115 (0, 0))
 R : IRow W' gr .i64 3 xs
 fresh : W.heap.size ≤ gr
 len : xs.length = rl.length
 nn : ∀ x ∈ xs, 0 ≤ x
 num : ∀ i, i < T'.length → xs.getD (posT ws (at_ T' i)) 0 = rkA (chgI ws rl h T') i
theorem doubles_calls (W : World) {b : Nat} (cap : Nat) {T : List (Nat × Nat)} {vt : Value} (hG : W.heap[g]? = some (.cells #[.slice Aw ws.length cw, vt, .slice Ab bl.length cb, .slice Ar rl.length cr] 115 (0, 0)))
  (hS : Srt (bare W b) g Aw cw Ab cb Ar cr ws bl rl) (hT : TRow W b T) (hall : ∀ t ∈ T, isT ws t) (hnd : T.Nodup) (hne : T ≠ []) (hl : T.length ≤ 1000000000) {h : Nat} (hh : h ≤ 4000000000) :
  Calls Tryz.prog 68 #[.pointer (some ⟨g, 0, none⟩), .slice (some ⟨b, 0, none⟩) T.length cap, .int .i64 h] W fun e W' => ∃ T' gr xs, e = .returned (.int .i64 (rkA (chgI ws rl h T') (T'.length - 1))) ∧ DPost W g b Aw cw vt Ab cb ws bl rl T h W' T' gr xs := by
 obtain ⟨w2, hw2⟩ : ∃ w2, (W.alloc (.cells #[.pointer (some ⟨g, 0, none⟩)] 113)).alloc (.cells #[.int .i64 h] 3) = w2 := ⟨_, rfl⟩
 have hg2 : Gr W w2 := by rw [← hw2]; exact (Gr.alloc W _).trans (Gr.alloc _ _)
 have hbW := hT.lt
 have hgW := blk_lt hG
 have hb1 : w2.heap[W.heap.size]? = some (.cells #[.pointer (some ⟨g, 0, none⟩)] 113 (0, 0)) := by
  rw [← hw2]
  exact ((Gr.alloc (W.alloc (.cells #[.pointer (some ⟨g, 0, none⟩)] 113)) _).keep.block _ (by simp) (by simp)).trans (World.alloc_heap_new W _)
 have hb2 : w2.heap[W.heap.size + 1]? = some (.cells #[.int .i64 h] 3 (0, 0)) := by
  rw [← hw2]
  have := World.alloc_heap_new (W.alloc (.cells #[.pointer (some ⟨g, 0, none⟩)] 113)) (.cells #[.int .i64 h] 3)
  simpa using this
 have hS2 : Srt (bare w2 b) g Aw cw Ab cb Ar cr ws bl rl := hS.le (bare_le_bare (fun k hk _ => hg2.keep.block k hk (by simp)) hbW)
 have cs2 : (bare w2 b).cell? ⟨W.heap.size, 0, none⟩ = some (.pointer (some ⟨g, 0, none⟩)) := by rw [bare_cell (by show W.heap.size ≠ b; omega)]; exact blk_cell hb1 0
 have ch2 : (bare w2 b).cell? ⟨W.heap.size + 1, 0, none⟩ = some (.int .i64 h) := by rw [bare_cell (by show W.heap.size + 1 ≠ b; omega)]; exact blk_cell hb2 0
 have hT2 := hT.keep (hg2.keep.block b hbW (by simp))
 have cS := sort_calls w2 cap hS2 hh cs2 ch2 hT2 hall hne hl
 go_enter Tryz.func68, Tryz.ntmps68
 go_wp2_with (fail)
 (with_reducible refine cS.mono ?_)
 clear cS
 rintro e w3 ⟨rfl, T', hperm, hsort, hT3, hK3⟩
 have hb13 : w3.heap[W.heap.size]? = some (.cells #[.pointer (some ⟨g, 0, none⟩)] 113 (0, 0)) := (hK3.block _ (blk_lt hb1) (by simp only [List.mem_singleton]; omega)).trans hb1
 have hb23 : w3.heap[W.heap.size + 1]? = some (.cells #[.int .i64 h] 3 (0, 0)) := (hK3.block _ (blk_lt hb2) (by simp only [List.mem_singleton]; omega)).trans hb2
 have hS3 : Srt w3 g Aw cw Ab cb Ar cr ws bl rl := hS2.le (bare_le (fun k hk hn => hK3.block k hk (by simpa using hn)))
 have hgb : g ≠ b := by
  intro e
  subst e
  have := hS.q0
  unfold World.cell? at this
  rw [bare_heap, if_pos rfl, hG] at this
  simp [onCells] at this
 have hG3 : w3.heap[g]? = some (.cells #[.slice Aw ws.length cw, vt, .slice Ab bl.length cb, .slice Ar rl.length cr] 115 (0, 0)) := (hK3.block g (Nat.lt_of_lt_of_le hgW hg2.keep.size) (by simpa using hgb)).trans ((hg2.keep.block g hgW (by simp)).trans hG)
 obtain ⟨w4, hmk, hrow, hb4⟩ := madeI w3 rl.length (by rw [hS3.rl]; have := hS3.small; omega)
 have d0 := blk_cell hb13 0
 have d1 := blk_cell hG3 3
 have hTl : T'.length = T.length := hperm.length_eq
 have hall' : ∀ t ∈ T', isT ws t := fun t ht => hall t (hperm.mem_iff.1 ht)
 have I0 := Aside0.mk (show DI w3 w4 w3.heap.size rl.length ws T' (chgI ws rl h T') (List.replicate rl.length 0) 0 from ⟨hb4, hrow, List.length_replicate, fun x hx => by rw [List.eq_of_mem_replicate hx]; decide, fun j hj => by omega⟩)
 have hsz2 : W.heap.size + 2 ≤ w3.heap.size := by have := blk_lt hb23; omega
 have HP := Aside0.mk (And.intro hperm hsort)
 have HND := Aside0.mk (show T'.Nodup from hperm.nodup_iff.2 hnd)
 have HG3 := Aside0.mk hG3
 have HS3 := Aside0.mk hS3
 have HT3 := Aside0.mk hT3
 have HB1 := Aside0.mk hb13
 have HB2 := Aside0.mk hb23
 have HK := Aside0.mk (show Keep [b] W w3 from (hg2.keep.mono (by simp)).trans hK3)
 have HALL := Aside0.mk hall'
 have HTL := Aside0.mk hTl
 clear hw2 hg2 hb1 hb2 hS2 cs2 ch2 hT2 hperm hsort hT3 hK3 hb13 hb23 hS3 hG3 hrow hb4 hall' hG hS hT hall hTl hnd
 go_wp2_with (fail)
 obtain ⟨gr, hgr⟩ : ∃ gr, w3.heap.size = gr := ⟨_, rfl⟩
 rw [hgr] at I0 ⊢
 obtain ⟨N, hN⟩ : ∃ N, rl.length = N := ⟨_, rfl⟩
 rw [hN] at I0 ⊢
 obtain ⟨n, hn⟩ : ∃ n, T.length = n := ⟨_, rfl⟩
 rw [hn] at hl ⊢
 have HGR := Aside0.mk hgr
 have HN := Aside0.mk hN
 have HNN := Aside0.mk (HTL.out.trans hn)
 clear hgr hN hn hmk d0 d1
 go_loopw [8, 23] (fun v8 v23 wr => ∃ (i : Nat) (xs : List Int), v8 = .int .i64 (rkA (chgI ws rl h T') (i - 1)) ∧ v23 = .int .i64 i ∧ Aside0 (i ≤ n) ∧ Aside0 (DI w3 wr gr N ws T' (chgI ws rl h T') xs i)) (fun v8 v23 _ => n - (intOf v23).toNat)
 case atStart => exact ⟨0, _, rfl, rfl, ⟨by omega⟩, I0⟩
 case round =>
  obtain ⟨i, xs, rfl, rfl, hi, hI⟩ := hrel
  have hile := hi.out
  have e1 : wr.heap[W.heap.size]? = some (.cells #[.pointer (some ⟨g, 0, none⟩)] 113 (0, 0)) := (hI.out.K.block _ (blk_lt HB1.out)).trans HB1.out
  have e2 : wr.heap[W.heap.size + 1]? = some (.cells #[.int .i64 h] 3 (0, 0)) := (hI.out.K.block _ (blk_lt HB2.out)).trans HB2.out
  have eG := (hI.out.K.block _ (blk_lt HG3.out)).trans HG3.out
  have eT := HT3.out.keep (hI.out.K.block _ HT3.out.lt)
  have eS := HS3.out.le (CellLe.below hI.out.K)
  by_cases hlt : i < n
  ·have cT := eT.cell (i := i) (by rw [HNN.out]; exact hlt)
   have hti := HALL.out _ (at_mem (T := T') (i := i) (by rw [HNN.out]; exact hlt))
   obtain ⟨t, ht⟩ : ∃ t, at_ T' i = t := ⟨_, rfl⟩
   rw [ht, Nat.mul_comm] at cT
   obtain ⟨cT0, cT1⟩ := cT
   rw [ht] at hti
   have ES := Aside0.mk eS
   obtain ⟨ab, rfl, cb0⟩ := C_at eS.base 0 (i := t.1) (by rw [eS.bl.1]; exact hti.1)
   rw [eS.bl.2 _ hti.1] at cb0
   have hbl : t.1 < bl.length := by rw [eS.bl.1]; exact hti.1
   have hsm := eS.small
   obtain ⟨p, hp⟩ : ∃ p, offs ws t.1 + t.2 = p := ⟨_, rfl⟩
   have hpN : p < N := by have := offs_lt hti; have := eS.rl; rw [← HN.out]; omega
   have hNs : N ≤ 1000000000 := by have := eS.rl; rw [← HN.out]; omega
   have cR := IRow.cell hI.out.R (i := p) (by rw [hI.out.len]; exact hpN)
   obtain ⟨y, hy⟩ : ∃ y, xs.getD p 0 = y := ⟨_, rfl⟩
   rw [hy] at cR
   obtain ⟨off, hoff⟩ : ∃ off, offs ws t.1 = off := ⟨_, rfl⟩
   rw [hoff] at cb0 hp
   have hw3 : IntKind.i64.wrap ((off : Int) + (t.2 : Int)) = (p : Int) := by rw [i64_id (by omega) (by omega)]; omega
   have hpn : (p : Int) < (N : Int) := by omega
   have HT' := Aside0.mk ht
   have HTI := Aside0.mk hti
   have HOFF := Aside0.mk hoff
   have HPP := Aside0.mk hp
   clear eS hy hsm ht hti hoff hp
   rcases Nat.eq_zero_or_pos i with h0 | hpos
   ·subst h0
    have cT0 : wr.cell? ⟨b, 0, none⟩ = some (.int .i64 t.1) := by simpa using cT0
    have cT1 : wr.cell? ⟨b, 1, none⟩ = some (.int .i64 t.2) := by simpa using cT1
    obtain ⟨w5, hw5⟩ : ∃ w5, wr.alloc (.cells #[.int .i64 t.1, .int .i64 t.2] 36) = w5 := ⟨_, rfl⟩
    have hg5 : Gr wr w5 := by rw [← hw5]; exact Gr.alloc wr _
    have hb5 : w5.heap[wr.heap.size]? = some (.cells #[.int .i64 t.1, .int .i64 t.2] 36 (0, 0)) := by rw [← hw5]; exact World.alloc_heap_new wr _
    have f0 : w5.cell? ⟨W.heap.size, 0, none⟩ = some (.pointer (some ⟨g, 0, none⟩)) := cell_gr hg5 (blk_cell e1 0)
    have f1 : w5.cell? ⟨g, 2, none⟩ = some (.slice (some ab) bl.length cb) := cell_gr hg5 (blk_cell eG 2)
    have f2 := cell_gr hg5 cb0
    have f3 : w5.cell? ⟨wr.heap.size, 0, none⟩ = some (.int .i64 t.1) := blk_cell hb5 0
    have f4 : w5.cell? ⟨wr.heap.size, 1, none⟩ = some (.int .i64 t.2) := blk_cell hb5 1
    have f5 := cell_gr hg5 cR
    have f6 : w5.frozen? ⟨gr, p, none⟩ = false := blk_frozen ((hg5.keep.block gr (blk_lt hI.out.R) (by simp)).trans hI.out.R) p
    have G5 := Aside0.mk hg5
    clear hg5 hb5 e1 e2 eG cb0 cR
    have NI := Aside0.mk (hI.out.step G5.out (Nat.le_of_eq HGR.out) (by rw [HNN.out]; exact hlt) HND.out HALL.out (show posT ws (at_ T' 0) = p by rw [HT'.out]; unfold posT; rw [HOFF.out]; exact HPP.out) hpN)
    go_wp2_with (fail)
    go_still_tail 14, (by kernel_rfl)
    change wpList _ _ _ _ _ w5.drew
    go_wp2_with (fail)
    go_roundw
    case rel => exact ⟨0 + 1, _, rfl, by go_num, ⟨by omega⟩, NI⟩
    case measure => simp [intOf]; omega
   ·obtain ⟨k, rfl⟩ : ∃ k, i = k + 1 := ⟨i - 1, by omega⟩
    have cL := eT.cell (i := k) (by rw [HNN.out]; omega)
    have hli := HALL.out _ (at_mem (T := T') (i := k) (by rw [HNN.out]; omega))
    obtain ⟨l, hl0⟩ : ∃ l, at_ T' k = l := ⟨_, rfl⟩
    rw [hl0, Nat.mul_comm] at cL
    rw [hl0] at hli
    obtain ⟨cL0, cL1⟩ := cL
    have hrk : rkA (chgI ws rl h T') (k + 1) = rkA (chgI ws rl h T') k + (if !(rk ws rl l == rk ws rl t && rk ws rl (onT ws l h) == rk ws rl (onT ws t h)) then 1 else 0) := by
     rw [rkA]
     unfold chgI
     rw [Nat.add_sub_cancel, hl0, HT'.out]
    have hrb := rkA_le (chgI ws rl h T') k
    rw [Nat.add_sub_cancel]
    have HRK := Aside0.mk hrk
    obtain ⟨w4', hw4⟩ : ∃ w4', wr.alloc (.cells #[.int .i64 t.1, .int .i64 t.2] 36) = w4' := ⟨_, rfl⟩
    have hg4 : Gr wr w4' := by rw [← hw4]; exact Gr.alloc wr _
    have hs4 : w4'.heap.size = wr.heap.size + 1 := by rw [← hw4]; simp
    obtain ⟨w5, hw5⟩ : ∃ w5, w4'.alloc (.cells #[.int .i64 l.1, .int .i64 l.2] 36) = w5 := ⟨_, rfl⟩
    have hg45 : Gr w4' w5 := by rw [← hw5]; exact Gr.alloc _ _
    have hg5 := hg4.trans hg45
    have hb5 : w5.heap[wr.heap.size]? = some (.cells #[.int .i64 t.1, .int .i64 t.2] 36 (0, 0)) := (hg45.keep.block _ (by omega) (by simp)).trans (by rw [← hw4]; exact World.alloc_heap_new wr _)
    have hb6 : w5.heap[wr.heap.size + 1]? = some (.cells #[.int .i64 l.1, .int .i64 l.2] 36 (0, 0)) := by rw [← hs4, ← hw5]; exact World.alloc_heap_new w4' _
    have cM0 := cell_gr hg4 cL0
    have cM1 := cell_gr hg4 cL1
    have gr5 : ∀ n os, Gr w5 (grow (w5.drewN n) os) := fun n os => ⟨n, os, rfl⟩
    have k0 := fun n os => cell_gr (gr5 n os) (show w5.cell? ⟨W.heap.size, 0, none⟩ = some (.pointer (some ⟨g, 0, none⟩)) from cell_gr hg5 (blk_cell e1 0))
    have k1 := fun n os => cell_gr (gr5 n os) (show w5.cell? ⟨W.heap.size + 1, 0, none⟩ = some (.int .i64 h) from cell_gr hg5 (blk_cell e2 0))
    have k2 := fun n os => cell_gr (gr5 n os) (show w5.cell? ⟨wr.heap.size, 0, none⟩ = some (.int .i64 t.1) from blk_cell hb5 0)
    have k3 := fun n os => cell_gr (gr5 n os) (show w5.cell? ⟨wr.heap.size, 1, none⟩ = some (.int .i64 t.2) from blk_cell hb5 1)
    have k4 := fun n os => cell_gr (gr5 n os) (show w5.cell? ⟨wr.heap.size + 1, 0, none⟩ = some (.int .i64 l.1) from blk_cell hb6 0)
    have k5 := fun n os => cell_gr (gr5 n os) (show w5.cell? ⟨wr.heap.size + 1, 1, none⟩ = some (.int .i64 l.2) from blk_cell hb6 1)
    have CX := Aside0.mk (fun q : GrownBy => Calls.grown_of (own_calls _ ((ES.out.gr hg5).gr (gr5 q.n q.os)) l hli))
    have CY := Aside0.mk (fun q : GrownBy => Calls.grown_of (own_calls _ ((ES.out.gr hg5).gr (gr5 q.n q.os)) t HTI.out))
    have AX := Aside0.mk (fun q : GrownBy => Calls.grown_of (ahead_calls _ ((ES.out.gr hg5).gr (gr5 q.n q.os)) l hli h hh))
    have AY := Aside0.mk (fun q : GrownBy => Calls.grown_of (ahead_calls _ ((ES.out.gr hg5).gr (gr5 q.n q.os)) t HTI.out h hh))
    have G45 := Aside0.mk hg5
    have B5 := Aside0.mk hb5
    have E1 := Aside0.mk e1
    have EG := Aside0.mk eG
    have CB0 := Aside0.mk cb0
    have CR := Aside0.mk cR
    clear hrk hl0 hli hg4 hg45 hg5 hb5 hb6 cL0 cL1 gr5 e1 e2 eG eT cb0 cR
    obtain ⟨ra, hra⟩ : ∃ r, rk ws rl l = r := ⟨_, rfl⟩
    obtain ⟨rb, hrb2⟩ : ∃ r, rk ws rl t = r := ⟨_, rfl⟩
    obtain ⟨sa, hsa⟩ : ∃ r, rk ws rl (onT ws l h) = r := ⟨_, rfl⟩
    obtain ⟨sb, hsb⟩ : ∃ r, rk ws rl (onT ws t h) = r := ⟨_, rfl⟩
    rw [hra, hrb2, hsa, hsb] at HRK
    rw [hra] at CX
    rw [hrb2] at CY
    rw [hsa] at AX
    rw [hsb] at AY
    clear hra hrb2 hsa hsb
    obtain ⟨nv, hnv⟩ : ∃ v, rkA (chgI ws rl h T') k = v := ⟨_, rfl⟩
    rw [hnv] at hrb HRK ⊢
    have hwn : IntKind.i64.wrap ((nv : Int) + 1) = ((nv + 1 : Nat) : Int) := by rw [i64_id (by omega) (by omega)]; omega
    by_cases c1 : ra = rb
    ·by_cases c2 : sa = sb
     ·go_wp2_with (fail)
      refine wp_region_quiet_grown (by kernel_rfl) (by kernel_rfl) ?_
      repeat (go_big_quiet_step (with_reducible first | exact CX.out _ | exact CY.out _ | exact AX.out _ | exact AY.out _))
      refine wpQuiet_nil ?_
      intro w' hw'
      obtain ⟨⟨nq, osq⟩, rfl⟩ := hw'
      obtain ⟨w6, hw6⟩ : ∃ w6, grow (w5.drewN nq) osq = w6 := ⟨_, rfl⟩
      have hg6 : Gr w5 w6 := ⟨nq, osq, hw6.symm⟩
      rw [hw6]
      have hg5 := G45.out.trans hg6
      have hb5 := (hg6.keep.block _ (blk_lt B5.out) (by simp)).trans B5.out
      have e1 := E1.out
      have eG := EG.out
      have cb0 := CB0.out
      have cR := CR.out
      clear k0 k1 k2 k3 k4 k5 CX CY AX AY hw6 hw5 hw4
      have f0 : w6.cell? ⟨W.heap.size, 0, none⟩ = some (.pointer (some ⟨g, 0, none⟩)) := cell_gr hg5 (blk_cell e1 0)
      have f1 : w6.cell? ⟨g, 2, none⟩ = some (.slice (some ab) bl.length cb) := cell_gr hg5 (blk_cell eG 2)
      have f2 := cell_gr hg5 cb0
      have f3 : w6.cell? ⟨wr.heap.size, 0, none⟩ = some (.int .i64 t.1) := blk_cell hb5 0
      have f4 : w6.cell? ⟨wr.heap.size, 1, none⟩ = some (.int .i64 t.2) := blk_cell hb5 1
      have f5 := cell_gr hg5 cR
      have f6 : w6.frozen? ⟨gr, p, none⟩ = false := blk_frozen ((hg5.keep.block gr (blk_lt hI.out.R) (by simp)).trans hI.out.R) p
      have G6 := Aside0.mk hg5
      clear hg5 hb5 e1 eG cb0 cR
      have RV := Aside0.mk (show rkA (chgI ws rl h T') (k + 1) = nv from by rw [HRK.out]; simp [c1, c2])
      have NI := Aside0.mk (hI.out.step G6.out (Nat.le_of_eq HGR.out) (by rw [HNN.out]; exact hlt) HND.out HALL.out (show posT ws (at_ T' (k + 1)) = p by rw [HT'.out]; unfold posT; rw [HOFF.out]; exact HPP.out) hpN)
      rw [RV.out] at NI
      clear HRK
      go_wp2_with (fail)
      go_still_tail 14, (by kernel_rfl)
      change wpList _ _ _ _ _ w6.drew
      go_wp2_with (fail)
      go_roundw
      case rel => exact ⟨(k + 1) + 1, _, by rw [Nat.add_sub_cancel, RV.out] <;> rfl, by go_num, ⟨by omega⟩, NI⟩
      case measure => simp [intOf]; omega
     ·go_wp2_with (fail)
      refine wp_region_quiet_grown (by kernel_rfl) (by kernel_rfl) ?_
      repeat (go_big_quiet_step (with_reducible first | exact CX.out _ | exact CY.out _ | exact AX.out _ | exact AY.out _))
      refine wpQuiet_nil ?_
      intro w' hw'
      obtain ⟨⟨nq, osq⟩, rfl⟩ := hw'
      obtain ⟨w6, hw6⟩ : ∃ w6, grow (w5.drewN nq) osq = w6 := ⟨_, rfl⟩
      have hg6 : Gr w5 w6 := ⟨nq, osq, hw6.symm⟩
      rw [hw6]
      have hg5 := G45.out.trans hg6
      have hb5 := (hg6.keep.block _ (blk_lt B5.out) (by simp)).trans B5.out
      have e1 := E1.out
      have eG := EG.out
      have cb0 := CB0.out
      have cR := CR.out
      clear k0 k1 k2 k3 k4 k5 CX CY AX AY hw6 hw5 hw4
      have f0 : w6.cell? ⟨W.heap.size, 0, none⟩ = some (.pointer (some ⟨g, 0, none⟩)) := cell_gr hg5 (blk_cell e1 0)
      have f1 : w6.cell? ⟨g, 2, none⟩ = some (.slice (some ab) bl.length cb) := cell_gr hg5 (blk_cell eG 2)
      have f2 := cell_gr hg5 cb0
      have f3 : w6.cell? ⟨wr.heap.size, 0, none⟩ = some (.int .i64 t.1) := blk_cell hb5 0
      have f4 : w6.cell? ⟨wr.heap.size, 1, none⟩ = some (.int .i64 t.2) := blk_cell hb5 1
      have f5 := cell_gr hg5 cR
      have f6 : w6.frozen? ⟨gr, p, none⟩ = false := blk_frozen ((hg5.keep.block gr (blk_lt hI.out.R) (by simp)).trans hI.out.R) p
      have G6 := Aside0.mk hg5
      clear hg5 hb5 e1 eG cb0 cR
      have RV := Aside0.mk (show rkA (chgI ws rl h T') (k + 1) = nv + 1 from by rw [HRK.out]; simp [c1, c2])
      have NI := Aside0.mk (hI.out.step G6.out (Nat.le_of_eq HGR.out) (by rw [HNN.out]; exact hlt) HND.out HALL.out (show posT ws (at_ T' (k + 1)) = p by rw [HT'.out]; unfold posT; rw [HOFF.out]; exact HPP.out) hpN)
      rw [RV.out] at NI
      clear HRK
      go_wp2_with (fail)
      go_still_tail 14, (by kernel_rfl)
      change wpList _ _ _ _ _ w6.drew
      go_wp2_with (fail)
      go_roundw
      case rel => exact ⟨(k + 1) + 1, _, by rw [Nat.add_sub_cancel, RV.out] <;> rfl, by go_num, ⟨by omega⟩, NI⟩
      case measure => simp [intOf]; omega
    ·have c1b : (ra != rb) = true := bne_iff_ne.2 c1
     go_wp2_with (fail)
     refine wp_region_quiet_grown (by kernel_rfl) (by kernel_rfl) ?_
     repeat (go_big_quiet_step (with_reducible first | exact CX.out _ | exact CY.out _ | exact AX.out _ | exact AY.out _))
     refine wpQuiet_nil ?_
     intro w' hw'
     obtain ⟨⟨nq, osq⟩, rfl⟩ := hw'
     obtain ⟨w6, hw6⟩ : ∃ w6, grow (w5.drewN nq) osq = w6 := ⟨_, rfl⟩
     have hg6 : Gr w5 w6 := ⟨nq, osq, hw6.symm⟩
     rw [hw6]
     have hg5 := G45.out.trans hg6
     have hb5 := (hg6.keep.block _ (blk_lt B5.out) (by simp)).trans B5.out
     have e1 := E1.out
     have eG := EG.out
     have cb0 := CB0.out
     have cR := CR.out
     clear k0 k1 k2 k3 k4 k5 CX CY AX AY hw6 hw5 hw4
     have f0 : w6.cell? ⟨W.heap.size, 0, none⟩ = some (.pointer (some ⟨g, 0, none⟩)) := cell_gr hg5 (blk_cell e1 0)
     have f1 : w6.cell? ⟨g, 2, none⟩ = some (.slice (some ab) bl.length cb) := cell_gr hg5 (blk_cell eG 2)
     have f2 := cell_gr hg5 cb0
     have f3 : w6.cell? ⟨wr.heap.size, 0, none⟩ = some (.int .i64 t.1) := blk_cell hb5 0
     have f4 : w6.cell? ⟨wr.heap.size, 1, none⟩ = some (.int .i64 t.2) := blk_cell hb5 1
     have f5 := cell_gr hg5 cR
     have f6 : w6.frozen? ⟨gr, p, none⟩ = false := blk_frozen ((hg5.keep.block gr (blk_lt hI.out.R) (by simp)).trans hI.out.R) p
     have G6 := Aside0.mk hg5
     clear hg5 hb5 e1 eG cb0 cR
     have RV := Aside0.mk (show rkA (chgI ws rl h T') (k + 1) = nv + 1 from by rw [HRK.out]; simp [c1])
     have NI := Aside0.mk (hI.out.step G6.out (Nat.le_of_eq HGR.out) (by rw [HNN.out]; exact hlt) HND.out HALL.out (show posT ws (at_ T' (k + 1)) = p by rw [HT'.out]; unfold posT; rw [HOFF.out]; exact HPP.out) hpN)
     rw [RV.out] at NI
     clear HRK
     go_wp2_with (fail)
     go_still_tail 14, (by kernel_rfl)
     change wpList _ _ _ _ _ w6.drew
     go_wp2_with (fail)
     go_roundw
     case rel => exact ⟨(k + 1) + 1, _, by rw [Nat.add_sub_cancel, RV.out] <;> rfl, by go_num, ⟨by omega⟩, NI⟩
     case measure => simp [intOf]; omega
  ·obtain rfl : i = n := by omega
   have f6 : wr.frozen? ⟨g, 3, none⟩ = false := blk_frozen eG 3
   have d3 := blk_cell eG 3
   have d0 := blk_cell e1 0
   have EG := Aside0.mk eG
   have ET := Aside0.mk eT
   clear eG eT e1 e2 eS
   go_wp2_with (fail)
   go_ret
   have hgw := blk_lt EG.out
   have hgw3 := blk_lt HG3.out
   have hgr := HGR.out
   have hR := hI.out.R
   have hK1 := HP.out.2
   refine ⟨T', gr, xs, by rw [HNN.out]; rfl, HP.out.1, by simpa using HP.out.2, ET.out.keep (Below.heap_setCell _ _ _ _ (by show b ≠ g; omega)), ?_, ?_, ?_, ?_, by rw [hI.out.len]; exact HN.out.symm, hI.out.nn, fun j hj => hI.out.num j (by rw [← HNN.out]; exact hj)⟩
   ·have k1 := HK.out
    have k2 := hI.out.K
    refine ⟨k2.os.trans k1.os, k2.tape.trans k1.tape, k2.output.trans k1.output, by have := Nat.le_trans k1.size k2.size; simpa [World.setCell] using this, fun k hk hn => ?_⟩
    simp only [List.mem_cons, List.not_mem_nil, or_false, not_or] at hn
    exact (Below.heap_setCell _ _ _ _ (by show k ≠ g; exact hn.2)).trans ((k2.block k (Nat.lt_of_lt_of_le hk k1.size)).trans (k1.block k hk (by simpa using hn.1)))
   ·have := EG.out
    rw [hI.out.len]
    simp [World.setCell, Array.getElem?_modify, this]
   ·exact IRow.far hR (by show gr ≠ g; omega) _
   ·have := HK.out.size; omega
end
end Go.Proofs.YtbbpplnnegdenaaGreat.Od
end
section
namespace Go.Proofs.YtbbpplnnegdenaaGreat.Of
open Go Go.RowKit Go.Shelf Go.Proofs Go.Sort Go.Proofs.YtbbpplnnegdenaaGreatW.PrintWords Go.Proofs.YtbbpplnnegdenaaGreat.So Go.Proofs.YtbbpplnnegdenaaGreat.St Go.Proofs.YtbbpplnnegdenaaGreat.Mo Go.Proofs.YtbbpplnnegdenaaGreat.Qt Go.Proofs.YtbbpplnnegdenaaGreat.Oa Go.Proofs.YtbbpplnnegdenaaGreat.Oc Go.Proofs.YtbbpplnnegdenaaGreat.Os Go.Proofs.YtbbpplnnegdenaaGreat.Od
open Go.Proofs.YtbbpplnnegdenaaGreat.Om (wd isT onT on_zero at_ at_mem at_pw at_of_mem ixL ordK keyLt keyEq onT_is rkA ixL_asymm)
def kdT : Kd (Int × Int) := Kd.pair (Kd.int .i64) (Kd.int .i64)
def castT (t : Nat × Nat) : Int × Int := (t.1, t.2)
theorem kdT_M (w : World) (base : Nat) (ok : Nat → Prop) (t : Nat × Nat) : kdT.M w base ok (castT t) [.int .i64 t.1, .int .i64 t.2] := ⟨[.int .i64 t.1], [.int .i64 t.2], rfl, rfl, rfl⟩
theorem kdT_K {w : World} {x : Int × Int} {cs : List Value} (h : kdT.K w x cs) : cs = [.int .i64 x.1, .int .i64 x.2] := by
 obtain ⟨c0, c1, rfl, h0, h1⟩ := h
 have h0 : c0 = [.int .i64 x.1] := h0
 have h1 : c1 = [.int .i64 x.2] := h1
 rw [h0, h1]; rfl
theorem info36 : (Tryz.prog.info? 36).map (fun i => (i.zero, i.size, i.bytes)) = some (some (.agg #[.int .i64 0, .int .i64 0]), 2, 16) := by kernel_rfl
theorem info3 : (Tryz.prog.info? 3).map (fun i => (i.zero, i.size, i.bytes)) = some (some (.int .i64 0), 1, 8) := by kernel_rfl
theorem infoT : (Tryz.prog.info? 36).map (fun i => (i.zero, i.size, i.bytes)) = some (some (.agg #[.int .i64 0, .int .i64 0]), kdT.sz, 16) := info36
theorem szT : (Value.agg #[.int .i64 0, .int .i64 0]).cells.size = kdT.sz := rfl
theorem szP : 0 < kdT.sz := by show 0 < 2; decide
theorem add0 (b n : Nat) : Addr.add ⟨b, 0, none⟩ n = ⟨b, n, none⟩ := by
 unfold Addr.add
 split
 ·rename_i h; subst h; rfl
 ·show (⟨b, 0 + n, none⟩ : Addr) = _; rw [Nat.zero_add]
theorem TRow.of {W : World} {base : Nat} {ok : Nat → Prop} {v : Value} {T : List (Nat × Nat)} (h : kdT.R 36 W base ok v (T.map castT)) (hp : 0 < T.length) : ∃ b cap, v = .slice (some ⟨b, 0, none⟩) T.length cap ∧ base ≤ b ∧ ok b ∧ TRow W b T := by
 obtain ⟨b, cap, rfl, hb, hlt, cells, hc⟩ := Kd.R_form h (by rw [List.length_map]; exact hp)
 refine ⟨b, cap, by rw [List.length_map], hb, h.1 b (by simp [Value.ownBlock]), cells, hc, fun i hi => ?_⟩
 obtain ⟨A, c, e, _, hC⟩ := Kd.R_reads h
 injection e with e1 e2 e3
 subst e1
 have hml : (T.map castT).length = T.length := List.length_map ..
 obtain ⟨ad, cs, e1, _, hK, hcell⟩ := Kd.C_get (n := (T.map castT).length) hC (0, 0) (i : Int) (by omega) (by omega)
 injection e1 with e1
 subst e1
 have hK := kdT_K hK
 rw [Int.toNat_natCast] at hK hcell
 have hx : (T.map castT).getD i (0, 0) = castT (at_ T i) := by
  unfold at_
  rw [List.getD_eq_getElem?_getD, List.getD_eq_getElem?_getD, List.getElem?_map, List.getElem?_eq_getElem hi]; rfl
 rw [hx] at hK
 have c0 := hcell 0 _ (by rw [hK]; rfl)
 have c1 := hcell 1 _ (by rw [hK]; rfl)
 have hs : kdT.sz = 2 := rfl
 rw [hs] at c0 c1
 have a0 : (Addr.add ⟨b, 0, none⟩ (i * 2 + 0)) = ⟨b, 2 * i, none⟩ := by rw [add0, Nat.add_zero, Nat.mul_comm]
 have a1 : (Addr.add ⟨b, 0, none⟩ (i * 2 + 1)) = ⟨b, 2 * i + 1, none⟩ := by rw [add0, Nat.mul_comm]
 rw [a0, blk_cell hc] at c0
 rw [a1, blk_cell hc] at c1
 exact ⟨c0, c1⟩
theorem clone_calls (W : World) {base : Nat} {ok : Nat → Prop} {v : Value} {T : List (Nat × Nat)} (h : kdT.R 36 W base ok v (T.map castT)) (hl : T.length ≤ 1000000000) :
  Calls Tryz.prog 67 #[v] W fun e W' => ∃ v1, e = .returned v1 ∧ kdT.R 36 W' W.heap.size (fun _ => True) v1 (T.map castT) ∧ Below W.heap.size W W' := by
 have q31 : ∀ (w : World) (a : Option Addr) (n c n' c' : Nat), (binOp .eql 31 (.slice a n c) (.slice none n' c')).run Tryz.prog w = .ok (.bool a.isNone) w := fun w a n c n' c' => Lib.run_eql_slice_nil w _ _ a n c n' c' Tryz.underlying31
 obtain ⟨A, c, rfl, hc, hC⟩ := Kd.R_reads h
 have hTl : (T.map castT).length = T.length := List.length_map ..
 rcases A with _ | a
 ·have hx : T = [] := by
   rcases Nat.eq_zero_or_pos T.length with h0 | h0
   ·exact List.eq_nil_of_length_eq_zero h0
   ·obtain ⟨ad, e, _⟩ := hC.2.2 (by omega)
    cases e
  subst hx
  clear h hC
  go_enter Tryz.func67, Tryz.ntmps67
  go_wp2_with (fail)
  go_ret
  exact ⟨_, rfl, Kd.R_nil _ _ _ _ _, Below.refl _ _⟩
 ·have H := Aside0.mk hC
  have HTL := Aside0.mk hTl
  obtain ⟨xs, hxs⟩ : ∃ xs, T.map castT = xs := ⟨_, rfl⟩
  rw [hxs] at H HTL hc ⊢
  clear h hC hTl hxs
  go_enter Tryz.func67, Tryz.ntmps67
  go_wp2_with (at_builtin; refine Kd.R_append_rows kdT (Rr := kdT.K W) (w0 := W) W.heap.size rfl (.tmp 5) (.tmp 6) 31 36 (.agg #[.int .i64 0, .int .i64 0]) 16 rfl Tryz.underlying31 infoT szT szP (by decide) (.slice (some ⟨W.heap.size, 0, none⟩) 0 0) [] xs (some a) xs.length c (fun _ => True) (fun _ => False) rfl rfl ?aO ?aR ?aK (fun _ h => h.elim) (fun _ _ => trivial) ?aB ?aS ?aL ?_)
  case aO => exact ⟨fun _ _ => trivial, [], World.ownsRow_made W #[] 0 (Nat.le_refl _) (Nat.zero_le _) rfl, Reps.none _ _⟩
  case aR => exact Kd.C_below H.out ((Below.refl _ W).alloc (Nat.le_refl _) _)
  case aK =>
   intro x cs hk
   have := kdT_K hk
   rw [this]
   exact ⟨[.int .i64 x.1], [.int .i64 x.2], rfl, rfl, rfl⟩
  case aB => exact (Below.refl _ W).alloc (Nat.le_refl _) _
  case aS => simp
  case aL => have := HTL.out; simp; omega
  intro v1 w1 hR hB _ _
  go_wp2_with (fail)
  go_ret
  exact ⟨_, rfl, by simpa using hR, hB⟩
theorem ne36 : ∀ q, q ∈ 36 :: kdT.E → q ≠ 3 := by
 intro q hq
 have : q = 36 := by simpa [kdT, Kd.pair, Kd.int, Kd.scalar] using hq
 omega
theorem ne3 : ∀ q, q ∈ 3 :: (Kd.int .i64).E → q ≠ 36 := by
 intro q hq
 have : q = 3 := by simpa [Kd.int, Kd.scalar] using hq
 omega
structure Fl (W0 wr : World) (g : Nat) (Aw : Option Addr) (cw n : Nat) (vt vb vr : Value) (T : List (Nat × Nat)) (bl rl : List Int) : Prop where
 K : RowKit.Below W0.heap.size W0 wr
 hg : W0.heap.size ≤ g
 G : wr.heap[g]? = some (.cells #[.slice Aw n cw, vt, vb, vr] 115 (0, 0))
 t : kdT.R 36 wr W0.heap.size (fun k => k ≠ g) vt (T.map castT)
 b : (Kd.int .i64).R 3 wr W0.heap.size (fun k => k ≠ g ∧ some k ≠ vr.ownBlock) vb bl
 r : (Kd.int .i64).R 3 wr W0.heap.size (fun k => k ≠ g ∧ some k ≠ vb.ownBlock) vr rl
section
variable {W0 wr W w1 : World} {g : Nat} {Aw : Option Addr} {cw n : Nat} {vt vb vr v1 : Value} {T : List (Nat × Nat)} {bl rl : List Int}
theorem Fl.move (h : Fl W0 wr g Aw cw n vt vb vr T bl rl) (hW : Keep [] wr W) : Fl W0 W g Aw cw n vt vb vr T bl rl :=
 ⟨h.K.trans (hW.toBelow h.K.size (by simp)), h.hg, (hW.block g (blk_lt h.G) (by simp)).trans h.G, Kd.R_step h.t (fun k _ hk => hW.block k hk (by simp)), Kd.R_step h.b (fun k _ hk => hW.block k hk (by simp)), Kd.R_step h.r (fun k _ hk => hW.block k hk (by simp))⟩
theorem Fl.okB (h : Fl W0 wr g Aw cw n vt vb vr T bl rl) : ∀ k, wr.heap.size ≤ k → k ≠ g ∧ some k ≠ vr.ownBlock := fun k hk => ⟨by have := blk_lt h.G; omega, fun e => by have := Kd.R_lt h.r k e.symm; omega⟩
theorem Fl.okR (h : Fl W0 wr g Aw cw n vt vb vr T bl rl) : ∀ k, wr.heap.size ≤ k → k ≠ g ∧ some k ≠ vb.ownBlock := fun k hk => ⟨by have := blk_lt h.G; omega, fun e => by have := Kd.R_lt h.b k e.symm; omega⟩
theorem Fl.okT (h : Fl W0 wr g Aw cw n vt vb vr T bl rl) : ∀ k, wr.heap.size ≤ k → k ≠ g := fun k hk => by have := blk_lt h.G; omega
theorem setG {g i : Nat} {cs : Array Value} {t : Nat} (h : w1.heap[g]? = some (.cells cs t (0, 0))) (v : Value) : (w1.setCell ⟨g, i, none⟩ v).heap[g]? = some (.cells (cs.setIfInBounds i v) t (0, 0)) := by
 simp [World.setCell, Array.getElem?_modify, h]
theorem setK {W0 : World} {g i : Nat} (h : RowKit.Below W0.heap.size W0 w1) (hg : W0.heap.size ≤ g) (v : Value) : RowKit.Below W0.heap.size W0 (w1.setCell ⟨g, i, none⟩ v) :=
 ⟨h.os, h.tape, h.output, by simpa [World.setCell] using h.size, fun k hk => (Below.heap_setCell _ _ _ _ (by show k ≠ g; omega)).trans (h.block k hk)⟩
theorem Fl.putB (h : Fl W0 W g Aw cw n vt vb vr T bl rl) {x : Int} (hR : (Kd.int .i64).R 3 w1 W0.heap.size (fun k => k ≠ g ∧ some k ≠ vr.ownBlock) v1 (bl ++ [x])) (hB : RowKit.Below W0.heap.size W0 w1) (hgr : W.grownBy w1 vb.ownBlock) (hat : v1.ownBlock = vb.ownBlock ∨ ∃ b, v1.ownBlock = some b ∧ W.heap.size ≤ b) :
  Fl W0 (w1.setCell ⟨g, 2, none⟩ v1) g Aw cw n vt v1 vr T (bl ++ [x]) rl := by
 have hG1 := (hgr.block g (blk_lt h.G) (fun e => (h.b.1 g e.symm).1 rfl)).trans h.G
 refine ⟨setK hB h.hg _, h.hg, setG hG1 _, ?_, ?_, ?_⟩
 ·exact Kd.R_far (p := ⟨g, 2, none⟩) (Kd.R_over h.t h.b ne36 hgr) (fun k hk => hk) _
 ·exact Kd.R_far (p := ⟨g, 2, none⟩) hR (fun k hk => hk.1) _
 ·exact Kd.R_far (p := ⟨g, 2, none⟩) (Kd.R_after h.r hgr hat) (fun k hk => hk.1) _
theorem Fl.putR (h : Fl W0 W g Aw cw n vt vb vr T bl rl) {x : Int} (hR : (Kd.int .i64).R 3 w1 W0.heap.size (fun k => k ≠ g ∧ some k ≠ vb.ownBlock) v1 (rl ++ [x])) (hB : RowKit.Below W0.heap.size W0 w1) (hgr : W.grownBy w1 vr.ownBlock) (hat : v1.ownBlock = vr.ownBlock ∨ ∃ b, v1.ownBlock = some b ∧ W.heap.size ≤ b) :
  Fl W0 (w1.setCell ⟨g, 3, none⟩ v1) g Aw cw n vt vb v1 T bl (rl ++ [x]) := by
 have hG1 := (hgr.block g (blk_lt h.G) (fun e => (h.r.1 g e.symm).1 rfl)).trans h.G
 refine ⟨setK hB h.hg _, h.hg, setG hG1 _, ?_, ?_, ?_⟩
 ·exact Kd.R_far (p := ⟨g, 3, none⟩) (Kd.R_over h.t h.r ne36 hgr) (fun k hk => hk) _
 ·exact Kd.R_far (p := ⟨g, 3, none⟩) (Kd.R_after h.b hgr hat) (fun k hk => hk.1) _
 ·exact Kd.R_far (p := ⟨g, 3, none⟩) hR (fun k hk => hk.1) _
theorem Fl.putT (h : Fl W0 W g Aw cw n vt vb vr T bl rl) {x : Nat × Nat} (hR : kdT.R 36 w1 W0.heap.size (fun k => k ≠ g) v1 (T.map castT ++ [castT x])) (hB : RowKit.Below W0.heap.size W0 w1) (hgr : W.grownBy w1 vt.ownBlock) :
  Fl W0 (w1.setCell ⟨g, 1, none⟩ v1) g Aw cw n v1 vb vr (T ++ [x]) bl rl := by
 have hG1 := (hgr.block g (blk_lt h.G) (fun e => (h.t.1 g e.symm) rfl)).trans h.G
 refine ⟨setK hB h.hg _, h.hg, setG hG1 _, ?_, ?_, ?_⟩
 ·rw [List.map_append]; exact Kd.R_far (p := ⟨g, 1, none⟩) hR (fun k hk => hk) _
 ·exact Kd.R_far (p := ⟨g, 1, none⟩) (Kd.R_over h.b h.t ne3 hgr) (fun k hk => hk.1) _
 ·exact Kd.R_far (p := ⟨g, 1, none⟩) (Kd.R_over h.r h.t ne3 hgr) (fun k hk => hk.1) _
end
def tus (ws : List (List Int)) : Nat → List (Nat × Nat)
 | 0 => []
 | i + 1 => tus ws i ++ (List.range (wd ws i).length).map (fun k => (i, k))
def chs (ws : List (List Int)) : Nat → List Int
 | 0 => []
 | i + 1 => chs ws i ++ wd ws i
def bas (ws : List (List Int)) (i : Nat) : List Int := (List.range i).map (fun j => (offs ws j : Int))
theorem tus_length {ws : List (List Int)} : ∀ {i : Nat}, i ≤ ws.length → (tus ws i).length = offs ws i
 | 0, _ => rfl
 | i + 1, h => by rw [tus, List.length_append, List.length_map, List.length_range, tus_length (by omega), offs_succ (by omega)]
theorem chs_length {ws : List (List Int)} : ∀ {i : Nat}, i ≤ ws.length → (chs ws i).length = offs ws i
 | 0, _ => rfl
 | i + 1, h => by rw [chs, List.length_append, chs_length (by omega), offs_succ (by omega)]
theorem bas_length {ws : List (List Int)} {i : Nat} : (bas ws i).length = i := by unfold bas; rw [List.length_map, List.length_range]
theorem bas_succ {ws : List (List Int)} {i : Nat} : bas ws (i + 1) = bas ws i ++ [(offs ws i : Int)] := by unfold bas; rw [List.range_succ, List.map_append]; rfl
theorem bas_get {ws : List (List Int)} {n i : Nat} (h : i < n) : (bas ws n).getD i 0 = (offs ws i : Int) := by
 unfold bas
 rw [List.getD_eq_getElem?_getD, List.getElem?_map, List.getElem?_range h]; rfl
theorem tus_mem {ws : List (List Int)} {t : Nat × Nat} : ∀ {i : Nat}, t ∈ tus ws i ↔ t.1 < i ∧ t.2 < (wd ws t.1).length
 | 0 => by simp [tus]
 | i + 1 => by
   rw [tus, List.mem_append, tus_mem, List.mem_map]
   constructor
   ·rintro (h | ⟨k, hk, rfl⟩)
    ·exact ⟨by omega, h.2⟩
    ·exact ⟨by show i < i + 1; omega, List.mem_range.1 hk⟩
   ·rintro ⟨h1, h2⟩
    by_cases e : t.1 = i
    ·refine .inr ⟨t.2, List.mem_range.2 (by rw [← e]; exact h2), ?_⟩
     rw [← e]
    ·exact .inl ⟨by omega, h2⟩
theorem tus_nodup {ws : List (List Int)} : ∀ (i : Nat), (tus ws i).Nodup
 | 0 => by simp [tus]
 | i + 1 => by
   rw [tus, List.nodup_append]
   refine ⟨tus_nodup i, ?_, ?_⟩
   ·refine List.Pairwise.map _ (fun a b h => ?_) List.nodup_range
    intro e; injection e with _ e; exact h e
   ·intro a ha b hb e
    subst e
    have h1 := (tus_mem.1 ha).1
    obtain ⟨k, _, rfl⟩ := List.mem_map.1 hb
    dsimp only at h1
    omega
theorem chs_get {ws : List (List Int)} {t : Nat × Nat} : ∀ {i : Nat}, i ≤ ws.length → t.1 < i → t.2 < (wd ws t.1).length → (chs ws i).getD (offs ws t.1 + t.2) 0 = (wd ws t.1).getD t.2 0
 | 0, _, h, _ => by omega
 | i + 1, hi, h1, h2 => by
   rw [chs, List.getD_eq_getElem?_getD]
   by_cases e : t.1 = i
   ·rw [List.getElem?_append_right (by rw [chs_length (by omega), e]; omega), chs_length (by omega), e, Nat.add_sub_cancel_left, ← List.getD_eq_getElem?_getD]
   ·have h3 := offs_mono (ws := ws) (show t.1 + 1 ≤ i by omega) (by omega)
    rw [offs_succ (by omega)] at h3
    rw [List.getElem?_append_left (by rw [chs_length (by omega)]; omega), ← List.getD_eq_getElem?_getD]
    exact chs_get (by omega) (by omega) h2
end Go.Proofs.YtbbpplnnegdenaaGreat.Of
end
section
namespace Go.Proofs.YtbbpplnnegdenaaGreat.Oz
open Go Go.RowKit Go.Shelf Go.Proofs Go.Sort Go.Proofs.YtbbpplnnegdenaaGreatW.PrintWords Go.Proofs.YtbbpplnnegdenaaGreat.So Go.Proofs.YtbbpplnnegdenaaGreat.St Go.Proofs.YtbbpplnnegdenaaGreat.Mo Go.Proofs.YtbbpplnnegdenaaGreat.Qt Go.Proofs.YtbbpplnnegdenaaGreat.Oa Go.Proofs.YtbbpplnnegdenaaGreat.Oc Go.Proofs.YtbbpplnnegdenaaGreat.Os Go.Proofs.YtbbpplnnegdenaaGreat.Od Go.Proofs.YtbbpplnnegdenaaGreat.Of
open Go.Proofs.YtbbpplnnegdenaaGreat.Om (wd isT onT on_zero at_ at_mem at_pw at_of_mem ixL ordK keyLt keyEq onT_is rkA ixL_asymm Omega OmI chg Numbered RankOf chr rkA_congr ltN eqN key_zero key_dbl)
section
variable {ws : List (List Int)} {rl : List Int}
def Rn (ws : List (List Int)) (rl : List Int) (t : Nat × Nat) : Nat := (rk ws rl t).toNat
theorem rk_nn (h : ∀ x ∈ rl, 0 ≤ x) (t : Nat × Nat) : 0 ≤ rk ws rl t := by
 unfold rk
 rw [List.getD_eq_getElem?_getD]
 cases e : rl[offs ws t.1 + t.2]? with
 | none => exact Int.le_refl _
 | some x => exact h x (List.mem_of_getElem? e)
theorem ord_of_sort (hnn : ∀ x ∈ rl, 0 ≤ x) {h : Nat} {T : List (Nat × Nat)} (hs : T.Pairwise (fun x y => ¬ cmpT ws rl h y x < 0)) (hnd : T.Nodup) : T.Pairwise (ordK ws (Rn ws rl) h) := by
 refine List.Pairwise.imp (fun {x y} hxy => ?_) (List.Pairwise.and hs hnd)
 obtain ⟨h1, h2⟩ := hxy
 rw [cmpT_lt] at h1
 have a := rk_nn (ws := ws) hnn x
 have b := rk_nn (ws := ws) hnn y
 have c := rk_nn (ws := ws) hnn (onT ws x h)
 have d := rk_nn (ws := ws) hnn (onT ws y h)
 have hne : ¬ (x.1 = y.1 ∧ x.2 = y.2) := fun e => h2 (Prod.ext e.1 e.2)
 unfold lex4 at h1
 unfold ordK keyLt keyEq ixL Rn
 omega
theorem chg_eq (hnn : ∀ x ∈ rl, 0 ≤ x) {h : Nat} {T : List (Nat × Nat)} (i : Nat) : chgI ws rl h T i = chg ws (Rn ws rl) h T i := by
 unfold chgI chg Rn
 have a := rk_nn (ws := ws) hnn (at_ T (i - 1))
 have b := rk_nn (ws := ws) hnn (at_ T i)
 have c := rk_nn (ws := ws) hnn (onT ws (at_ T (i - 1)) h)
 have d := rk_nn (ws := ws) hnn (onT ws (at_ T i) h)
 congr 1
 rw [Bool.eq_iff_iff, Bool.and_eq_true, Bool.and_eq_true, beq_iff_eq, beq_iff_eq, beq_iff_eq, beq_iff_eq]
 omega
theorem rk_eq (hnn : ∀ x ∈ rl, 0 ≤ x) {h : Nat} {T : List (Nat × Nat)} (i : Nat) : rkA (chgI ws rl h T) i = rkA (chg ws (Rn ws rl) h T) i := rkA_congr (n := i) (fun j _ => chg_eq hnn j) i (Nat.le_refl _)
theorem post_omI {W W' : World} {g b : Nat} {Aw : Option Addr} {cw : Nat} {vt : Value} {Ab : Option Addr} {cb : Nat} {bl : List Int} {T T' : List (Nat × Nat)} {h gr L : Nat} {xs : List Int} (hP : DPost W g b Aw cw vt Ab cb ws bl rl T h W' T' gr xs) (hnn : ∀ x ∈ rl, 0 ≤ x) (hnd : T.Nodup) (hall : ∀ t, t ∈ T ↔ isT ws t)
  (hk : ∀ {t t' : Nat × Nat}, isT ws t → isT ws t' → (keyLt ws (Rn ws rl) h t t' ↔ ltN L (chr ws t) (chr ws t')) ∧ (keyEq ws (Rn ws rl) h t t' ↔ eqN L (chr ws t) (chr ws t'))) :
  OmI ws L T' (Rn ws xs) (rkA (chgI ws rl h T') (T'.length - 1)) := by
 have hall' : ∀ t, t ∈ T' ↔ isT ws t := fun t => (hP.perm.mem_iff).trans (hall t)
 have hnd' : T'.Nodup := hP.perm.nodup_iff.2 hnd
 have hord := ord_of_sort hnn hP.sort hnd'
 have hnum : Numbered T' (chg ws (Rn ws rl) h T') (Rn ws xs) := by
  intro i hi
  have := hP.num i hi
  show (xs.getD (posT ws (at_ T' i)) 0).toNat = _
  rw [this, Int.toNat_natCast, rk_eq hnn]
 rw [rk_eq hnn]
 exact OmI.of hk hord hall' hnum
theorem first_rank {n : Nat} (hn : n = ws.length) (hby : ∀ i, i < ws.length → ∀ x ∈ wd ws i, 0 ≤ x ∧ x < 256) : RankOf ws 1 (Rn ws (chs ws n)) ∧ ∀ x ∈ chs ws n, 0 ≤ x := by
 subst hn
 have h1 : ∀ t, isT ws t → rk ws (chs ws ws.length) t = chr ws t 0 ∧ 0 ≤ chr ws t 0 := by
  intro t ht
  have e : chr ws t 0 = (wd ws t.1).getD t.2 0 := by unfold chr; rw [Nat.add_zero, Nat.mod_eq_of_lt ht.2]
  rw [e]
  refine ⟨chs_get (Nat.le_refl _) ht.1 ht.2, ?_⟩
  exact (hby t.1 ht.1 _ (by rw [List.getD_eq_getElem?_getD, List.getElem?_eq_getElem ht.2]; exact List.getElem_mem ht.2)).1
 refine ⟨fun t t' ht ht' => ?_, ?_⟩
 ·obtain ⟨e1, n1⟩ := h1 t ht
  obtain ⟨e2, n2⟩ := h1 t' ht'
  unfold Rn
  rw [e1, e2]
  constructor
  ·constructor
   ·intro h; exact ⟨0, by omega, fun j hj => by omega, by omega⟩
   ·rintro ⟨k, hk, _, h⟩
    obtain rfl : k = 0 := by omega
    omega
  ·constructor
   ·intro h j hj
    obtain rfl : j = 0 := by omega
    omega
   ·intro h; rw [h 0 (by omega)]
 ·have : ∀ i, i ≤ ws.length → ∀ x ∈ chs ws i, 0 ≤ x := by
   intro i
   induction i with
   | zero => intro _ x hx; simp [chs] at hx
   | succ i ih =>
     intro hi x hx
     rw [chs] at hx
     rcases List.mem_append.1 hx with h | h
     ·exact ih (by omega) x h
     ·exact (hby i (by omega) x h).1
  exact this _ (Nat.le_refl _)
end
structure OS (W0 wr : World) (g b : Nat) (Aw : Option Addr) (cw : Nat) (vt : Value) (Ab : Option Addr) (cb : Nat) (Ar : Option Addr) (cr : Nat) (ws : List (List Int)) (T : List (Nat × Nat)) (bl rl : List Int) : Prop where
 K : RowKit.Below W0.heap.size W0 wr
 hg : W0.heap.size ≤ g
 hb : W0.heap.size ≤ b
 gb : g ≠ b
 G : wr.heap[g]? = some (.cells #[.slice Aw ws.length cw, vt, .slice Ab bl.length cb, .slice Ar rl.length cr] 115 (0, 0))
 rb : (Kd.int .i64).R 3 wr W0.heap.size (fun k => k ≠ g ∧ k ≠ b) (.slice Ab bl.length cb) bl
 rr : (Kd.int .i64).R 3 wr W0.heap.size (fun k => k ≠ g ∧ k ≠ b) (.slice Ar rl.length cr) rl
 row : TRow wr b T
 perm : T.Perm (tus ws ws.length)
 len : rl.length = offs ws ws.length
 nn : ∀ x ∈ rl, 0 ≤ x
theorem R_of_IRow {W : World} {g base : Nat} {ok : Nat → Prop} {xs : List Int} (h : IRow W g .i64 3 xs) (hb : base ≤ g) (hn : xs.length ≤ maxLen) (hok : ok g) : (Kd.int .i64).R 3 W base ok (.slice (some ⟨g, 0, none⟩) xs.length xs.length) xs :=
 Kd.R_of_own (enc := Value.int .i64) (h1 := fun _ => rfl) ⟨by simp [encs], .inr ⟨g, xs.length, _, rfl, hb, h, by simp, hn, by simp, by simp [encs, List.take_of_length_le]⟩⟩ (fun k hk => by simp [Value.ownBlock] at hk; rw [← hk]; exact hok)
section
variable {W0 wr W1 : World} {g b : Nat} {Aw : Option Addr} {cw : Nat} {vt : Value} {Ab : Option Addr} {cb : Nat} {Ar : Option Addr} {cr : Nat} {ws : List (List Int)} {T : List (Nat × Nat)} {bl rl : List Int}
theorem OS.all (h : OS W0 wr g b Aw cw vt Ab cb Ar cr ws T bl rl) (t : Nat × Nat) : t ∈ T ↔ isT ws t := (h.perm.mem_iff).trans tus_mem
theorem OS.nodup (h : OS W0 wr g b Aw cw vt Ab cb Ar cr ws T bl rl) : T.Nodup := h.perm.nodup_iff.2 (tus_nodup _)
theorem OS.srt (h : OS W0 wr g b Aw cw vt Ab cb Ar cr ws T bl rl) (hw : Words W0 Aw ws) (hbl : bl = bas ws ws.length) (hs : offs ws ws.length ≤ 1000000000) : Srt (bare wr b) g Aw cw Ab cb Ar cr ws bl rl := by
 have hag : ∀ k, k ≠ b → (bare wr b).heap[k]? = wr.heap[k]? := fun k hk => by rw [bare_heap, if_neg (fun e => hk e.symm)]
 have hbR := Kd.R_step (w1 := bare wr b) h.rb (fun k hk _ => hag k hk.2)
 have hrR := Kd.R_step (w1 := bare wr b) h.rr (fun k hk _ => hag k hk.2)
 obtain ⟨A1, c1, e1, _, hC1⟩ := Kd.R_reads hbR
 obtain ⟨A2, c2, e2, _, hC2⟩ := Kd.R_reads hrR
 injection e1 with e1 _ _
 injection e2 with e2 _ _
 subst e1 e2
 refine ⟨?_, ?_, ?_, ?_, hC1, hC2, ⟨by rw [hbl, bas_length], fun i hi => by rw [hbl]; exact bas_get hi⟩, h.len, hs⟩
 ·rw [bare_cell (by exact h.gb)]; exact blk_cell h.G 0
 ·rw [bare_cell (by exact h.gb)]; exact blk_cell h.G 2
 ·rw [bare_cell (by exact h.gb)]; exact blk_cell h.G 3
 ·exact hw.le (le_bare (fun k hk => h.K.block k hk) h.hb)
theorem OS.next (h : OS W0 wr g b Aw cw vt Ab cb Ar cr ws T bl rl) {T' : List (Nat × Nat)} {hh gr : Nat} {xs : List Int} (hP : DPost wr g b Aw cw vt Ab cb ws bl rl T hh W1 T' gr xs) (hs : xs.length ≤ 1000000000) : OS W0 W1 g b Aw cw vt Ab cb (some ⟨gr, 0, none⟩) xs.length ws T' bl xs := by
 have hgr := blk_lt h.G
 have hbr := h.row.lt
 have hf := hP.fresh
 have k0 := h.K.size
 refine ⟨h.K.trans (hP.K.toBelow h.K.size (fun k hk => ?_)), h.hg, h.hb, h.gb, hP.G, ?_, ?_, hP.row, hP.perm.trans h.perm, hP.len.trans h.len, hP.nn⟩
 ·simp only [List.mem_cons, List.not_mem_nil, or_false] at hk
  rcases hk with rfl | rfl
  ·exact h.hb
  ·exact h.hg
 ·exact Kd.R_step h.rb (fun k hk hlt => hP.K.block k hlt (by simp only [List.mem_cons, List.not_mem_nil, or_false, not_or]; exact ⟨hk.2, hk.1⟩))
 ·exact R_of_IRow hP.R (by omega) (by simp only [maxLen]; omega) ⟨by omega, by omega⟩
end
end Go.Proofs.YtbbpplnnegdenaaGreat.Oz
end
section
namespace Go.Proofs.YtbbpplnnegdenaaGreat.Ot
open Go Go.RowKit Go.Shelf Go.Proofs Go.Sort Go.Proofs.YtbbpplnnegdenaaGreatW.PrintWords Go.Proofs.YtbbpplnnegdenaaGreat.So Go.Proofs.YtbbpplnnegdenaaGreat.St Go.Proofs.YtbbpplnnegdenaaGreat.Mo Go.Proofs.YtbbpplnnegdenaaGreat.Qt Go.Proofs.YtbbpplnnegdenaaGreat.Oa Go.Proofs.YtbbpplnnegdenaaGreat.Oc Go.Proofs.YtbbpplnnegdenaaGreat.Os Go.Proofs.YtbbpplnnegdenaaGreat.Od Go.Proofs.YtbbpplnnegdenaaGreat.Of Go.Proofs.YtbbpplnnegdenaaGreat.Oz
open Go.Proofs.YtbbpplnnegdenaaGreat.Om (wd isT onT on_zero at_ at_mem at_pw at_of_mem ixL ordK keyLt keyEq onT_is rkA ixL_asymm Omega OmI chg Numbered RankOf chr key_zero key_dbl)
def TRes (W : World) (v : Value) (T : List (Nat × Nat)) : Prop := ((∃ A c, v = .slice A 0 c) ∧ T = []) ∨ ∃ b cap, v = .slice (some ⟨b, 0, none⟩) T.length cap ∧ TRow W b T
def TPost (W : World) (ws : List (List Int)) (W' : World) (v : Value) : Prop := ∃ T, Omega ws T ∧ TRes W' v T ∧ RowKit.Below W.heap.size W W'
structure Lg (ws : List (List Int)) (i lg : Nat) : Prop where
 le : ∀ j, j < i → (wd ws j).length ≤ lg
 ex : 0 < lg → ∃ j, j < i ∧ 0 < (wd ws j).length
 small : lg ≤ 100000000
theorem take_snoc {bs : List Int} {i : Nat} (h : i < bs.length) : bs.take (i + 1) = bs.take i ++ [bs.getD i 0] := by
 rw [List.take_succ_eq_append_getElem h, List.getD_eq_getElem?_getD, List.getElem?_eq_getElem h]; rfl
theorem word_le {ws : List (List Int)} {i : Nat} (h : i < ws.length) : (wd ws i).length ≤ offs ws ws.length := by
 have h1 := offs_succ h
 have h2 := offs_mono (ws := ws) (show i + 1 ≤ ws.length from h) (Nat.le_refl _)
 omega
theorem turns_calls (W : World) (Aw : Option Addr) (cw : Nat) (ws : List (List Int)) (hw : Words W Aw ws) (hby : ∀ i, i < ws.length → ∀ x ∈ wd ws i, 0 ≤ x ∧ x < 256) (hl : offs ws ws.length ≤ 100000000) (hn : ws.length ≤ 100000000) :
  Calls Tryz.prog 37 #[.slice Aw ws.length cw] W fun e W' => ∃ v, e = .returned v ∧ TPost W ws W' v := by
 obtain ⟨w1, hw1⟩ : ∃ w1, W.alloc (.cells #[.slice Aw ws.length cw, .slice none 0 0, .slice none 0 0, .slice none 0 0] 115) = w1 := ⟨_, rfl⟩
 obtain ⟨g, hg⟩ : ∃ g, W.heap.size = g := ⟨_, rfl⟩
 obtain ⟨n, hnn⟩ : ∃ n, ws.length = n := ⟨_, rfl⟩
 have F0 : Aside0 (Fl W w1 g Aw cw n (.slice none 0 0) (.slice none 0 0) (.slice none 0 0) [] [] []) := ⟨by
  refine ⟨?_, by omega, ?_, Kd.R_nil _ _ _ _ _, Kd.R_nil _ _ _ _ _, Kd.R_nil _ _ _ _ _⟩
  ·rw [← hw1]; exact (RowKit.Below.refl _ W).alloc (Nat.le_refl _) _
  ·rw [← hw1, ← hg, ← hnn]; exact World.alloc_heap_new W _⟩
 have HW := Aside0.mk hw
 have HBY := Aside0.mk hby
 have HN := Aside0.mk hnn
 have HG := Aside0.mk hg
 rw [hnn] at hn hw1 ⊢
 clear hw hby hnn
 go_enter Tryz.func37, Tryz.ntmps37
 go_wp2_with (fail)
 clear hw1 hg
 go_loopw [4, 18] (fun v4 v18 wr => ∃ (i lg : Nat) (vt vb vr : Value), v4 = .int .i64 lg ∧ v18 = .int .i64 i ∧ Aside0 (i ≤ n) ∧ Aside0 (Lg ws i lg) ∧ Aside0 (Fl W wr g Aw cw n vt vb vr (tus ws i) (bas ws i) (chs ws i))) (fun v4 v18 _ => n - (intOf v18).toNat)
 case atStart => exact ⟨0, 0, _, _, _, rfl, rfl, ⟨by omega⟩, ⟨⟨fun j hj => by omega, fun h => by omega, by omega⟩⟩, F0⟩
 case round =>
  obtain ⟨i, lg, vt, vb, vr, rfl, rfl, hi, hL, hF⟩ := hrel
  have hile := hi.out
  by_cases hlt : i < n
  ·have hiw : i < ws.length := by rw [HN.out]; exact hlt
   obtain ⟨aw, B, c, rfl, cw0, hlc, hCw⟩ := HW.out.at hiw
   have cw1 := CellLe.below hF.out.K _ _ cw0
   have hCw1 := C_le hCw (CellLe.below hF.out.K)
   have hlen := word_le hiw
   obtain ⟨x, hx⟩ : ∃ x, wd ws i = x := ⟨_, rfl⟩
   rw [hx] at cw1 hCw1 hlc hlen
   have hxs : x.length ≤ 100000000 := by omega
   have hto := offs_mono (ws := ws) (show i ≤ ws.length from Nat.le_of_lt hiw) (Nat.le_refl _)
   have htl := tus_length (ws := ws) (i := i) (Nat.le_of_lt hiw)
   obtain ⟨At, ct, rfl⟩ := Kd.R_slice hF.out.t
   obtain ⟨Ab, cb, rfl⟩ := Kd.R_slice hF.out.b
   obtain ⟨Ar, cr, rfl⟩ := Kd.R_slice hF.out.r
   have hml : ((tus ws i).map castT).length = offs ws i := by rw [List.length_map, htl]
   have c2 := blk_cell hF.out.G 2
   have f2 : wr.frozen? ⟨g, 2, none⟩ = false := blk_frozen hF.out.G 2
   have c1 : wr.cell? ⟨g, 1, none⟩ = some (.slice At (offs ws i) ct) := by rw [← hml]; exact blk_cell hF.out.G 1
   obtain ⟨off, hoff⟩ : ∃ off, offs ws i = off := ⟨_, rfl⟩
   rw [hoff] at c1
   have HOFF := Aside0.mk hoff
   have HFD := Aside0.mk (hF.out.move (Keep.drew [] wr))
   have hgw := blk_lt hF.out.G
   have HLN : Aside0 ((tus ws i).length = off ∧ (chs ws i).length = off ∧ off + x.length ≤ 100000000) := ⟨by
    refine ⟨htl.trans hoff, (chs_length (Nat.le_of_lt hiw)).trans hoff, ?_⟩
    have h1 := offs_succ hiw
    have h2 := offs_mono (ws := ws) (show i + 1 ≤ ws.length from hiw) (Nat.le_refl _)
    rw [hx] at h1
    omega⟩
   have HSZ : Aside0 ((bas ws i).length + 1 ≤ 1000000000) := ⟨by rw [bas_length]; omega⟩
   have HBL : Aside0 (W.heap.size ≤ wr.heap.size) := ⟨hF.out.K.size⟩
   have HCW := Aside0.mk hCw1
   have HX := Aside0.mk hx
   have HCW0 := Aside0.mk (show Kd.C (Kd.int .u8) W B x.length x from hx ▸ hCw)
   clear hx hoff hto htl hml hCw hCw1 cw0
   go_wp2_with (fail)
   go_region_law (
    refine Kd.R_append_step (W := wr.drew) (Kd.int .i64) (w0 := W) W.heap.size rfl (.tmp 27) (.tmp 33) 29 3 (.int .i64 0) 8 rfl Tryz.underlying29 Of.info3 rfl (by decide) (by decide) (.slice Ab (bas ws i).length cb) (bas ws i) off [.int .i64 off] (fun k => k ≠ g ∧ some k ≠ (Value.slice Ar (chs ws i).length cr).ownBlock) (fun _ => False) rfl rfl rfl (fun _ hk => hk.elim) HFD.out.okB HFD.out.b HFD.out.K HBL.out (by have := HSZ.out; omega) ?_
    intro v1 w5 hR5 hB5 hg5 ha5
    obtain ⟨A5, c5, rfl⟩ := Kd.R_slice hR5
    have nF := Aside0.mk (HFD.out.putB hR5 hB5 hg5 ha5)
    have nG := (hg5.block g (blk_lt HFD.out.G) (fun e => (HFD.out.b.1 g e.symm).1 rfl)).trans HFD.out.G
    have d2 := blk_cell nG 2
    have e2 : w5.frozen? ⟨g, 2, none⟩ = false := blk_frozen nG 2
    clear hR5 hB5 hg5 ha5 nG)
   all_goals (go_wp2_with (fail))
   all_goals (
    have eT : Aside0 (∃ vt vb vr, Fl W (w5.setCell ⟨g, 2, none⟩ (.slice A5 ((bas ws i).length + 1) c5)) g (some aw) cw n vt vb vr (tus ws i ++ (List.range 0).map (fun k => (i, k))) (bas ws (i + 1)) (chs ws i ++ x.take 0)) := ⟨by
     have h := nF.out
     rw [List.length_append, List.length_singleton] at h
     rw [List.range_zero, List.map_nil, List.append_nil, List.take_zero, List.append_nil, bas_succ, HOFF.out]
     exact ⟨_, _, _, h⟩⟩
    obtain ⟨w6, hw6⟩ : ∃ w6, w5.setCell ⟨g, 2, none⟩ (.slice A5 ((bas ws i).length + 1) c5) = w6 := ⟨_, rfl⟩
    rw [hw6] at eT ⊢
    have CW6 := Aside0.mk (show Kd.C (Kd.int .u8) w6 B x.length x from by
     obtain ⟨_, _, _, h⟩ := eT.out
     have h0 := HCW0.out
     exact C_le h0 (CellLe.below h.K))
    clear hw6 nF d2 e2 cw1 c1 c2 f2
    go_loopw [43] (fun v43 wq => ∃ (k : Nat), v43 = .int .i64 k ∧ Aside0 (k ≤ x.length) ∧ Aside0 (∃ vt vb vr, Fl W wq g (some aw) cw n vt vb vr (tus ws i ++ (List.range k).map (fun k => (i, k))) (bas ws (i + 1)) (chs ws i ++ x.take k))) (fun v43 _ => x.length - (intOf v43).toNat)
    case atStart => exact ⟨0, rfl, ⟨by omega⟩, eT⟩
    case round =>
     obtain ⟨k, rfl, hk, hE⟩ := hrel
     obtain ⟨vt, vb2, vr, hF2⟩ := hE.out
     have hkle := hk.out
     by_cases hkl : k < x.length
     ·obtain ⟨ad, rfl, cX⟩ := Kd.at_int (C_le HCW0.out (CellLe.below hF2.K)) k (by omega) (by omega)
      obtain ⟨At2, ct2, rfl⟩ := Kd.R_slice hF2.t
      obtain ⟨y, hy⟩ : ∃ y, Go.Proofs.YtbbpplnnegdenaaGreatW.PrintWords.rd x k = y := ⟨_, rfl⟩
      rw [Int.toNat_natCast, hy] at cX
      have hyb : 0 ≤ y ∧ y < 256 := by
       rw [← hy]
       unfold Go.Proofs.YtbbpplnnegdenaaGreatW.PrintWords.rd
       rw [Int.toNat_natCast]
       have h := HBY.out i hiw
       rw [HX.out] at h
       exact h _ (by rw [List.getD_eq_getElem?_getD, List.getElem?_eq_getElem hkl]; exact List.getElem_mem hkl)
      obtain ⟨T0, hT0⟩ : ∃ T0, tus ws i ++ (List.range k).map (fun k => (i, k)) = T0 := ⟨_, rfl⟩
      obtain ⟨R0, hR0⟩ : ∃ R0, chs ws i ++ x.take k = R0 := ⟨_, rfl⟩
      rw [hT0, hR0] at hF2
      have hTl : (T0.map castT).length ≤ 1000000000 := by
       rw [List.length_map, ← hT0, List.length_append, List.length_map, List.length_range]
       have := HLN.out; omega
      have hRl : R0.length ≤ 1000000000 := by
       rw [← hR0, List.length_append, List.length_take]
       have := HLN.out; omega
      obtain ⟨m, hm⟩ : ∃ m, (T0.map castT).length = m := ⟨_, rfl⟩
      rw [hm] at hF2
      have c1 : wr.cell? ⟨g, 1, none⟩ = some (.slice At2 m ct2) := blk_cell hF2.G 1
      have f1 : wr.frozen? ⟨g, 1, none⟩ = false := blk_frozen hF2.G 1
      have HF2 := Aside0.mk hF2
      have HTL : Aside0 ((m + 1) * 16 ≤ 140737488355328) := ⟨by omega⟩
      have HM := Aside0.mk hm
      have HR0L := Aside0.mk hRl
      have HT0 := Aside0.mk hT0
      have HR0 := Aside0.mk hR0
      have HY := Aside0.mk hy
      have hwc : IntKind.i64.wrap y = y := i64_id (by omega) (by omega)
      clear hE hF2 hm hTl hRl hT0 hR0 hy
      go_wp2_with (at_builtin; refine Kd.R_append kdT (W := wr) (w0 := W) W.heap.size rfl (.tmp 52) (.tmp 56) 31 36 (.agg #[.int .i64 0, .int .i64 0]) 16 rfl Tryz.underlying31 infoT szT szP (by decide) (.slice At2 m ct2) (T0.map castT) (castT (i, k)) [.int .i64 i, .int .i64 k] (fun k => k ≠ g) (fun _ => False) rfl rfl (kdT_M _ _ _ (i, k)) (fun _ hk => hk.elim) HF2.out.okT HF2.out.t HF2.out.K HF2.out.K.size (by rw [HM.out]; exact HTL.out) ?_)
      intro v2 w2 hR2 hB2 hg2 _
      obtain ⟨A2, c2', rfl⟩ := Kd.R_slice hR2
      have hml : (T0.map castT ++ [castT (i, k)]).length = m + 1 := by rw [List.length_append, List.length_singleton, HM.out]
      rw [hml] at hR2 ⊢
      have nF := HF2.out.putT (x := (i, k)) hR2 hB2 hg2
      have nG := (hg2.block g (blk_lt HF2.out.G) (fun e => (HF2.out.t.1 g e.symm) rfl)).trans HF2.out.G
      have d1 := blk_cell nG 1
      have e1 : w2.frozen? ⟨g, 1, none⟩ = false := blk_frozen nG 1
      obtain ⟨Ar2, cr2, rfl⟩ := Kd.R_slice nF.r
      obtain ⟨w7, hw7⟩ : ∃ w7, w2.setCell ⟨g, 1, none⟩ (.slice A2 (m + 1) c2') = w7 := ⟨_, rfl⟩
      rw [hw7] at nF
      obtain ⟨q, hq⟩ : ∃ q, R0.length = q := ⟨_, rfl⟩
      rw [hq] at nF
      have d3 : w7.cell? ⟨g, 3, none⟩ = some (.slice Ar2 q cr2) := blk_cell nF.G 3
      have e3 : w7.frozen? ⟨g, 3, none⟩ = false := blk_frozen nF.G 3
      have NF := Aside0.mk nF
      have HQ := Aside0.mk hq
      have HQL : Aside0 (q + 1 ≤ 1000000001) := ⟨by have := HR0L.out; omega⟩
      clear hR2 hB2 hg2 hml nF nG hq c1 f1 cX
      go_wp2_with (at_builtin; refine Kd.R_append (Kd.int .i64) (W := w7) (w0 := W) W.heap.size rfl (.tmp 64) (.tmp 67) 29 3 (.int .i64 0) 8 rfl Tryz.underlying29 Of.info3 rfl (by decide) (by decide) (.slice Ar2 q cr2) R0 y [.int .i64 y] (fun k' => k' ≠ g ∧ some k' ≠ vb2.ownBlock) (fun _ => False) rfl rfl rfl (fun _ hk => hk.elim) NF.out.okR NF.out.r NF.out.K NF.out.K.size (by have := HQL.out; have := HQ.out; omega) ?_)
      intro v3 w3 hR3 hB3 hg3 ha3
      obtain ⟨A3, c3', rfl⟩ := Kd.R_slice hR3
      have hml : (R0 ++ [y]).length = q + 1 := by rw [List.length_append, List.length_singleton, HQ.out]
      rw [hml] at hR3 ha3 ⊢
      have nF := NF.out.putR hR3 hB3 hg3 ha3
      have nG := (hg3.block g (blk_lt NF.out.G) (fun e => (NF.out.r.1 g e.symm).1 rfl)).trans NF.out.G
      have d3 := blk_cell nG 3
      have e3 : w3.frozen? ⟨g, 3, none⟩ = false := blk_frozen nG 3
      have NF3 := Aside0.mk nF
      clear hR3 hB3 hg3 ha3 hml nF nG NF hw7
      go_wp2_with (fail)
      refine ⟨⟨k + 1, by go_num, ⟨by omega⟩, ⟨?_⟩⟩, by simp [intOf]; omega⟩
      have h := NF3.out
      have e1 : tus ws i ++ (List.range (k + 1)).map (fun k => (i, k)) = T0 ++ [(i, k)] := by
       rw [List.range_succ, List.map_append, ← List.append_assoc, HT0.out]; rfl
      have e2 : chs ws i ++ x.take (k + 1) = R0 ++ [y] := by
       rw [take_snoc hkl, ← List.append_assoc, HR0.out, ← HY.out]
       unfold Go.Proofs.YtbbpplnnegdenaaGreatW.PrintWords.rd
       rw [Int.toNat_natCast]
      rw [e1, e2]
      exact ⟨_, _, _, h⟩
     ·obtain rfl : k = x.length := by omega
      go_wp2_with (fail)
      obtain ⟨vt, vb, vr, hF3⟩ := hE.out
      refine ⟨⟨i + 1, max lg x.length, vt, vb, vr, by go_num, by go_num, ⟨by omega⟩, ⟨?_⟩, ⟨?_⟩⟩, by simp [intOf]; omega⟩
      ·have h := hL.out
       refine ⟨fun j hj => ?_, fun h0 => ?_, ?_⟩
       ·by_cases e : j = i
        ·rw [e, HX.out]; omega
        ·have := h.le j (by omega); omega
       ·by_cases e : 0 < x.length
        ·exact ⟨i, by omega, by rw [HX.out]; exact e⟩
        ·obtain ⟨j, h1, h2⟩ := h.ex (by omega)
         exact ⟨j, by omega, h2⟩
       ·have := h.small; omega
      ·rw [tus, chs, HX.out]
       rw [List.take_length] at hF3
       exact hF3)
  ·obtain rfl : i = n := by omega
   have hF0 := hF.out
   have hT0 : (tus ws i).length ≤ 1000000000 := by rw [tus_length (Nat.le_of_eq HN.out.symm), ← HN.out]; omega
   have cC := clone_calls wr hF0.t hT0
   have d1 := blk_cell hF0.G 1
   have HL := hL.out
   clear hF F0
   go_wp2_with (fail)
   (with_reducible refine cC.mono ?_)
   clear cC d1
   rintro e w2 ⟨v1, rfl, hR1, hB1⟩
   have hFm := hF0.move (Keep.below hB1 [])
   obtain ⟨Ab, cb, rfl⟩ := Kd.R_slice hF0.b
   obtain ⟨Ar, cr, rfl⟩ := Kd.R_slice hF0.r
   have hwi := HN.out
   rcases Nat.eq_zero_or_pos lg with h0 | hpos
   ·have hT : tus ws i = [] := by
     rw [List.eq_nil_iff_forall_not_mem]
     intro t ht
     obtain ⟨h1, h2⟩ := tus_mem.1 ht
     have := HL.le t.1 h1
     omega
    obtain ⟨A1, c1, rfl⟩ := Kd.R_slice hR1
    rw [hT, List.map_nil, List.length_nil]
    have HO : Aside0 (Omega ws []) := ⟨⟨List.Pairwise.nil, fun t => ⟨(fun h => by cases h), (fun h => by
     have : t ∈ tus ws i := tus_mem.2 ⟨by rw [← hwi]; exact h.1, h.2⟩
     rw [hT] at this; cases this)⟩⟩⟩
    have HK := Aside0.mk (show RowKit.Below W.heap.size W w2 from hFm.K)
    subst h0
    clear hT hR1 hB1 hFm hF0 hT0 HL hL hwi
    go_wp2_with (fail)
    go_loopw [10, 11] (fun v10 v11 wr => v10 = .int .i64 (-1) ∧ v11 = .int .i64 0 ∧ Aside0 (wr = w2)) (fun v10 v11 _ => 0)
    case atStart => exact ⟨rfl, rfl, ⟨rfl⟩⟩
    case round =>
     obtain ⟨rfl, rfl, hw⟩ := hrel
     obtain rfl := hw.out
     go_wp2_with (fail)
     go_ret
     exact ⟨_, rfl, [], HO.out, .inl ⟨⟨_, _, rfl⟩, rfl⟩, HK.out⟩
   ·have hTp : 0 < (tus ws i).length := by
     obtain ⟨j, h1, h2⟩ := HL.ex hpos
     exact List.length_pos_of_mem (a := (j, 0)) (tus_mem.2 ⟨h1, h2⟩)
    obtain ⟨b, cap, rfl, hbb, _, hrow⟩ := TRow.of hR1 hTp
    have hgw := blk_lt hF0.G
    have hk0 := hF0.K.size
    have hOS : OS W w2 g b Aw cw vt Ab cb Ar cr ws (tus ws i) (bas ws i) (chs ws i) := by
     refine ⟨hFm.K, hFm.hg, by omega, by omega, by rw [hwi]; exact hFm.G, ?_, ?_, hrow, by rw [hwi], by rw [chs_length (Nat.le_of_eq hwi.symm), hwi], (first_rank hwi.symm HBY.out).2⟩
     ·exact Kd.R_mono (Kd.R_step (Kd.R_bound hF0.b) (fun k _ hk => hB1.block k hk)) (fun k hk => ⟨hk.1.1, by have := hk.2.2.1; omega⟩)
     ·exact Kd.R_mono (Kd.R_step (Kd.R_bound hF0.r) (fun k _ hk => hB1.block k hk)) (fun k hk => ⟨hk.1.1, by have := hk.2.2.1; omega⟩)
    obtain ⟨N, hN⟩ : ∃ N, (tus ws i).length = N := ⟨_, rfl⟩
    rw [hN]
    have HOS := Aside0.mk hOS
    have HFR := Aside0.mk (first_rank hwi.symm HBY.out).1
    have HNN := Aside0.mk hN
    have HLG := Aside0.mk HL
    have hlg := HL.small
    have HT0 := Aside0.mk hT0
    have HTP := Aside0.mk hTp
    clear hTp hbb hrow hgw hk0 hOS hN HL hL hT0 hR1 hB1 hFm hF0 hwi
    go_wp2_with (fail)
    go_loopw [10, 11] (fun v10 v11 wr => ∃ (was : Int) (h : Nat) (Ar : Option Addr) (cr : Nat) (rl : List Int) (T : List (Nat × Nat)), v10 = .int .i64 was ∧ v11 = .int .i64 h ∧ Aside0 (OS W wr g b Aw cw vt Ab cb Ar cr ws T (bas ws i) rl) ∧ Aside0 (h ≤ 4 * lg) ∧ Aside0 ((h = 0 ∧ was = -1 ∧ RankOf ws 1 (Rn ws rl)) ∨ (1 ≤ h ∧ ∃ was' : Nat, was = was' ∧ OmI ws h T (Rn ws rl) was'))) (fun v10 v11 _ => 2 * lg - (intOf v11).toNat)
    case atStart => exact ⟨-1, 0, Ar, cr, _, _, rfl, rfl, HOS, ⟨by omega⟩, ⟨.inl ⟨rfl, rfl, HFR.out⟩⟩⟩
    case round =>
     obtain ⟨was, h, Ar, cr, rl, T, rfl, rfl, hO, hh, hI⟩ := hrel
     have hh4 := hh.out
     by_cases hc : h < 2 * lg
     ·have hbl : (bas ws i).length = ws.length := by rw [bas_length, HN.out]
      have hTl : T.length = N := by rw [hO.out.perm.length_eq, HN.out, HNN.out]
      have hS := hO.out.srt HW.out (by rw [HN.out]) (by omega)
      have cD := doubles_calls wr cap hO.out.G hS hO.out.row (fun t ht => (hO.out.all t).1 ht) hO.out.nodup (fun e => by have := HTP.out; rw [HNN.out, ← hTl, e] at this; simp at this) (by rw [hTl, ← HNN.out]; exact HT0.out) (h := h) (by omega)
      rw [hTl] at cD
      have HTL := Aside0.mk hTl
      clear hS hbl hTl
      go_wp2_with (fail)
      (with_reducible refine cD.mono ?_)
      clear cD
      rintro e w3 ⟨T2, gr, xs, rfl, hP⟩
      have hxl : xs.length ≤ 1000000000 := by rw [hP.len, hO.out.len]; omega
      have NO := Aside0.mk (hO.out.next hP hxl)
      obtain ⟨nv, hnv⟩ : ∃ nv, rkA (chgI ws rl h T2) (T2.length - 1) = nv := ⟨_, rfl⟩
      rw [hnv]
      have hO0 : h = 0 → RankOf ws 1 (Rn ws rl) → OmI ws 1 T2 (Rn ws xs) nv := by
       intro e hr
       subst e
       rw [← hnv]
       exact post_omI hP hO.out.nn hO.out.nodup hO.out.all (fun a b => key_zero hr a b)
      have hO1 : ∀ {T' was'}, OmI ws h T' (Rn ws rl) was' → OmI ws (h + h) T2 (Rn ws xs) nv := by
       intro T' was' hr
       rw [← hnv]
       exact post_omI hP hO.out.nn hO.out.nodup hO.out.all (fun a b => key_dbl hr.rank a b)
      have HPM := Aside0.mk hP.perm
      have HT2 : Aside0 (T2.length = N) := ⟨hP.perm.length_eq.trans HTL.out⟩
      have H0 := Aside0.mk hO0
      have H1 := Aside0.mk (@hO1)
      clear hP hxl hnv hO0 hO1
      by_cases ce : (nv : Int) = was
      ·have hpos2 : 0 < h := by
        rcases hI.out with ⟨_, h2, _⟩ | ⟨h1, _⟩ <;> omega
       subst ce
       go_wp2_with (fail)
       go_ret
       rcases hI.out with ⟨_, h2, _⟩ | ⟨h1, was', h2, hOm⟩
       ·omega
       ·have e2 : was' = nv := by omega
        subst e2
        exact ⟨_, rfl, T2, hOm.stop (by omega) (H1.out hOm) HPM.out, .inr ⟨b, cap, by rw [HT2.out]; rfl, NO.out.row⟩, NO.out.K⟩
      ·go_wp2_with (fail)
       go_roundw
       case rel =>
        refine ⟨nv, max 1 (2 * h), _, _, xs, T2, rfl, ?_, NO, ⟨by omega⟩, ⟨.inr ⟨by omega, nv, rfl, ?_⟩⟩⟩
        ·congr 1; omega
        ·rcases hI.out with ⟨h1, _, hr⟩ | ⟨h1, was', _, hOm⟩
         ·have := H0.out h1 hr
          rw [show max 1 (2 * h) = 1 by omega]; exact this
         ·have := H1.out hOm
          rw [show max 1 (2 * h) = h + h by omega]; exact this
       case measure => simp [intOf]; omega
     ·go_wp2_with (fail)
      go_ret
      have hO1 := hO.out
      rcases hI.out with ⟨h1, _⟩ | ⟨h1, was', _, hOm⟩
      ·omega
      ·refine ⟨_, rfl, T, hOm.long (lg := lg) (fun j hj => HLG.out.le j (by rw [← HN.out]; exact hj)) (by omega), .inr ⟨b, cap, ?_, hO1.row⟩, hO1.K⟩
       rw [← HNN.out, hO1.perm.length_eq, HN.out]; rfl
end Go.Proofs.YtbbpplnnegdenaaGreat.Ot
end
section
namespace Go.Proofs.YtbbpplnnegdenaaGreat.Bt
open Go Go.RowKit Go.Shelf Go.Proofs Go.Sort Go.Proofs.YtbbpplnnegdenaaGreatW.PrintWords Go.Proofs.YtbbpplnnegdenaaGreat.So Go.Proofs.YtbbpplnnegdenaaGreat.St Go.Proofs.YtbbpplnnegdenaaGreat.Mo Go.Proofs.YtbbpplnnegdenaaGreat.Qt Go.Proofs.YtbbpplnnegdenaaGreat.Oa Go.Proofs.YtbbpplnnegdenaaGreat.Oc Go.Proofs.YtbbpplnnegdenaaGreat.Os Go.Proofs.YtbbpplnnegdenaaGreat.Od Go.Proofs.YtbbpplnnegdenaaGreat.Of Go.Proofs.YtbbpplnnegdenaaGreat.Oz Go.Proofs.YtbbpplnnegdenaaGreat.Ot
open Go.Proofs.YtbbpplnnegdenaaGreat.Om (wd isT onT on_zero at_ at_mem at_pw at_of_mem Omega)
def cutW : List Int → List Int → List (List Int)
 | _, [] => []
 | s, m :: l => s.take m.toNat :: cutW (s.drop m.toNat) l
def smN (fl : List Int) (i : Nat) : Nat := ((fl.take i).map Int.toNat).sum
theorem smN_succ {fl : List Int} {i : Nat} (h : i < fl.length) : smN fl (i + 1) = smN fl i + (fl.getD i 0).toNat := by
 unfold smN
 rw [take_snoc h, List.map_append, List.sum_append]
 simp
theorem smN_mono {fl : List Int} {i j : Nat} (hij : i ≤ j) (hj : j ≤ fl.length) : smN fl i ≤ smN fl j := by
 induction j with
 | zero => rw [show i = 0 by omega]; exact Nat.le_refl _
 | succ j ih =>
   rcases Nat.lt_or_ge j i with e | e
   ·rw [show i = j + 1 by omega]; exact Nat.le_refl _
   ·have := ih e (by omega); rw [smN_succ (by omega)]; omega
theorem cutW_length : ∀ (fl s : List Int), (cutW s fl).length = fl.length
 | [], _ => rfl
 | m :: l, s => by rw [cutW, List.length_cons, List.length_cons, cutW_length]
theorem cutW_get : ∀ (fl s : List Int) (i : Nat), i < fl.length → wd (cutW s fl) i = (s.drop (smN fl i)).take (fl.getD i 0).toNat
 | [], _, i, h => by simp at h
 | m :: l, s, 0, _ => by simp [wd, cutW, smN]
 | m :: l, s, i + 1, h => by
   have ih := cutW_get l (s.drop m.toNat) i (by simpa using h)
   unfold wd at ih ⊢
   rw [cutW, List.getD_cons_succ, ih, List.getD_cons_succ, List.drop_drop]
   unfold smN
   rw [List.take_succ_cons, List.map_cons, List.sum_cons]
theorem cutW_take {fl s : List Int} {i : Nat} (h : i < fl.length) : (cutW s fl).take (i + 1) = (cutW s fl).take i ++ [(s.drop (smN fl i)).take (fl.getD i 0).toNat] := by
 have hl : i < (cutW s fl).length := by rw [cutW_length]; exact h
 rw [List.take_succ_eq_append_getElem hl]
 congr 2
 have := cutW_get fl s i h
 unfold wd at this
 rw [List.getD_eq_getElem?_getD, List.getElem?_eq_getElem hl] at this
 exact this
def lastC (ws : List (List Int)) (t : Nat × Nat) : Int := (wd ws t.1).getD ((t.2 + (wd ws t.1).length - 1) % (wd ws t.1).length) 0
theorem infoH : (Tryz.prog.info? 22).map (fun i => (i.zero, i.size, i.bytes)) = some (some (.slice none 0 0), kdH.sz, 24) := by
 have : (Tryz.prog.info? 22).map (fun i => (i.zero, i.size, i.bytes)) = some (some (.slice none 0 0), 1, 24) := by kernel_rfl
 exact this
theorem info5 : (Tryz.prog.info? 5).map (fun i => (i.zero, i.size, i.bytes)) = some (some (.int .u8 0), 1, 1) := by kernel_rfl
structure Wi (W W1 wr : World) (v : Value) (hs : List Hdr) (ws : List (List Int)) : Prop where
 K : RowKit.Below W1.heap.size W1 wr
 R : kdH.R 22 wr W1.heap.size (fun _ => True) v hs
 I : Inner W hs ws
theorem getD_append_l {α : Type} {l r : List α} {i : Nat} {d : α} (h : i < l.length) : (l ++ r).getD i d = l.getD i d := by
 rw [List.getD_eq_getElem?_getD, List.getElem?_append_left h, ← List.getD_eq_getElem?_getD]
theorem getD_append_e {α : Type} {l : List α} {x d : α} : (l ++ [x]).getD l.length d = x := by
 rw [List.getD_eq_getElem?_getD, List.getElem?_append_right (Nat.le_refl _)]; simp
theorem inner_snoc {W : World} {hs : List Hdr} {ws : List (List Int)} (h : Inner W hs ws) {A : Option Addr} {w : List Int} {c : Nat} (hc : w.length ≤ c) (hC : (Kd.int .u8).C W A w.length w) : Inner W (hs ++ [(A, w.length, c)]) (ws ++ [w]) := by
 refine ⟨by rw [List.length_append, List.length_append, h.len]; rfl, fun i hi => ?_⟩
 rw [List.length_append, List.length_singleton] at hi
 unfold wd
 rcases Nat.lt_or_ge i ws.length with e | e
 ·obtain ⟨B, d, e1, e2, e3⟩ := h.each i e
  rw [getD_append_l (by rw [h.len]; exact e), getD_append_l e]
  exact ⟨B, d, e1, e2, e3⟩
 ·obtain rfl : i = ws.length := by omega
  rw [getD_append_e]
  refine ⟨A, c, ?_, hc, hC⟩
  rw [← h.len, getD_append_e]
structure Lo (W wr : World) (vW : Value) (hs : List Hdr) (v8 : Value) (outs : List Int) (b : Nat) (T : List (Nat × Nat)) : Prop where
 K : RowKit.Below W.heap.size W wr
 Rw : kdH.R 22 wr W.heap.size (fun _ => True) vW hs
 Ro : (Kd.int .u8).R 5 wr W.heap.size (fun _ => True) v8 outs
 row : T ≠ [] → TRow wr b T
theorem neH : ∀ q, q ∈ 22 :: kdH.E → q ≠ 5 := by
 intro q hq
 have : q = 22 := by simpa [kdH, Kd.scalar] using hq
 omega
theorem turn_calls (W : World) (A0 : Option Addr) (c0 : Nat) (s : List Int) (hC : (Kd.int .u8).C W A0 s.length s) (hc : s.length ≤ c0) (hby : ∀ x ∈ s, 0 ≤ x ∧ x < 256) (hn : s.length ≤ 100000) (fl : List Int)
  (hF : Calls Tryz.prog 36 #[.slice A0 s.length c0] W fun e w' => ∃ v, e = .returned v ∧ (Kd.int .i64).R 3 w' W.heap.size (fun _ => True) v fl ∧ RowKit.Below W.heap.size W w')
  (hfp : ∀ x ∈ fl, 0 < x) (hfs : smN fl fl.length = s.length) (hfl : fl.length ≤ s.length) :
  Calls Tryz.prog 11 #[.slice A0 s.length c0] W fun e W' => ∃ v T, e = .returned (.tuple #[v, .int .i64 0]) ∧ Omega (cutW s fl) T ∧ (Kd.int .u8).R 5 W' W.heap.size (fun _ => True) v (T.map (lastC (cutW s fl))) ∧ RowKit.Below W.heap.size W W' := by
 have HC := Aside0.mk hC
 have HBY := Aside0.mk hby
 have HFP := Aside0.mk hfp
 have HFS := Aside0.mk hfs
 obtain ⟨N, hN⟩ : ∃ N, s.length = N := ⟨_, rfl⟩
 have HNN := Aside0.mk hN
 rw [hN] at hn hc hfl hF ⊢
 clear hC hby hfp hfs hN
 go_enter Tryz.func11, Tryz.ntmps11
 go_wp2_with (fail)
 (with_reducible refine hF.mono ?_)
 clear hF
 rintro e w1 ⟨v1, rfl, hR1, hB1⟩
 obtain ⟨A1, c1, rfl, hc1, hC1⟩ := Kd.R_reads hR1
 obtain ⟨M, hM⟩ : ∃ M, fl.length = M := ⟨_, rfl⟩
 rw [hM] at hc1 hC1 hfl ⊢
 have HM := Aside0.mk hM
 have HFL := Aside0.mk hC1
 have I0 : Aside0 (Wi W w1 w1 (.slice none 0 0) [] ((cutW s fl).take 0)) := ⟨⟨RowKit.Below.refl _ _, Kd.R_nil _ _ _ _ _, ⟨by simp, fun i hi => by simp at hi⟩⟩⟩
 have HB1 := Aside0.mk hB1
 clear hR1 hC1 hM hB1
 go_wp2_with (fail)
 obtain ⟨i5, hi5, hz0, hz1, hz2⟩ := info_parts info5
 go_loopw [4, 5, 18] (fun v4 v5 v18 wr => ∃ (i : Nat) (hs : List Hdr), v5 = .int .i64 (smN fl i) ∧ v18 = .int .i64 i ∧ Aside0 (i ≤ M) ∧ Aside0 (Wi W w1 wr v4 hs ((cutW s fl).take i))) (fun v4 v5 v18 _ => M - (intOf v18).toNat)
 case atStart => exact ⟨0, [], rfl, rfl, ⟨by omega⟩, I0⟩
 case round =>
  obtain ⟨i, hs, rfl, rfl, hi, hI⟩ := hrel
  have hile := hi.out
  by_cases hlt : i < M
  ·have hif : i < fl.length := by rw [HM.out]; exact hlt
   obtain ⟨ad, rfl, cF⟩ := C_at (C_le HFL.out (CellLe.below hI.out.K)) 0 hlt
   have hmp := HFP.out _ (by rw [List.getD_eq_getElem?_getD, List.getElem?_eq_getElem hif]; exact List.getElem_mem hif : fl.getD i 0 ∈ fl)
   have hs1 := smN_succ hif
   have hs2 := smN_mono (fl := fl) (show i + 1 ≤ fl.length from hif) (Nat.le_refl _)
   rw [HFS.out, HNN.out] at hs2
   obtain ⟨m, hm⟩ : ∃ m : Nat, fl.getD i 0 = m := ⟨(fl.getD i 0).toNat, by omega⟩
   rw [hm] at cF hmp hs1
   rw [Int.toNat_natCast] at hs1
   obtain ⟨at', hat⟩ : ∃ a, smN fl i = a := ⟨_, rfl⟩
   rw [hat] at hs1 ⊢
   have hcut := cut_mid (P := Tryz.prog) 22 5 .i64 .i64 Tryz.underlying22 hi5 1 hz1 A0 N c0 (at' : Int) ((at' : Int) + m) (by omega) (by omega) (by omega) hc
   have hw : ((s.take (at' + m)).drop at').length = m := by rw [List.length_drop, List.length_take]; have := HNN.out; omega
   have hCm := Kd.C_mid (lo := at') (hi := at' + m) HC.out (by omega) (by have := HNN.out; omega) (by have := HNN.out; omega : s.length ≤ c0)
   obtain ⟨B, hB⟩ : ∃ B, (if c0 = at' then A0 else A0.map (·.add (at' * 1))) = B := ⟨_, rfl⟩
   have hk1 : (Kd.int .u8).sz = 1 := rfl
   rw [hk1, hB] at hCm
   have e1 : (at' : Int).toNat = at' := Int.toNat_natCast _
   have e2 : ((at' : Int) + m).toNat - at' = m := by omega
   rw [e1, e2, hB] at hcut
   have hIn := Aside0.mk (inner_snoc hI.out.I (A := B) (w := (s.take (at' + m)).drop at') (c := c0 - at') (by rw [hw]; omega) hCm)
   rw [hw] at hIn
   obtain ⟨Aw, cw, rfl⟩ := Kd.R_slice hI.out.R
   obtain ⟨q, hq⟩ : ∃ q, hs.length = q := ⟨_, rfl⟩
   have HQ := Aside0.mk hq
   have hI2 := hI.out
   rw [hq] at hI2 ⊢
   have HI := Aside0.mk hI2
   have HQL : Aside0 ((hs.length + 1) * 24 ≤ 140737488355328) := ⟨by
    rw [hI.out.I.len, List.length_take, cutW_length]; omega⟩
   have HS1 := Aside0.mk hs1
   have HAT := Aside0.mk hat
   have HMM := Aside0.mk hm
   have HW := Aside0.mk hw
   have hb1 : at' + m ≤ N := by omega
   clear hs1 hat hm hw hCm hB e1 e2 hq hI2 hI hs2
   go_wp2_with (at_builtin; refine Kd.R_append kdH (W := wr) (w0 := w1) w1.heap.size rfl (.tmp 22) (.tmp 29) 28 22 (.slice none 0 0) 24 rfl Tryz.underlying28 infoH rfl (by decide) (by decide) (.slice Aw q cw) hs (B, m, c0 - at') [.slice B m (c0 - at')] (fun _ => True) (fun _ => False) rfl rfl rfl (fun _ hk => hk.elim) (fun _ _ => trivial) HI.out.R HI.out.K HI.out.K.size HQL.out ?_)
   intro v2 w2 hR2 hB2 _ _
   have NI := Aside0.mk (show Wi W w1 w2 v2 (hs ++ [(B, m, c0 - at')]) ((cutW s fl).take (i + 1)) from by
    refine ⟨hB2, hR2, ?_⟩
    rw [cutW_take hif, HAT.out, HMM.out, Int.toNat_natCast]
    have h := hIn.out
    rw [List.drop_take, Nat.add_sub_cancel_left] at h
    exact h)
   clear hR2 hB2
   go_wp2_with (fail)
   go_roundw
   case rel => exact ⟨i + 1, _, by rw [HS1.out]; rfl, by go_num, ⟨by omega⟩, NI⟩
   case measure => simp [intOf]; omega
  ·obtain rfl : i = M := by omega
   have hI1 := hI.out
   have hct : (cutW s fl).take i = cutW s fl := List.take_of_length_le (by rw [cutW_length]; exact Nat.le_of_eq HM.out)
   rw [hct] at hI1
   obtain ⟨Aw, cw, rfl⟩ := Kd.R_slice hI1.R
   have hwl : (cutW s fl).length = i := by rw [cutW_length]; exact HM.out
   have hhl : hs.length = i := hI1.I.len.trans hwl
   have hKW : RowKit.Below W.heap.size W wr := HB1.out.trans ⟨hI1.K.os, hI1.K.tape, hI1.K.output, hI1.K.size, fun k hk => hI1.K.block k (Nat.lt_of_lt_of_le hk HB1.out.size)⟩
   rw [hhl] at hI1 ⊢
   obtain ⟨w2, hw2⟩ : ∃ w2, wr.alloc (.cells #[] 5) = w2 := ⟨_, rfl⟩
   have hg2 : Gr wr w2 := by rw [← hw2]; exact Gr.alloc wr _
   have hRo : (Kd.int .u8).R 5 w2 W.heap.size (fun _ => True) (.slice (some ⟨wr.heap.size, 0, none⟩) 0 0) [] := by
    rw [← hw2]
    exact Kd.R_of_own (enc := Value.int .u8) (h1 := fun _ => rfl) (World.ownsRow_made wr #[] 0 hKW.size (Nat.zero_le _) rfl) (fun _ _ => trivial)
   have hRw : kdH.R 22 w2 W.heap.size (fun _ => True) (.slice Aw i cw) hs := Kd.R_lower (Kd.R_below hI1.R hg2.below) HB1.out.size
   have hKW2 : RowKit.Below W.heap.size W w2 := hKW.trans (hg2.keep.toBelow hKW.size (by simp))
   have hWo : Words w2 Aw (cutW s fl) := by
    obtain ⟨A, c, e, _, hC⟩ := Kd.R_reads hRw
    injection e with e _ _
    subst e
    rw [hhl] at hC
    exact ⟨hs, by rw [hwl]; exact hC, hI1.I.le (CellLe.below hKW2)⟩
   have hoff : ∀ j, j ≤ i → offs (cutW s fl) j = smN fl j := by
    intro j
    induction j with
    | zero => intro _; rfl
    | succ j ih =>
      intro hj
      rw [offs_succ (by omega), smN_succ (by rw [HM.out]; omega), ih (by omega), cutW_get _ _ _ (by rw [HM.out]; omega), List.length_take, List.length_drop]
      have h2 := smN_mono (fl := fl) (show j + 1 ≤ fl.length by rw [HM.out]; omega) (Nat.le_refl _)
      rw [smN_succ (by rw [HM.out]; omega), HFS.out] at h2
      omega
   have cT := turns_calls w2 Aw cw (cutW s fl) hWo (fun j hj x hx => by
    rw [cutW_get _ _ _ (by rw [HM.out, ← hwl]; exact hj)] at hx
    exact HBY.out x (List.mem_of_mem_drop (List.mem_of_mem_take hx))) (by rw [hwl, hoff _ (Nat.le_refl _), ← HM.out, HFS.out, HNN.out]; omega) (by omega)
   rw [hwl] at cT
   have HRO := Aside0.mk hRo
   have HRW := Aside0.mk hRw
   have HKW := Aside0.mk hKW2
   have HIN := Aside0.mk hI1.I
   have HWL := Aside0.mk hwl
   clear hI hI1 hct hhl hKW hg2 hRo hRw hKW2 hWo hoff hwl
   go_wp2_with (fail)
   (with_reducible refine cT.mono ?_)
   clear cT
   rintro e w3 ⟨v3, rfl, T, hOm, hTR, hB3⟩
   obtain ⟨At, ct, rfl, hrow⟩ : ∃ At ct, v3 = .slice At T.length ct ∧ (T ≠ [] → ∃ b, At = some ⟨b, 0, none⟩ ∧ TRow w3 b T) := by
    rcases hTR with ⟨⟨A, c, e⟩, e2⟩ | ⟨b, cap, e, hr⟩
    ·subst e2; exact ⟨A, c, e, fun h => absurd rfl h⟩
    ·exact ⟨_, cap, e, fun _ => ⟨b, rfl, hr⟩⟩
   obtain ⟨b, hb⟩ : ∃ b, T ≠ [] → At = some ⟨b, 0, none⟩ ∧ TRow w3 b T := by
    by_cases h : T = []
    ·exact ⟨0, fun k => absurd h k⟩
    ·obtain ⟨b, h1, h2⟩ := hrow h
     exact ⟨b, fun _ => ⟨h1, h2⟩⟩
   have L0 : Aside0 (Lo W w3 (.slice Aw i cw) hs (.slice (some ⟨wr.heap.size, 0, none⟩) 0 0) ((T.take 0).map (lastC (cutW s fl))) b T) := ⟨⟨HKW.out.trans ⟨hB3.os, hB3.tape, hB3.output, hB3.size, fun k hk => hB3.block k (Nat.lt_of_lt_of_le hk HKW.out.size)⟩, Kd.R_below HRW.out hB3, Kd.R_below HRO.out hB3, fun h => (hb h).2⟩⟩
   have HOM := Aside0.mk hOm
   have HBA := Aside0.mk (fun h => (hb h).1)
   obtain ⟨Q, hQ⟩ : ∃ Q, T.length = Q := ⟨_, rfl⟩
   have HQ := Aside0.mk hQ
   rw [hQ]
   have HQS : Aside0 (Q ≤ 100000) := ⟨by
    have h1 : T.Perm (tus (cutW s fl) i) := by
     refine (List.perm_ext_iff_of_nodup ?_ (tus_nodup _)).2 (fun t => (hOm.all t).trans ?_)
     ·exact List.Pairwise.imp (fun {a b} h e => by subst e; exact Om.ltT_asymm h h) hOm.rises
     ·rw [tus_mem]; unfold isT; rw [HWL.out]
    rw [← hQ, h1.length_eq, tus_length (Nat.le_of_eq HWL.out.symm)]
    have hoff : ∀ j, j ≤ i → offs (cutW s fl) j = smN fl j := by
     intro j
     induction j with
     | zero => intro _; rfl
     | succ j ih =>
       intro hj
       have := HWL.out
       rw [offs_succ (by omega), smN_succ (by rw [HM.out]; omega), ih (by omega), cutW_get _ _ _ (by rw [HM.out]; omega), List.length_take, List.length_drop]
       have h2 := smN_mono (fl := fl) (show j + 1 ≤ fl.length by rw [HM.out]; omega) (Nat.le_refl _)
       rw [smN_succ (by rw [HM.out]; omega), HFS.out] at h2
       omega
    rw [hoff _ (Nat.le_refl _), ← HM.out, HFS.out, HNN.out]; omega⟩
   clear hOm hTR hB3 hrow hb hQ hw2
   go_wp2_with (fail)
   go_loopw [8, 39] (fun v8 v39 wr => ∃ j : Nat, v39 = .int .i64 j ∧ Aside0 (j ≤ Q) ∧ Aside0 (Lo W wr (.slice Aw i cw) hs v8 ((T.take j).map (lastC (cutW s fl))) b T)) (fun v8 v39 _ => Q - (intOf v39).toNat)
   case atStart => exact ⟨0, rfl, ⟨by omega⟩, L0⟩
   case round =>
    obtain ⟨j, rfl, hj, hL⟩ := hrel
    have hjle := hj.out
    have hqs := HQS.out
    by_cases hjl : j < Q
    ·have hne : T ≠ [] := by
      intro e
      have := HQ.out
      rw [e] at this
      simp at this
      omega
     have hb := HBA.out hne
     subst hb
     have hL1 := hL.out
     have hTR := hL1.row hne
     have cT := hTR.cell (i := j) (by rw [HQ.out]; exact hjl)
     have hti := (HOM.out.all _).1 (at_mem (T := T) (i := j) (by rw [HQ.out]; exact hjl))
     have htake : (T.take (j + 1)).map (lastC (cutW s fl)) = (T.take j).map (lastC (cutW s fl)) ++ [lastC (cutW s fl) (at_ T j)] := by
      have hjT : j < T.length := by rw [HQ.out]; exact hjl
      rw [List.take_succ_eq_append_getElem hjT, List.map_append]
      unfold at_
      rw [List.getD_eq_getElem?_getD, List.getElem?_eq_getElem hjT]; rfl
     obtain ⟨t, ht⟩ : ∃ t, at_ T j = t := ⟨_, rfl⟩
     rw [ht, Nat.mul_comm] at cT
     rw [ht] at hti htake
     obtain ⟨cT0, cT1⟩ := cT
     have hWo : Words wr Aw (cutW s fl) := by
      obtain ⟨A, c, e, _, hC⟩ := Kd.R_reads hL1.Rw
      injection e with e e2 _
      subst e
      rw [← e2] at hC
      exact ⟨hs, by rw [HWL.out]; exact hC, HIN.out.le (CellLe.below hL1.K)⟩
     obtain ⟨aw, B, cB, rfl, cw0, hlc, hCw⟩ := hWo.at hti.1
     have ht1 : t.1 < i := by rw [← HWL.out]; exact hti.1
     have ht2 := hti.2
     obtain ⟨L, hLL⟩ : ∃ L, (wd (cutW s fl) t.1).length = L := ⟨_, rfl⟩
     have hLs : L ≤ 100000 := by
      rw [← hLL, cutW_get _ _ _ (by rw [HM.out]; exact ht1), List.length_take, List.length_drop]
      have := HNN.out; omega
     rw [hLL] at cw0 hlc ht2 hCw
     obtain ⟨m, hm⟩ : ∃ m, (t.2 + L - 1) % L = m := ⟨_, rfl⟩
     have hmL : m < L := by rw [← hm]; exact Nat.mod_lt _ (by omega)
     obtain ⟨ad, rfl, cX⟩ := C_at hCw 0 hmL
     obtain ⟨y, hy⟩ : ∃ y, (wd (cutW s fl) t.1).getD m 0 = y := ⟨_, rfl⟩
     rw [hy] at cX
     have hlast : lastC (cutW s fl) t = y := by unfold lastC; rw [hLL, hm]; exact hy
     rw [hlast] at htake
     obtain ⟨w5, hw5⟩ : ∃ w5, wr.alloc (.cells #[.int .i64 t.1, .int .i64 t.2] 36) = w5 := ⟨_, rfl⟩
     have hg5 : Gr wr w5 := by rw [← hw5]; exact Gr.alloc wr _
     have hb5 : w5.heap[wr.heap.size]? = some (.cells #[.int .i64 t.1, .int .i64 t.2] 36 (0, 0)) := by rw [← hw5]; exact World.alloc_heap_new wr _
     have f3 : w5.cell? ⟨wr.heap.size, 0, none⟩ = some (.int .i64 t.1) := blk_cell hb5 0
     have f4 : w5.cell? ⟨wr.heap.size, 1, none⟩ = some (.int .i64 t.2) := blk_cell hb5 1
     have f0 := cell_gr hg5 cw0
     have f1 := cell_gr hg5 cX
     have e1 : IntKind.i64.wrap ((t.2 : Int) + L) = (t.2 : Int) + L := i64_id (by omega) (by omega)
     have e2 : IntKind.i64.wrap ((t.2 : Int) + L - 1) = (t.2 : Int) + L - 1 := i64_id (by omega) (by omega)
     have e3 : Int.tmod ((t.2 : Int) + L - 1) (L : Int) = (m : Int) := by
      rw [← hm, show (t.2 : Int) + L - 1 = ((t.2 + L - 1 : Nat) : Int) by omega, Int.tmod_eq_emod_of_nonneg (by omega)]; rfl
     have e4 : IntKind.i64.wrap (m : Int) = (m : Int) := i64_id (by omega) (by omega)
     have e5 : (L : Int) ≠ 0 := by omega
     have e6 : L ≠ 0 := by omega
     obtain ⟨A8, c8, rfl⟩ := Kd.R_slice hL1.Ro
     obtain ⟨os, hos⟩ : ∃ os, (T.take j).map (lastC (cutW s fl)) = os := ⟨_, rfl⟩
     rw [hos] at hL1 htake ⊢
     obtain ⟨q8, hq8⟩ : ∃ q, os.length = q := ⟨_, rfl⟩
     have hq8s : q8 ≤ 100000 := by rw [← hq8, ← hos, List.length_map, List.length_take]; have := HQS.out; have := HQ.out; omega
     rw [hq8] at hL1 ⊢
     have hL5 := Aside0.mk (show Lo W w5 (.slice (some aw) i cw) hs (.slice A8 q8 c8) os b T from ⟨hL1.K.trans (hg5.keep.toBelow hL1.K.size (by simp)), Kd.R_below hL1.Rw hg5.below, Kd.R_below hL1.Ro hg5.below, fun h => (hL1.row h).keep (hg5.keep.block b (hL1.row h).lt (by simp))⟩)
     have HTK := Aside0.mk htake
     have HQ8 := Aside0.mk hq8
     have HQ8S := Aside0.mk hq8s
     have HNE := Aside0.mk hne
     clear hL hL1 hTR hti htake ht hWo hCw hLL hm hy hlast hg5 hb5 cw0 cX hos hq8 hq8s hne
     go_wp2_with (at_builtin; refine Kd.R_append (Kd.int .u8) (W := w5) (w0 := W) W.heap.size rfl (.tmp 48) (.tmp 61) 22 5 (.int .u8 0) 1 rfl Tryz.underlying22 Bt.info5 rfl (by decide) (by decide) (.slice A8 q8 c8) os y [.int .u8 y] (fun _ => True) (fun _ => False) rfl rfl rfl (fun _ hk => hk.elim) (fun _ _ => trivial) hL5.out.Ro hL5.out.K hL5.out.K.size (by have := HQ8S.out; have := HQ8.out; omega) ?_)
     intro v2 w2' hR2 hB2 hg2 _
     have NL := Aside0.mk (show Lo W w2' (.slice (some aw) i cw) hs v2 ((T.take (j + 1)).map (lastC (cutW s fl))) b T from by
      rw [HTK.out]
      refine ⟨hB2, Kd.R_over hL5.out.Rw hL5.out.Ro neH hg2, hR2, fun h => ?_⟩
      have hr := hL5.out.row h
      have hr2 := hr
      obtain ⟨cur, hG, _⟩ := hr2
      exact hr.keep (hg2.block b (blk_lt hG) (Kd.R_ne hL5.out.Ro hG (by decide))))
     clear hR2 hB2 hg2 hL5 hw5
     go_wp2_with (fail)
     go_roundw
     case rel => exact ⟨j + 1, by go_num, ⟨by omega⟩, NL⟩
     case measure => simp [intOf]; omega
    ·obtain rfl : j = Q := by omega
     have hL1 := hL.out
     rw [← HQ.out, List.take_length] at hL1
     go_wp2_with (fail)
     go_ret2
     exact ⟨_, T, rfl, HOM.out, hL1.Ro, hL1.K⟩
end Go.Proofs.YtbbpplnnegdenaaGreat.Bt
end
