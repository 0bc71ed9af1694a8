/- Words, functions, walks and plain mathematics for TopPipe, part 2: laid together by a program of this session (pack.py). -/
import Derived.Test.YtbbpplnnegdenaaGreatKTopPipea
import Derived.Shelf.SlIterI.Nil
import Derived.Shelf.SortM.Plain
import Derived.Shelf.SortM.SortNone
import Derived.Shelf.Bits.Mul64
import Derived.Ground.GgzProg
import Derived.Ground.SlgmProg
import Derived.RangeFuncBox
import Derived.RangeFuncLeaves
import Derived.RangeFuncBound
import Derived.RangeFuncCalls
import Derived.Shelf.Abstract
import Derived.OwnWalkIn
import Derived.TacticsInMore
import Derived.LoopNIn
import Derived.LoopIn
import Derived.Laws.CopyOwn
import Derived.Deep.RegionLaw
import Derived.Laws.Externs
import Derived.RegionCalls
import Derived.Laws.MathBits
import Derived.Lib.SliceRun
import Derived.Lib.BytesEntry
set_option linter.unusedVariables false
set_option linter.unusedSimpArgs false
section
namespace Go.Proofs
open Go.Shelf
def Tryz.sort141_ren : Go.Shelf.Ren := ⟨fun | 5 => 141 | 8 => 102 | 7 => 152 | 19 => 118 | 20 => 119 | 10 => 157 | 11 => 158 | 12 => 159 | 13 => 160 | 14 => 161 | 15 => 162 | 16 => 155 | 17 => 163 | 18 => 164 | 30 => 165 | 31 => 136 | 32 => 137 | 33 => 166 | 34 => 167 | 35 => 103 | 40 => 168 | n => n, fun | 23 => 29 | 25 => 3 | 3 => 3 | 32 => 93 | 22 => 29 | 0 => 0 | 44 => 158 | 46 => 85 | 4 => 4 | 36 => 152 | 35 => 151 | 41 => 98 | 5 => 5 | 9 => 9 | 53 => 175 | 57 => 179 | 63 => 187 | 64 => 188 | n => n, fun | n => n⟩
theorem Tryz.sort141 : Go.Proofs.SlLaysM.n5 Tryz.prog Tryz.sort141_ren := {
  mixed := by kernel_rfl
  f5 := ⟨Tryz.f141.name, by decide, Tryz.func141.trans (congrArg some (by kernel_rfl))⟩
  f7 := ⟨Tryz.f152.name, by decide, Tryz.func152.trans (congrArg some (by kernel_rfl))⟩
  f8 := Tryz.func102.trans (congrArg some (by kernel_rfl))
  f10 := ⟨Tryz.f157.name, by decide, Tryz.func157.trans (congrArg some (by kernel_rfl))⟩
  f11 := ⟨Tryz.f158.name, by decide, Tryz.func158.trans (congrArg some (by kernel_rfl))⟩
  f12 := ⟨Tryz.f159.name, by decide, Tryz.func159.trans (congrArg some (by kernel_rfl))⟩
  f13 := ⟨Tryz.f160.name, by decide, Tryz.func160.trans (congrArg some (by kernel_rfl))⟩
  f14 := ⟨Tryz.f161.name, by decide, Tryz.func161.trans (congrArg some (by kernel_rfl))⟩
  f15 := ⟨Tryz.f162.name, by decide, Tryz.func162.trans (congrArg some (by kernel_rfl))⟩
  f16 := ⟨Tryz.f155.name, by decide, Tryz.func155.trans (congrArg some (by kernel_rfl))⟩
  f17 := ⟨Tryz.f163.name, by decide, Tryz.func163.trans (congrArg some (by kernel_rfl))⟩
  f18 := ⟨Tryz.f164.name, by decide, Tryz.func164.trans (congrArg some (by kernel_rfl))⟩
  f19 := Tryz.func118.trans (congrArg some (by kernel_rfl))
  f20 := Tryz.func119.trans (congrArg some (by kernel_rfl))
  f30 := ⟨Tryz.f165.name, by decide, Tryz.func165.trans (congrArg some (by kernel_rfl))⟩
  f31 := Tryz.func136.trans (congrArg some (by kernel_rfl))
  f32 := Tryz.func137.trans (congrArg some (by kernel_rfl))
  f33 := ⟨Tryz.f166.name, by decide, Tryz.func166.trans (congrArg some (by kernel_rfl))⟩
  f34 := ⟨Tryz.f167.name, by decide, Tryz.func167.trans (congrArg some (by kernel_rfl))⟩
  f35 := ⟨Tryz.f103.name, by decide, Tryz.func103.trans (congrArg some (by kernel_rfl))⟩
  f40 := ⟨Tryz.f168.name, by decide, Tryz.func168.trans (congrArg some (by kernel_rfl))⟩
  t0 := Tryz.underlying0
  a0 := Tryz.isAgg0
  z0 := Tryz.sizeOf0
  v0 := Tryz.zeroValue0
  t3 := Tryz.underlying3
  a3 := Tryz.isAgg3
  z3 := Tryz.sizeOf3
  v3 := Tryz.zeroValue3
  t4 := Tryz.underlying4
  a4 := Tryz.isAgg4
  z4 := Tryz.sizeOf4
  v4 := Tryz.zeroValue4
  t5 := Tryz.underlying5
  a5 := Tryz.isAgg5
  z5 := Tryz.sizeOf5
  v5 := Tryz.zeroValue5
  t9 := Tryz.underlying9
  a9 := Tryz.isAgg9
  z9 := Tryz.sizeOf9
  v9 := Tryz.zeroValue9
  t22 := Tryz.underlying29
  a22 := Tryz.isAgg29
  z22 := Tryz.sizeOf29
  v22 := Tryz.zeroValue29
  t23 := Tryz.underlying29
  a23 := Tryz.isAgg29
  z23 := Tryz.sizeOf29
  v23 := Tryz.zeroValue29
  t25 := Tryz.underlying3
  a25 := Tryz.isAgg3
  z25 := Tryz.sizeOf3
  v25 := Tryz.zeroValue3
  t32 := Tryz.underlying93
  a32 := Tryz.isAgg93
  z32 := Tryz.sizeOf93
  v32 := Tryz.zeroValue93
  t35 := Tryz.underlying151
  a35 := Tryz.isAgg151
  z35 := Tryz.sizeOf151
  v35 := Tryz.zeroValue151
  t36 := Tryz.underlying152
  a36 := Tryz.isAgg152
  z36 := Tryz.sizeOf152
  v36 := Tryz.zeroValue152
  t41 := Tryz.underlying98
  a41 := Tryz.isAgg98
  z41 := Tryz.sizeOf98
  v41 := Tryz.zeroValue98
  t44 := Tryz.underlying158
  a44 := Tryz.isAgg158
  z44 := Tryz.sizeOf158
  v44 := Tryz.zeroValue158
  t46 := Tryz.underlying85
  a46 := Tryz.isAgg85
  z46 := Tryz.sizeOf85
  v46 := Tryz.zeroValue85
  t53 := Tryz.underlying175
  a53 := Tryz.isAgg175
  z53 := Tryz.sizeOf175
  v53 := Tryz.zeroValue175
  t57 := Tryz.underlying179
  a57 := Tryz.isAgg179
  z57 := Tryz.sizeOf179
  v57 := Tryz.zeroValue179
  t63 := Tryz.underlying187
  a63 := Tryz.isAgg187
  z63 := Tryz.sizeOf187
  v63 := Tryz.zeroValue187
  t64 := Tryz.underlying188
  a64 := Tryz.isAgg188
  z64 := Tryz.sizeOf188
  v64 := Tryz.zeroValue188 }
def Tryz.lays212_ren : Go.Shelf.Ren := ⟨fun | 212 => 143 | 263 => 153 | 264 => 154 | n => n, fun | 46 => 93 | 51 => 158 | 146 => 192 | 53 => 85 | 148 => 194 | n => n, fun | n => n⟩
theorem Tryz.lays212 : Go.Proofs.Lays.n212 Tryz.prog Tryz.lays212_ren := {
  mixed := by kernel_rfl
  f212 := Tryz.func143.trans (congrArg some (by kernel_rfl))
  f263 := Tryz.func153.trans (congrArg some (by kernel_rfl))
  f264 := Tryz.func154.trans (congrArg some (by kernel_rfl))
  t46 := Tryz.underlying93
  a46 := Tryz.isAgg93
  z46 := Tryz.sizeOf93
  v46 := Tryz.zeroValue93
  t51 := Tryz.underlying158
  a51 := Tryz.isAgg158
  z51 := Tryz.sizeOf158
  v51 := Tryz.zeroValue158
  t53 := Tryz.underlying85
  a53 := Tryz.isAgg85
  z53 := Tryz.sizeOf85
  v53 := Tryz.zeroValue85
  t146 := Tryz.underlying192
  a146 := Tryz.isAgg192
  z146 := Tryz.sizeOf192
  v146 := Tryz.zeroValue192
  t148 := Tryz.underlying194
  a148 := Tryz.isAgg194
  z148 := Tryz.sizeOf194
  v148 := Tryz.zeroValue194 }
open Go.RowKit Go.Lib in
theorem Tryz.bits_Mul (x y : Nat) (hx : x < 18446744073709551616) (hy : y < 18446744073709551616) (w : World) :
    Calls Tryz.prog 143 #[.int .u64 x, .int .u64 y] w fun e w' => e = .returned (.tuple #[.int .u64 ((x * y / 18446744073709551616 : Nat) : Int), .int .u64 ((x * y % 18446744073709551616 : Nat) : Int)]) ∧ w' = w := Any.bits_Mul Tryz.lays212 x y hx hy w
end Go.Proofs
end
section
namespace Go.Proofs.YtbbpplnnegdenaaGreat.It
open Go Go.RowKit Go.Shelf Go.Proofs Go.Sort Go.Maps
attribute [local go_sem] Oper.semAt_some
theorem add_block (a : Addr) (i : Nat) : (a.add i).block = a.block := by unfold Addr.add; split <;> rfl
def upto {α : Type} (f : Nat → α) (k : Nat) : List α := (List.range k).map f
theorem upto_succ {α : Type} (f : Nat → α) (k : Nat) : upto f (k + 1) = upto f k ++ [f k] := by simp [upto, List.range_succ]
theorem upto_length {α : Type} (f : Nat → α) (k : Nat) : (upto f k).length = k := by simp [upto]
theorem upto_all (zs : List Int) : upto (fun j => zs[j]?.getD 0) zs.length = zs := by
  apply List.ext_getElem
  · simp [upto]
  · intro i h1 h2
    simp [upto, h2]
theorem upto_take (zs : List Int) {k : Nat} (hk : k ≤ zs.length) : upto (fun j => zs[j]?.getD 0) k = zs.take k := by
  apply List.ext_getElem
  · simp [upto, hk]
  · intro i h1 h2
    have : i < zs.length := by simp [upto] at h1; omega
    simp [upto, this]
set_option maxRecDepth 100000 in
set_option maxHeartbeats 2000000 in
theorem values1_in (F : Fence) (n : Nat) (h7 : F.fn 142) (hro : F.round = none) (hn : 1 ≤ n) (l Bs n₀ len cap : Nat) (ad : Addr) (zs : List Int) (hreach : len * 8 ≤ 140737488355328) (hb : ad.block < n₀) (J Jx : List Int → World → Prop)
    (hY : ∀ pre x W, J pre W → pre.length < len → YieldAt F (n - 1) Tryz.prog l #[.int .i64 x] W fun e W' =>
      (e = .returned (.bool true) ∧ J (pre ++ [x]) W' ∧ Below n₀ W W') ∨ (e = .returned (.bool false) ∧ Jx (pre ++ [x]) W'))
    (W : World) (hBs : W.cell? ⟨Bs, 0, none⟩ = some (.slice (some ad) len cap)) (hc : ∀ j, j < len → W.cell? (ad.add j) = some (.int .i64 (zs[j]?.getD 0))) (h0 : J [] W) :
    CallsIn F n Tryz.prog 142 #[.func (.yield l) #[] #[], .pointer (some ⟨Bs, 0, none⟩)] W fun e W' => (∃ v, e = .returned v) ∧
      ((∃ ys, ys = upto (fun j => zs[j]?.getD 0) len ∧ J ys W') ∨ (∃ pre, (∃ k, k ≤ len ∧ pre = upto (fun j => zs[j]?.getD 0) k) ∧ Jx pre W')) := by
  refine callsIn_of_wp Tryz.func142 rfl h7 ?_ hro
  simp only [Tryz.ntmps142, List.size_toArray, List.length_cons, List.length_nil, Nat.reduceAdd, Nat.reduceSub, Array.replicate_succ, Array.replicate_zero, List.push_toArray, List.append_toArray, List.nil_append, List.cons_append]
  gi_wp2
  gi_loopw [7] (fun i wr => ∃ k : Nat, k ≤ len ∧ i = .int .i64 k ∧ J (upto (fun j => zs[j]?.getD 0) k) wr ∧ Below n₀ W wr)
    (fun i _ => len - (intOf i).toNat)
  case atStart => exact ⟨0, Nat.zero_le _, rfl, h0, Below.refl _ _⟩
  case round =>
    obtain ⟨k, hk, rfl, hJs, hnx⟩ := hrel
    have hcx : k < len → wr.cell? (ad.add k) = some (.int .i64 (zs[k]?.getD 0)) := fun h => (hnx.cell (p := ad.add k) (by rw [add_block]; exact hb)).trans (hc k h)
    by_cases hlt : k < len
    · obtain ⟨fn, tmps, assign, body, hy, hR⟩ := hY _ (zs[k]?.getD 0) wr hJs (by rw [upto_length]; exact hlt)
      have hcx' := hcx hlt
      gi_wp2
      refine hR.mono ?_
      rintro e W3 (⟨rfl, hJ3, hk3⟩ | ⟨rfl, hJx3⟩)
      · gi_wp2
        go_roundw
        case rel => exact ⟨k + 1, by omega, by simp, by rw [upto_succ]; exact hJ3, hnx.trans hk3⟩
        case measure => simp [intOf]; omega
      · gi_wp2
        refine bodyPost_ret (results_none rfl _ _ _) rfl ?_
        exact ⟨⟨_, rfl⟩, .inr ⟨_, ⟨k + 1, by omega, (upto_succ _ _).symm⟩, hJx3⟩⟩
    · obtain rfl : k = len := by omega
      gi_wp2
      go_end0
      exact ⟨⟨_, rfl⟩, .inl ⟨_, rfl, hJs⟩⟩
def Ints (n₀ : Nat) (W : World) (sv : Value) (zs : List Int) : Prop :=
  (∃ cap A, sv = .slice A 0 cap ∧ zs = []) ∨ ∃ ad cap, sv = .slice (some ad) zs.length cap ∧ ad.block < n₀ ∧ ∀ j, j < zs.length → W.cell? (ad.add j) = some (.int .i64 (zs[j]?.getD 0))
theorem Ints.below {n₀ : Nat} {A B : World} (h : Below n₀ A B) {sv : Value} {zs : List Int} : Ints n₀ A sv zs → Ints n₀ B sv zs
  | .inl e => .inl e
  | .inr ⟨ad, cap, e, hb, hc⟩ => .inr ⟨ad, cap, e, hb, fun j hj => (h.cell (p := ad.add j) (by rw [add_block]; exact hb)).trans (hc j hj)⟩
set_option maxRecDepth 100000 in
set_option maxHeartbeats 1000000 in
theorem values1_nil_in (F : Fence) (n : Nat) (h7 : F.fn 142) (hro : F.round = none) (l Bs cap : Nat) (A : Option Addr) (J : List Int → World → Prop) (W : World) (hBs : W.cell? ⟨Bs, 0, none⟩ = some (.slice A 0 cap)) (h0 : J [] W) :
    CallsIn F n Tryz.prog 142 #[.func (.yield l) #[] #[], .pointer (some ⟨Bs, 0, none⟩)] W fun e W' => (∃ v, e = .returned v) ∧ J [] W' := by
  refine callsIn_of_wp Tryz.func142 rfl h7 ?_ hro
  simp only [Tryz.ntmps142, List.size_toArray, List.length_cons, List.length_nil, Nat.reduceAdd, Nat.reduceSub, Array.replicate_succ, Array.replicate_zero, List.push_toArray, List.append_toArray, List.nil_append, List.cons_append]
  gi_wp2
  gi_loopw [7] (fun i wr => i = .int .i64 0 ∧ J [] wr) (fun _ _ => 0)
  case atStart => exact ⟨rfl, h0⟩
  case round =>
    obtain ⟨rfl, hJs⟩ := hrel
    gi_wp2
    go_end0
    exact ⟨⟨_, rfl⟩, hJs⟩
set_option maxHeartbeats 1000000 in
theorem values_in (F : Fence) (n : Nat) (h5 : F.fn 122) (hro : F.round = none) (a : Option Addr) (len cap : Nat) (w : World) :
    CallsIn F n Tryz.prog 122 #[.slice a len cap] w fun e w' => e = .returned (.func (.func 142) #[] #[.pointer (some ⟨w.heap.size, 0, none⟩)]) ∧ w' = w.alloc (.cells #[.slice a len cap] 29) := by
  refine callsIn_of_wp Tryz.func122 rfl h5 ?_ hro
  simp only [Tryz.ntmps122, List.size_toArray, List.length_cons, List.length_nil, Nat.reduceAdd, Nat.reduceSub, Array.replicate_succ, Array.replicate_zero, List.push_toArray, List.append_toArray, List.nil_append, List.cons_append]
  gi_wp2
  go_ret
  exact ⟨rfl, rfl⟩
theorem values_stops (F : Fence) (n : Nat) (h7 : F.fn 142) (hro : F.round = none) (hn : 1 ≤ n) (Bs n₀ : Nat) (sv : Value) (zs : List Int) (hreach : zs.length * 8 ≤ 140737488355328) (w : World) (hBs : Bs < w.heap.size) (hn₀ : n₀ ≤ w.heap.size)
    (hc : w.cell? ⟨Bs, 0, none⟩ = some sv) (hI : Ints n₀ w sv zs) :
    SeqStopsK F n Tryz.prog 142 #[.pointer (some ⟨Bs, 0, none⟩)] (fun x : Int => #[Value.int .i64 x]) (Below n₀) (fun ys => ys = zs) (fun pre => pre <+: zs) zs.length w := fun l J Jx W hW _ _ hY h0 => by
  have hc' := (hW.cell (p := ⟨Bs, 0, none⟩) hBs).trans hc
  rcases hI.below (hW.mono hn₀) with ⟨cap, A0, rfl, rfl⟩ | ⟨ad, cap, rfl, hb, hcs⟩
  · exact (values1_nil_in F n h7 hro l Bs cap A0 J W hc' h0).mono fun e W' ⟨he, hj⟩ => ⟨he, .inl ⟨_, rfl, hj⟩⟩
  · refine (values1_in F n h7 hro hn l Bs n₀ zs.length cap ad zs hreach hb J Jx hY W hc' hcs h0).mono ?_
    rintro e W' ⟨he, ⟨ys, rfl, hj⟩ | ⟨pre, ⟨k, hk, rfl⟩, hj⟩⟩
    · exact ⟨he, .inl ⟨_, upto_all zs, hj⟩⟩
    · exact ⟨he, .inr ⟨_, by rw [upto_take zs hk]; exact List.take_prefix _ _, hj⟩⟩
theorem info3 : (Tryz.prog.info? 3).map (fun i => (i.zero, i.size, i.bytes)) = some (some (.int .i64 0), 1, 8) := by kernel_rfl
set_option maxRecDepth 100000 in
set_option maxHeartbeats 2000000 in
theorem appendSeq_in (F : Fence) (n : Nat) (h3 : F.fn 151) (h5 : F.fn 142) (hro : F.round = none) (hn : 3 ≤ n) (Bs : Nat) (sv : Value) (zs : List Int) (hlen : zs.length ≤ maxLen) (hbytes : zs.length * 8 ≤ 140737488355328) (w : World)
    (hBs : Bs < w.heap.size) (hcs : w.cell? ⟨Bs, 0, none⟩ = some sv) (hI : Ints w.heap.size w sv zs) :
    CallsIn F n Tryz.prog 151 #[.slice none 0 0, .func (.func 142) #[] #[.pointer (some ⟨Bs, 0, none⟩)]] w fun e W' => ∃ v, e = .returned v ∧ W'.ownsRow w.heap.size 3 1 v zs.length (zs.map (Value.int .i64)) ∧ (v = .slice none 0 0 ↔ zs = []) ∧ Below w.heap.size w W' := by
  have h1 : 1 ≤ n := by omega
  obtain ⟨i0, hi, hz0, hz1, hz2⟩ := info_parts info3
  refine callsIn_of_wp_marks Tryz.func151 rfl h3 ?_ hro
  simp only [Tryz.ntmps151, List.size_toArray, List.length_cons, List.length_nil, Nat.reduceAdd, Nat.reduceSub, Array.replicate_succ, Array.replicate_zero, List.push_toArray, List.append_toArray, List.nil_append, List.cons_append]
  gi_wp2
  have bO := Boxed.new w 29 (.slice none 0 0)
  have hB0 : Below w.heap.size w (w.alloc (.cells #[.slice none 0 0] 29)) := (Below.refl _ w).alloc (Nat.le_refl _) _
  refine wpIn_rangeFunc_ownG hro h1 (gf := 142) (lb := #[.pointer (some ⟨Bs, 0, none⟩)]) rfl h5 (enters_of Tryz.func142 (by kernel_rfl) rfl)
    (values_stops F (n - 1) h5 hro (by omega) Bs w.heap.size sv zs hbytes _ (by simp; omega) (by simp) ((hB0.cell (p := ⟨Bs, 0, none⟩) hBs).trans hcs) (hI.below hB0)) belowK_t (belowK_b (by simp)) (Below.refl _ _) (fun _ => rfl)
    (fun pre W => (∃ v, Boxed W w.heap.size 29 v ∧ W.ownsRow w.heap.size 3 1 v pre.length (pre.map (Value.int .i64)) ∧ (v = .slice none 0 0 ↔ pre = [])) ∧ Below w.heap.size w W)
    (fun _ _ _ => False)
    (OwnFrom.and (Own.from (holdsRow_own w.heap.size w.heap.size 29 3 1 (fun pre => pre.length) (fun pre => pre.map (Value.int .i64)) (fun pre v => v = .slice none 0 0 ↔ pre = [])) _) (ownFrom_below (Nat.le_refl _) (by simp)))
    (fun _ _ _ _ _ hs _ _ => hs)
    ⟨⟨_, bO, World.ownsRow_nil _ _ _ _, by simp⟩, hB0⟩
    (fun x => { tmps := #[.slice none 0 0, .func (.func 142) #[] #[.pointer (some ⟨Bs, 0, none⟩)], .pointer (some ⟨w.heap.size, 0, none⟩), undef, .slice none 0 0, .int .i64 x, .func (.func 142) #[] #[.pointer (some ⟨Bs, 0, none⟩)], .int .i64 x, undef, undef, undef, undef, undef], defers := [] }) ?assign ?body ?done ?stop
  case assign =>
    intro l x W K hK
    gi_wp2
    exact hK
  case body =>
    rintro l pre x W ⟨⟨v, hv, hrow, hnil⟩, hB⟩ hlt
    have hc := hv.cell
    gi_wp2_with (gi_at_builtin; refine wpListIn_append_own _ rfl _ _ 29 rfl w.heap.size 3 i0 (.int .i64 0) 1 8 Tryz.underlying29 hi hz0 hz1 hz2 rfl (by decide) _ _ _ rfl (hrow.alloc _) ⟨W.heap.size, 0, none⟩ 1 1 [.int .i64 x] rfl rfl (cell_one_new _ _ _) (by simp [Value.oneCell']) (by omega) (by omega) (by have := hB.size; simp; omega) ?_; intro v' w1 hown' hgrow _; obtain ⟨g', cap', rfl⟩ := ownsRow_succ hown'; obtain ⟨hv1, hv2, hr2, hk2, hb2⟩ := hv.appended (by decide) hrow hB.size (Nat.le_refl _) hown' hgrow; have hc1 := hv1.cell; have hf1 := hv1.frozen)
    exact ⟨hk2.from _, hb2, ⟨_, hv2, by simpa using hr2, by simp⟩, hB.trans hb2⟩
  case done =>
    rintro D ys W hD rfl ⟨⟨v, hv, hrow, hnil⟩, hB⟩ hK
    have hc := hv.cell
    gi_wp2
    refine ⟨by simp, .inl ⟨_, _, rfl, run_takeDeferred hK, ?_⟩⟩
    exact ⟨_, results_tmp rfl _ _ _, v, rfl, ownsRow_putObj hrow _ hK rfl, hnil, hB.trans (belowK_b (w := w) (Nat.le_refl _) W D _ _ (by simp at hD; omega) hK rfl rfl)⟩
  case stop =>
    rintro D c pre W _ _ h _
    exact h.elim
set_option maxHeartbeats 1000000 in
theorem collect_in (F : Fence) (n : Nat) (h65 : F.fn 140) (h74 : F.fn 151) (h67 : F.fn 142) (hro : F.round = none) (hn : 4 ≤ n) (Bs : Nat) (sv : Value) (zs : List Int) (hlen : zs.length ≤ maxLen) (hbytes : zs.length * 8 ≤ 140737488355328) (w : World)
    (hBs : Bs < w.heap.size) (hcs : w.cell? ⟨Bs, 0, none⟩ = some sv) (hI : Ints w.heap.size w sv zs) :
    CallsIn F n Tryz.prog 140 #[.func (.func 142) #[] #[.pointer (some ⟨Bs, 0, none⟩)]] w fun e W' => ∃ v, e = .returned v ∧ W'.ownsRow w.heap.size 3 1 v zs.length (zs.map (Value.int .i64)) ∧ (v = .slice none 0 0 ↔ zs = []) ∧ Below w.heap.size w W' := by
  have h1 : 1 ≤ n := by omega
  refine callsIn_of_wp Tryz.func140 rfl h65 ?_ hro
  simp only [Tryz.ntmps140, List.size_toArray, List.length_cons, List.length_nil, Nat.reduceAdd, Nat.reduceSub, Array.replicate_succ, Array.replicate_zero, List.push_toArray, List.append_toArray, List.nil_append, List.cons_append]
  gi_wp2_with (gi_at_call 151; refine (appendSeq_in F (n - 1) h74 h67 hro (by omega) Bs sv zs hlen hbytes w hBs hcs hI).mono ?_; rintro e W' ⟨v, rfl, hrow, hnil, hb⟩)
  go_ret
  exact ⟨v, rfl, hrow, hnil, hb⟩
set_option maxHeartbeats 1000000 in
theorem sorted_in (F : Fence) (n : Nat) (h46 : F.fn 121) (h66 : F.fn 141) (h65 : F.fn 140) (h74 : F.fn 151) (h67 : F.fn 142) (hro : F.round = none) (hn : 5 ≤ n) (hw : F = Fence.wide) (Bs : Nat) (sv : Value) (zs : List Int) (hlen : zs.length ≤ maxLen) (hbytes : zs.length * 8 ≤ 140737488355328) (w : World)
    (hBs : Bs < w.heap.size) (hcs : w.cell? ⟨Bs, 0, none⟩ = some sv) (hI : Ints w.heap.size w sv zs) :
    CallsIn F n Tryz.prog 121 #[.func (.func 142) #[] #[.pointer (some ⟨Bs, 0, none⟩)]] w fun e W' => ∃ v, e = .returned v ∧ W'.ownsRow w.heap.size 3 1 v zs.length ((zs.mergeSort (fun x y => decide (x ≤ y))).map (Value.int .i64)) ∧ (v = .slice none 0 0 ↔ zs = []) ∧ Below w.heap.size w W' := by
  subst hw
  have h1 : 1 ≤ n := by omega
  refine callsIn_of_wp Tryz.func121 rfl h46 ?_ hro
  simp only [Tryz.ntmps121, List.size_toArray, List.length_cons, List.length_nil, Nat.reduceAdd, Nat.reduceSub, Array.replicate_succ, Array.replicate_zero, List.push_toArray, List.append_toArray, List.nil_append, List.cons_append]
  gi_wp2_with (gi_at_call 140; refine (collect_in Fence.wide (n - 1) h65 h74 h67 hro (by omega) Bs sv zs hlen hbytes w hBs hcs hI).mono ?_; rintro e W ⟨v, rfl, hrow, hnil, hb⟩)
  rcases hrow.2 with ⟨rfl, hz⟩ | ⟨gb, cap, cur, rfl, hbase, hgb, r1, r2, r3, r4⟩
  · have hss : zs = [] := List.eq_nil_of_length_eq_zero hz
    subst hss
    gi_wp2_with (gi_at_call 141; refine (callsIn_wide.2 (AnyM.slices_Sort_int_none Tryz.sort141 none 0 W)).mono ?_; rintro e w' ⟨rfl, rfl⟩)
    go_ret
    exact ⟨.slice none 0 0, rfl, by simpa using hrow, by simp, hb⟩
  · have hH : Holds encZ W gb 0 zs.toArray := holds_of_block_i hgb (by simpa using r4)
    have hgl : gb < W.heap.size := (Array.getElem?_eq_some_iff.1 hgb).1
    have hsz : zs.length < 4611686018427387904 := by unfold maxLen at hlen; omega
    have cS : CallsIn Fence.wide (n - 1) Tryz.prog 141 #[.slice (some ⟨gb, 0, none⟩) zs.length cap] W _ := callsIn_wide.2 (AnyM.slices_Sort_int Tryz.sort141 gb 0 cap zs W hH hgl hsz)
    gi_wp2_with (gi_at_call 141; refine cS.mono ?_; rintro e w' ⟨rfl, nn, os, rfl⟩)
    go_ret
    exact ⟨_, rfl, ownsRow_sorted_i (by simp) hbase hgb r1 r2 r3, hnil, hb.grown (grownBy_sorted_i _) hb.size (fun j hj => by cases hj; exact hbase)⟩
theorem values_calls (a : Option Addr) (len cap : Nat) (w : World) :
    Calls Tryz.prog 122 #[.slice a len cap] w fun e w' => e = .returned (.func (.func 142) #[] #[.pointer (some ⟨w.heap.size, 0, none⟩)]) ∧ w' = w.alloc (.cells #[.slice a len cap] 29) :=
  (callsIn_wide (n := 6)).1 (values_in Fence.wide 6 trivial rfl a len cap w)
theorem sorted_calls (Bs : Nat) (sv : Value) (zs : List Int) (hlen : zs.length ≤ maxLen) (hbytes : zs.length * 8 ≤ 140737488355328) (w : World) (hBs : Bs < w.heap.size) (hcs : w.cell? ⟨Bs, 0, none⟩ = some sv) (hI : Ints w.heap.size w sv zs) :
    Calls Tryz.prog 121 #[.func (.func 142) #[] #[.pointer (some ⟨Bs, 0, none⟩)]] w fun e W' => ∃ v, e = .returned v ∧ W'.ownsRow w.heap.size 3 1 v zs.length ((zs.mergeSort (fun x y => decide (x ≤ y))).map (Value.int .i64)) ∧ (v = .slice none 0 0 ↔ zs = []) ∧ Below w.heap.size w W' :=
  (callsIn_wide (n := 6)).1 (sorted_in Fence.wide 6 trivial trivial trivial trivial trivial rfl (by omega) rfl Bs sv zs hlen hbytes w hBs hcs hI)
end Go.Proofs.YtbbpplnnegdenaaGreat.It
end
section
namespace Go.Proofs.YtbbpplnnegdenaaGreat.It
open Go Go.RowKit Go.Shelf Go.Proofs Go.Sort Go.Maps
attribute [local go_sem] Oper.semAt_some
def bk (zs : List Int) (k : Nat) : Array Value := #[Value.int .i64 ((zs.length - 1 - k : Nat) : Int), Value.int .i64 (zs[zs.length - 1 - k]?.getD 0)]
def Keep2 (b c : Nat) (W W' : World) : Prop := W'.heap[b]? = W.heap[b]? ∧ W'.heap[c]? = W.heap[c]?
theorem Keep2.refl (b c : Nat) (W : World) : Keep2 b c W W := ⟨rfl, rfl⟩
theorem Keep2.trans {b c : Nat} {A B C : World} (h : Keep2 b c A B) (k : Keep2 b c B C) : Keep2 b c A C := ⟨k.1.trans h.1, k.2.trans h.2⟩
theorem cell_of_heap {W W' : World} {p : Addr} (h : W'.heap[p.block]? = W.heap[p.block]?) : W'.cell? p = W.cell? p := by
  unfold World.cell?; rw [h]
theorem keep2_b {b c : Nat} {w : World} (hb : b < w.heap.size) (hc : c < w.heap.size) (W : World) (l : Nat) (o o' : Obj) (hl : w.heap.size ≤ l) (_ : W.heap[l]? = some o) (_ : o.isCells = false) (_ : o.isWalk = false) : Keep2 b c W (W.putObj l o') :=
  ⟨World.putObj_heap_other (by omega), World.putObj_heap_other (by omega)⟩
set_option maxRecDepth 100000 in
set_option maxHeartbeats 2000000 in
theorem backward1_in (F : Fence) (n : Nat) (h7 : F.fn 74) (hro : F.round = none) (hn : 1 ≤ n) (l Bs cap : Nat) (ad : Addr) (zs : List Int) (hreach : zs.length * 8 ≤ 140737488355328) (J : Nat → World → Prop)
    (hY : ∀ k W, k < zs.length → J k W → YieldAt F (n - 1) Tryz.prog l (bk zs k) W fun e W' => e = .returned (.bool true) ∧ J (k + 1) W' ∧ Keep2 ad.block Bs W W')
    (W : World) (hBs0 : W.cell? ⟨Bs, 0, none⟩ = some (.slice (some ad) zs.length cap)) (hc : ∀ j, j < zs.length → W.cell? (ad.add j) = some (.int .i64 (zs[j]?.getD 0))) (h0 : J 0 W) :
    CallsIn F n Tryz.prog 74 #[.func (.yield l) #[] #[], .pointer (some ⟨Bs, 0, none⟩)] W fun e W' => (∃ v, e = .returned v) ∧ J zs.length W' := by
  have hBs : ∀ W', Keep2 ad.block Bs W W' → W'.cell? ⟨Bs, 0, none⟩ = some (.slice (some ad) zs.length cap) := fun W' h => (cell_of_heap (p := ⟨Bs, 0, none⟩) h.2).trans hBs0
  refine callsIn_of_wp Tryz.func74 rfl h7 ?_ hro
  simp only [Tryz.ntmps74, List.size_toArray, List.length_cons, List.length_nil, Nat.reduceAdd, Nat.reduceSub, Array.replicate_succ, Array.replicate_zero, List.push_toArray, List.append_toArray, List.nil_append, List.cons_append]
  gi_wp2
  gi_loopw [3] (fun i wr => ∃ k : Nat, k ≤ zs.length ∧ i = .int .i64 ((zs.length : Int) - 1 - (k : Int)) ∧ J k wr ∧ Keep2 ad.block Bs W wr)
    (fun i _ => (intOf i + 1).toNat)
  case atStart => exact ⟨0, Nat.zero_le _, by simp, h0, Keep2.refl _ _ _⟩
  case round =>
    obtain ⟨k, hk, rfl, hJs, hnx⟩ := hrel
    have hBx := hBs wr hnx
    by_cases hlt : k < zs.length
    · have hcx : wr.cell? (ad.add (zs.length - 1 - k)) = some (.int .i64 (zs[zs.length - 1 - k]?.getD 0)) := (cell_of_heap (p := ad.add (zs.length - 1 - k)) (by rw [add_block]; exact hnx.1)).trans (hc _ (by omega))
      obtain ⟨fn, tmps, assign, body, hy, hR⟩ := hY k wr hlt hJs
      dsimp only [bk] at hy
      obtain ⟨m, hm⟩ : ∃ m : Nat, zs.length - 1 - k = m := ⟨_, rfl⟩
      have hme : (zs.length : Int) - 1 - (k : Int) = (m : Int) := by omega
      have hml : m < zs.length := by omega
      rw [hm] at hcx hy
      obtain ⟨z, hz⟩ : ∃ z : Int, zs[m]?.getD 0 = z := ⟨_, rfl⟩
      rw [hz] at hcx hy
      have hK := Go.Lib.hid hm
      have hZ := Go.Lib.hid hz
      clear hm hz
      rw [hme]
      gi_wp2
      refine hR.mono ?_
      rintro e W3 ⟨rfl, hJ3, hk3⟩
      have hBx3 := hBs W3 (hnx.trans hk3)
      gi_wp2
      go_roundw
      case rel => exact ⟨k + 1, by omega, by simp; omega, hJ3, hnx.trans hk3⟩
      case measure => simp [intOf] <;> omega
    · obtain rfl : k = zs.length := by omega
      have hz : (zs.length : Int) - 1 - (zs.length : Int) = -1 := by omega
      rw [hz]
      gi_wp2
      go_end0
      exact ⟨⟨_, rfl⟩, hJs⟩
set_option maxRecDepth 100000 in
set_option maxHeartbeats 1000000 in
theorem backward1_nil_in (F : Fence) (n : Nat) (h7 : F.fn 74) (hro : F.round = none) (l Bs cap : Nat) (A : Option Addr) (J : Nat → World → Prop) (W : World) (hBs : W.cell? ⟨Bs, 0, none⟩ = some (.slice A 0 cap)) (h0 : J 0 W) :
    CallsIn F n Tryz.prog 74 #[.func (.yield l) #[] #[], .pointer (some ⟨Bs, 0, none⟩)] W fun e W' => (∃ v, e = .returned v) ∧ J 0 W' := by
  refine callsIn_of_wp Tryz.func74 rfl h7 ?_ hro
  simp only [Tryz.ntmps74, List.size_toArray, List.length_cons, List.length_nil, Nat.reduceAdd, Nat.reduceSub, Array.replicate_succ, Array.replicate_zero, List.push_toArray, List.append_toArray, List.nil_append, List.cons_append]
  gi_wp2
  gi_loopw [3] (fun i wr => i = .int .i64 (-1) ∧ J 0 wr) (fun _ _ => 0)
  case atStart => exact ⟨rfl, h0⟩
  case round =>
    obtain ⟨rfl, hJs⟩ := hrel
    gi_wp2
    go_end0
    exact ⟨⟨_, rfl⟩, hJs⟩
set_option maxHeartbeats 1000000 in
theorem backward_in (F : Fence) (n : Nat) (h5 : F.fn 44) (hro : F.round = none) (a : Option Addr) (len cap : Nat) (w : World) :
    CallsIn F n Tryz.prog 44 #[.slice a len cap] w fun e w' => e = .returned (.func (.func 74) #[] #[.pointer (some ⟨w.heap.size, 0, none⟩)]) ∧ w' = w.alloc (.cells #[.slice a len cap] 29) := by
  refine callsIn_of_wp Tryz.func44 rfl h5 ?_ hro
  simp only [Tryz.ntmps44, List.size_toArray, List.length_cons, List.length_nil, Nat.reduceAdd, Nat.reduceSub, Array.replicate_succ, Array.replicate_zero, List.push_toArray, List.append_toArray, List.nil_append, List.cons_append]
  gi_wp2
  go_ret
  exact ⟨rfl, rfl⟩
theorem backward_gives (F : Fence) (n : Nat) (h7 : F.fn 74) (hro : F.round = none) (hn : 1 ≤ n) (Bs cap : Nat) (ad : Addr) (zs : List Int) (hreach : zs.length * 8 ≤ 140737488355328) (w : World) (hBs : Bs < w.heap.size) (hb : ad.block < w.heap.size)
    (hc : w.cell? ⟨Bs, 0, none⟩ = some (.slice (some ad) zs.length cap)) (hI : ∀ j, j < zs.length → w.cell? (ad.add j) = some (.int .i64 (zs[j]?.getD 0))) :
    Rg.Gives F n Tryz.prog 74 #[.pointer (some ⟨Bs, 0, none⟩)] (bk zs) zs.length (Keep2 ad.block Bs) w := fun l J W hW hY h0 => by
  have hc' := (hW.cell (p := ⟨Bs, 0, none⟩) hBs).trans hc
  exact backward1_in F n h7 hro hn l Bs cap ad zs hreach J hY W hc' (fun j hj => (hW.cell (p := ad.add j) (by rw [add_block]; exact hb)).trans (hI j hj)) h0
theorem backward_gives_nil (F : Fence) (n : Nat) (h7 : F.fn 74) (hro : F.round = none) (Bs cap : Nat) (Kp : World → World → Prop) (A : Option Addr) (w : World) (hBs : Bs < w.heap.size)
    (hc : w.cell? ⟨Bs, 0, none⟩ = some (.slice A 0 cap)) :
    Rg.Gives F n Tryz.prog 74 #[.pointer (some ⟨Bs, 0, none⟩)] (bk []) 0 Kp w := fun l J W hW _ h0 =>
  backward1_nil_in F n h7 hro l Bs cap A J W ((hW.cell (p := ⟨Bs, 0, none⟩) hBs).trans hc) h0
end Go.Proofs.YtbbpplnnegdenaaGreat.It
end
section
set_option linter.unusedVariables false
namespace Go.Proofs.YtbbpplnnegdenaaGreat.Re
open Go Go.RowKit Go.Proofs Go.Proofs.YtbbpplnnegdenaaGreatW.PrintWords
def fill (v : Int) (m n : Nat) : List Value := List.replicate m (Value.int .i64 v) ++ List.replicate (n - m) (Value.int .i64 0)
theorem info3 : (Tryz.prog.info? 3).map (fun i => (i.zero, i.size, i.bytes)) = some (some (.int .i64 0), 1, 8) := by kernel_rfl
theorem made (W : World) (n : Nat) (hn : n ≤ 17592186044416) : ∃ W1, (Instr.makeSlice 29 (.int .i64 n) (.int .i64 n)).run Tryz.prog W = .ok (.slice (some ⟨W.heap.size, 0, none⟩) n n) W1 ∧
    W1.heap[W.heap.size]? = some (.cells (fill 0 0 n).toArray 3 (0, 0)) ∧ Below W.heap.size W W1 := by
  obtain ⟨i0, hi, hz0, hz1, hz2⟩ := info_parts info3
  have hr := run_make (P := Tryz.prog) W 29 3 i0 (.int .i64 0) Tryz.underlying29 hi hz0 .i64 .i64 n n (by omega) (by omega) (by rw [hz2]; omega) (by omega)
  refine ⟨_, hr, ?_, (Below.refl _ _).alloc (Nat.le_refl _) _⟩
  rw [hz1, Int.toNat_natCast, Nat.mul_one]
  have e : madeCells (Value.int .i64 0).cells n = (fill 0 0 n).toArray := by
    apply Array.ext
    · simp [madeCells, fill]
    · intro j h1 h2
      simp [madeCells, fill, Value.cells, Nat.mod_one]
  rw [e]
  exact heap_alloc_new W _
theorem fill_length (v : Int) (m n : Nat) (h : m ≤ n) : (fill v m n).length = n := by simp [fill]; omega
theorem fill_splice (v : Int) (m k n : Nat) (h : m + k ≤ n) : splice (fill v m n) m (List.replicate k (Value.int .i64 v)) = fill v (m + k) n := by
  unfold splice fill
  rw [List.take_append_of_le_length (by simp), List.take_of_length_le (by simp), List.drop_append, List.drop_of_length_le (by simp), List.length_replicate, List.length_replicate, List.nil_append, List.drop_replicate, ← List.append_assoc, List.replicate_append_replicate]
  congr 2; omega
theorem fill_start (v : Int) (n : Nat) (h : 1 ≤ n) : splice (fill 0 0 n) 0 [Value.int .i64 v] = fill v 1 n := by
  unfold splice fill
  simp
theorem R_fill {W : World} {base g n : Nat} {v : Int} (h : W.heap[g]? = some (.cells (fill v n n).toArray 3 (0, 0))) (hb : base ≤ g) (hn : n ≤ maxLen) : Kd.R (Kd.int .i64) 3 W base (fun _ => True) (.slice (some ⟨g, 0, none⟩) n n) (List.replicate n v) := by
  have hf : fill v n n = List.replicate n (Value.int .i64 v) := by simp [fill]
  rw [hf] at h
  refine Kd.R_of_own (enc := Value.int .i64) (h1 := fun _ => rfl) ⟨by simp [encs], .inr ⟨g, n, _, by rw [List.length_replicate], hb, h, by simp, hn, by simp, by simp [encs]⟩⟩ (fun _ _ => trivial)
set_option maxRecDepth 100000 in
set_option maxHeartbeats 4000000 in
theorem repeat_calls (w : World) (b cx n : Nat) (v : Int) (h1 : 1 ≤ n) (hn : n ≤ 17592186044416) (hx : w.cell? ⟨b, 0, none⟩ = some (.int .i64 v)) :
    Calls Tryz.prog 123 #[.slice (some ⟨b, 0, none⟩) 1 cx, .int .i64 n] w fun e w' => ∃ v', e = .returned v' ∧ Kd.R (Kd.int .i64) 3 w' w.heap.size (fun _ => True) v' (List.replicate n v) ∧ Below w.heap.size w w' := by
  have cM := Tryz.bits_Mul 1 n (by omega) (by omega) w
  rw [Nat.one_mul, Nat.div_eq_of_lt (by omega), Nat.mod_eq_of_lt (by omega), show ((1 : Nat) : Int) = 1 from rfl, show ((0 : Nat) : Int) = 0 from rfl] at cM
  obtain ⟨W1, hmk, hrow, hB⟩ := made w n hn
  have hsz : (Tryz.prog.info? 3).map (·.size) = some 1 := by
    obtain ⟨i0, hi, hz0, hz1, hz2⟩ := info_parts info3
    rw [hi]; simp [hz1]
  have hxl : b < w.heap.size := World.block_lt_of_cell? w ⟨b, 0, none⟩ hx
  have hx1 : W1.cell? ⟨b, 0, none⟩ = some (.int .i64 v) := (hB.cell (p := ⟨b, 0, none⟩) hxl).trans hx
  have HX := Go.Lib.hid hx1
  have HR := Go.Lib.hid hrow
  have HB := Aside0.mk hB
  clear hx hx1 hrow hB
  go_enter Tryz.func123, Tryz.ntmps123
  go_wp2_with (fail)
  (with_reducible refine cM.mono ?_)
  rintro e w' ⟨rfl, hw⟩
  subst hw
  clear cM
  have hnl : [Value.int .i64 v].length = Nat.min 1 n := (Nat.min_eq_left h1).symm
  have hfit : 0 + [Value.int .i64 v].length ≤ (fill 0 0 n).length := by rw [fill_length _ _ _ (by omega)]; simp; omega
  have hone : ∀ u ∈ [Value.int .i64 v], u.oneCell' = true := by simp [Value.oneCell']
  have hsrc : ∀ j u, [Value.int .i64 v][j]? = some u → W1.cell? ((⟨b, 0, none⟩ : Addr).add j) = some u := by
    intro j u hj
    cases j with
    | zero =>
      simp only [List.getElem?_cons_zero, Option.some.injEq] at hj
      subst hj
      exact HX.out
    | succ j => simp at hj
  have HNL := Go.Lib.hid hnl
  have HFIT := Go.Lib.hid hfit
  have HONE := Go.Lib.hid hone
  have HSRC := Go.Lib.hid hsrc
  clear hnl hfit hone hsrc
  go_wp2_with (with_reducible refine wpList_copy_splice rfl (.tmp 31) (.tmp 32) 29 29 rfl 3 Tryz.underlying29 hsz (some ⟨w'.heap.size, 0, none⟩) (some ⟨b, 0, none⟩) n n 1 cx rfl rfl w'.heap.size 0 (fill 0 0 n) 3 HR.out [.int .i64 v] HNL.out (fun _ => ⟨rfl, _, rfl, HSRC.out⟩) HFIT.out HONE.out w'.heap.size w' HB.out (Nat.le_refl _) ?_; intro w2 HR2 HB2')
  rw [fill_start v n h1] at HR2
  clear HX HR HB HNL HFIT HONE HSRC hmk
  go_loopw [8] (fun v8 wr => ∃ m : Nat, v8 = .int .i64 m ∧ Aside0 (1 ≤ m ∧ m ≤ n) ∧ Hid (wr.heap[w'.heap.size]? = some (.cells (fill v m n).toArray 3 (0, 0))) ∧ Aside0 (Below w'.heap.size w' wr))
    (fun v8 _ => n - (intOf v8).toNat)
  case atStart => exact ⟨1, rfl, ⟨⟨Nat.le_refl _, h1⟩⟩, HR2, ⟨HB2'⟩⟩
  case round =>
    obtain ⟨m, rfl, hm, hrow, hB⟩ := hrel
    have hm1 := hm.out.1
    have hm2 := hm.out.2
    by_cases hlt : m < n
    · obtain ⟨k, hk⟩ : ∃ k, k = Nat.min m (n - m) := ⟨_, rfl⟩
      have hk1 : 1 ≤ k := by rw [hk]; exact Nat.le_min.2 ⟨hm1, by omega⟩
      have hk2 : k ≤ m := by rw [hk]; exact Nat.min_le_left _ _
      have hk3 : m + k ≤ n := by have : k ≤ n - m := by rw [hk]; exact Nat.min_le_right _ _
                                 omega
      have HNL := Go.Lib.hid (show (List.replicate k (Value.int .i64 v)).length = Nat.min m (n - m) by rw [List.length_replicate, hk])
      have HFIT := Go.Lib.hid (show m + (List.replicate k (Value.int .i64 v)).length ≤ (fill v m n).length by rw [fill_length _ _ _ hm2, List.length_replicate]; exact hk3)
      have HONE := Go.Lib.hid (show ∀ u ∈ List.replicate k (Value.int .i64 v), u.oneCell' = true by intro u hu; rw [List.eq_of_mem_replicate hu]; rfl)
      have HSRC := Go.Lib.hid (show ∀ j u, (List.replicate k (Value.int .i64 v))[j]? = some u → wr.cell? ((⟨w'.heap.size, 0, none⟩ : Addr).add j) = some u by
        intro j u hj
        have hjk : j < k := by have := (List.getElem?_eq_some_iff.1 hj).1; simpa using this
        rw [List.getElem?_replicate, if_pos hjk] at hj
        cases hj
        have := blk_cell hrow.out j
        rw [show ((⟨w'.heap.size, 0, none⟩ : Addr).add j) = ⟨w'.heap.size, j, none⟩ by unfold Addr.add; simp; omega, this]
        simp only [fill, List.getElem?_toArray]
        rw [List.getElem?_append_left (by rw [List.length_replicate]; omega), List.getElem?_replicate, if_pos (by omega)])
      have HK := Go.Lib.hid hk
      clear hk
      obtain ⟨W5, hcp, hrow5, hB5⟩ : ∃ W5, Sem.run Tryz.prog (Builtin.copy_ #[29, 29] 3 #[.slice (some ⟨w'.heap.size, m, none⟩) (n - m) (n - m), .slice (some ⟨w'.heap.size, 0, none⟩) m n]) wr.drew = .ok (.int .i64 (k : Int)) W5 ∧
          W5.heap[w'.heap.size]? = some (.cells (fill v (m + k) n).toArray 3 (0, 0)) ∧ Below w'.heap.size w' W5 := by
        have hg : wr.drew.heap[w'.heap.size]? = some (.cells (fill v m n).toArray 3 (0, 0)) := hrow.out
        have hr := run_copy_row (P := Tryz.prog) wr.drew 29 29 3 3 w'.heap.size m (n - m) (n - m) ⟨w'.heap.size, 0, none⟩ m n (fill v m n).toArray 3 (List.replicate k (.int .i64 v)) Tryz.underlying29 hsz hg HNL.out HSRC.out (by simpa using HFIT.out) HONE.out
        refine ⟨_, by simpa [goInt] using hr, ?_, below_setRow (below_drew1 hB.out) (Nat.le_refl _) _⟩
        rw [setRow_heap wr.drew w'.heap.size _ _ 3 _ hg, ← fill_splice v m k n hk3]
        simp [splice]
      have HR5 := Go.Lib.hid hrow5
      have HB5 := Aside0.mk hB5
      clear hrow5 hB5 HNL HFIT HONE HSRC hrow
      go_wp2_with (fail)
      go_region
      go_wp2
      go_roundw
      case rel => exact ⟨m + k, by go_num, ⟨by omega⟩, HR5, HB5⟩
      case measure => simp [intOf]; omega
    · have hmn : m = n := by omega
      subst hmn
      go_wp2
      go_ret
      exact ⟨_, rfl, R_fill hrow.out (Nat.le_refl _) (by unfold maxLen; omega), hB.out⟩
end Go.Proofs.YtbbpplnnegdenaaGreat.Re
end
section
set_option linter.unusedVariables false
namespace Go.Proofs.YtbbpplnnegdenaaGreat.St
open Go Go.RowKit Go.Shelf Go.Proofs Go.Proofs.YtbbpplnnegdenaaGreatW.PrintWords Go.Proofs.YtbbpplnnegdenaaGreat.So Go.Proofs.YtbbpplnnegdenaaGreat.It
attribute [local go_sem] Oper.semAt_some
def lastAll (s : List Int) : List Int → List Int → List Int → Option (List Int × List Int)
  | [], en, row => some (en, row)
  | j :: js, en, row => (lastF s en row j).bind fun x => lastAll s js x.1 x.2
theorem lastAll_snoc (s : List Int) (j : Int) : ∀ (js en row), lastAll s (js ++ [j]) en row = (lastAll s js en row).bind fun x => lastF s x.1 x.2 j
  | [], en, row => by
    simp only [List.nil_append, lastAll, Option.bind_some]
    cases lastF s en row j <;> rfl
  | i :: js, en, row => by
    simp only [List.cons_append, lastAll]
    cases lastF s en row i with
    | none => rfl
    | some x => simp only [Option.bind_some]; exact lastAll_snoc s j js x.1 x.2
theorem lastAll_app (s : List Int) (ks : List Int) : ∀ (js en row), lastAll s (js ++ ks) en row = (lastAll s js en row).bind fun x => lastAll s ks x.1 x.2
  | [], en, row => rfl
  | i :: js, en, row => by
    simp only [List.cons_append, lastAll]
    cases lastF s en row i with
    | none => rfl
    | some x => simp only [Option.bind_some]; exact lastAll_app s ks js x.1 x.2
theorem lastAll_step {s l en0 row0 en row : List Int} {k : Nat} {X : List Int × List Int} (hk : k < l.length) (h : lastAll s l en0 row0 = some X) (h1 : lastAll s (l.take k) en0 row0 = some (en, row)) :
    ∃ y, lastF s en row (l[k]?.getD 0) = some y ∧ lastAll s (l.take (k + 1)) en0 row0 = some y := by
  have e1 : l.take (k + 1) = l.take k ++ [l[k]?.getD 0] := by
    rw [List.take_add_one, List.getElem?_eq_getElem hk]; rfl
  have e2 : l = l.take (k + 1) ++ l.drop (k + 1) := (List.take_append_drop _ _).symm
  rw [e2, lastAll_app, e1, lastAll_snoc, h1, Option.bind_some] at h
  rw [e1, lastAll_snoc, h1, Option.bind_some]
  dsimp only at h ⊢
  cases hz : lastF s en row (l[k]?.getD 0) with
  | none => rw [hz] at h; simp at h
  | some y => exact ⟨y, rfl, rfl⟩
theorem range_back {F : Fence} {n : Nat} {P : Program} {w : World} {g : Operand} {ps : Array Tmp} {assign body : Code} {Q : Exit → Act → World → Prop} {a : Act}
    (hro : F.round = none) (h1 : 1 ≤ n) {gf : Nat} {lb : Array Value} (hg : a.eval g = .func (.func gf) #[] lb) (hFg : F.fn gf) (eg : ∀ args w, (callFunc gf args).run P w = .ok (.enter gf args) w)
    (zs : List Int) {Kp : World → World → Prop} (hps : ps.size = 2)
    (hKt : ∀ {A B C : World}, Kp A B → Kp B C → Kp A C) (hKb : ∀ (W : World) (l : Nat) (o o' : Obj), w.heap.size ≤ l → W.heap[l]? = some o → o.isCells = false → o.isWalk = false → Kp W (W.putObj l o'))
    (I : Nat → World → Prop) (hIa : ∀ W o, I 0 W → I 0 (W.alloc o)) (hIp : ∀ k W l o o', I k W → w.heap.size ≤ l → W.heap[l]? = some o → o.isCells = false → I k (W.putObj l o')) (h0 : I 0 w)
    (hseq : Rg.Gives F (n - 1) P gf lb (bk zs) zs.length Kp w)
    (hassign : ∀ (l k : Nat) (W : World) (K : Act → World → Prop), K { tmps := ((a.tmps.setIfInBounds 51 (.int .i64 ((zs.length - 1 - k : Nat) : Int))).setIfInBounds 52 (.int .i64 (zs[zs.length - 1 - k]?.getD 0))).setIfInBounds 14 (.int .i64 (zs[zs.length - 1 - k]?.getD 0)), defers := [] } W →
      assign.wpIn (F.inRound l) (n - 1 - 1) P (Exit.then K (fun _ _ _ => False)) { tmps := (ps.zip (bk zs k)).foldl (fun t (p, v) => t.setIfInBounds p v) a.tmps, defers := [] } W)
    (hbody : ∀ (l k : Nat) (W : World), k < zs.length → I k W → body.wpIn (F.inRound l) (n - 1 - 1) P (fun e _ W' => e = .normal ∧ KeepsFrom w.heap.size W W' ∧ Kp W W' ∧ I (k + 1) W')
      { tmps := ((a.tmps.setIfInBounds 51 (.int .i64 ((zs.length - 1 - k : Nat) : Int))).setIfInBounds 52 (.int .i64 (zs[zs.length - 1 - k]?.getD 0))).setIfInBounds 14 (.int .i64 (zs[zs.length - 1 - k]?.getD 0)), defers := [] } W)
    (hdone : ∀ (D : Nat) (W : World), w.heap.size ≤ D → I zs.length W → W.heap[D]? = some (.deferred (some [])) → Q .normal { a with defers := { target := .collected D, args := #[] } :: a.defers } W) :
    (Code.rangeFunc g ps assign body).wpIn F n P Q a w :=
  Rg.range_upto (Kp := Kp) hro h1 hg hFg eg (fun k => by rw [hps]; rfl) hKt hKb I hIa hIp h0 hseq (fun k => { tmps := ((a.tmps.setIfInBounds 51 (.int .i64 ((zs.length - 1 - k : Nat) : Int))).setIfInBounds 52 (.int .i64 (zs[zs.length - 1 - k]?.getD 0))).setIfInBounds 14 (.int .i64 (zs[zs.length - 1 - k]?.getD 0)), defers := [] }) hassign hbody hdone
structure LI (W8 : World) (B0 br be bz cr ce b1 b2 : Nat) (en row : List Int) (W : World) : Prop where
  gr : W8.grownBy W (some br)
  b0 : B0 ≤ W.heap.size
  z : W.heap[bz]? = some (.cells #[.slice (some ⟨be, 0, none⟩) en.length ce] 29 (0, 0))
  rr : Kd.R (Kd.int .i64) 3 W b1 (fun k => k < B0 ∧ k ≠ be) (.slice (some ⟨br, 0, none⟩) row.length cr) row
  re : Kd.R (Kd.int .i64) 3 W b2 (fun k => k < B0 ∧ k ≠ br) (.slice (some ⟨be, 0, none⟩) en.length ce) en
theorem LI.alloc {W8 W : World} {B0 br be bz cr ce b1 b2 : Nat} {en row : List Int} (h : LI W8 B0 br be bz cr ce b1 b2 en row W) (o : Obj) : LI W8 B0 br be bz cr ce b1 b2 en row (W.alloc o) :=
  ⟨grown_trans h.gr (World.grownBy_alloc W o none) (fun b e => by cases e), by simp; have := h.b0; omega, (Below.heap_alloc _ _ _ (blk_lt h.z)).trans h.z, Kd.R_alloc h.rr o, Kd.R_alloc h.re o⟩
theorem LI.putObj {W8 W : World} {B0 br be bz cr ce b1 b2 : Nat} {en row : List Int} (h : LI W8 B0 br be bz cr ce b1 b2 en row W) (h8 : W8.heap.size ≤ B0) (hz : bz < B0) (l : Nat) (o : Obj) (hl : B0 ≤ l) : LI W8 B0 br be bz cr ce b1 b2 en row (W.putObj l o) :=
  ⟨grown_trans h.gr (grownBy_putObj' W l o) (fun b e => .inl (by cases e; omega)), by simp; exact h.b0, (World.putObj_heap_other (by omega)).trans h.z,
    Kd.R_step h.rr (fun k hk _ => World.putObj_heap_other (by omega)), Kd.R_step h.re (fun k hk _ => World.putObj_heap_other (by omega))⟩
theorem LI.last {W8 W : World} {g B0 br be bz cr ce b1 b2 bf Bs : Nat} {As Am Ac : Option Addr} {cs cm cc : Nat} {s : List Int} {sm : List Bool} {co en row en' row' : List Int} {j : Int}
    (hS : Sr W8 g br As Am Ac cs cm cc cr s sm co row.length) (h : LI W8 B0 br be bz cr ce b1 b2 en row W) (h8 : W8.heap.size ≤ be) (hz : bz < B0) (hbe : be < B0) (hbr : br < B0) (hzb : bz ≠ be) (hzr : bz ≠ br)
    (hsE : ∀ ad, As = some ad → ad.block ≠ be) (hf1 : bf ≠ be) (hf2 : bf ≠ br) (hB1 : Bs ≠ be) (hB2 : Bs ≠ br) (hbf : bf < B0) (hBs : Bs < B0) (hF : lastF s en row j = some (en', row')) :
    Calls Tryz.prog 125 #[.pointer (some ⟨g, 0, none⟩), .slice (some ⟨be, 0, none⟩) en.length ce, .int .i64 j] W fun e W' => e = .returned (.tuple #[]) ∧ row'.length = row.length ∧ en'.length = en.length ∧ KeepsFrom B0 W W' ∧ Keep2 bf Bs W W' ∧ LI W8 B0 br be bz cr ce b1 b2 en' row' W' := by
  have hS1 := hS.move h.gr
  have hge : g ≠ be := fun e => by have := blk_lt hS.G; omega
  refine (last_kd hS1 h.rr h.re hge hsE (fun k hk => hk.2) (fun k hk => hk.2) hF).mono ?_
  rintro e W' ⟨rfl, r1, r2, hl1, hl2, W1, g1, g2⟩
  have hb0 := h.b0
  have s1 := g1.size
  have s2 := g2.size
  have hblk : ∀ k, k < W.heap.size → k ≠ be → k ≠ br → W'.heap[k]? = W.heap[k]? := fun k hk n1 n2 =>
    (g2.block k (by omega) (fun e => n2 (by cases e; rfl))).trans (g1.block k hk (fun e => n1 (by cases e; rfl)))
  refine ⟨rfl, hl1, hl2, ⟨by omega, fun k o hk ho hc => (hblk k (Array.getElem?_eq_some_iff.1 ho).1 (by omega) (by omega)).trans ho⟩, ⟨hblk _ (by omega) hf1 hf2, hblk _ (by omega) hB1 hB2⟩, ?_⟩
  refine ⟨grown_trans (grown_trans h.gr g1 (fun b e => .inl (by cases e; exact h8))) g2 (fun b e => .inr (by rw [e])), by omega, ?_, r1, r2⟩
  rw [hl2]
  exact (hblk _ (by omega) hzb hzr).trans h.z
theorem C_Ints {W : World} {A : Option Addr} {l : List Int} {c B : Nat} (h : Kd.C (Kd.int .i64) W A l.length l) (hB : W.heap.size ≤ B) : Ints B W (.slice A l.length c) l := by
  by_cases h0 : l.length = 0
  · exact .inl ⟨c, A, by rw [h0], List.length_eq_zero_iff.1 h0⟩
  · obtain ⟨ad, rfl, h1⟩ := Kd.at_int h 0 (by omega) (by omega)
    refine .inr ⟨ad, c, rfl, Nat.lt_of_lt_of_le (Kd.C_lt h (by omega) (by decide)) hB, fun j hj => ?_⟩
    obtain ⟨ad', he, h2⟩ := Kd.at_int h (j : Int) (by omega) (by omega)
    cases he
    rw [Int.toNat_natCast] at h2
    rw [h2]
    simp [rd]
theorem R_sorted {W : World} {base : Nat} {v : Value} {zs : List Int} (h : W.ownsRow base 3 1 v zs.length ((zs.mergeSort (fun x y => decide (x ≤ y))).map (Value.int .i64))) : Kd.R (Kd.int .i64) 3 W base (fun _ => True) v (zs.mergeSort (fun x y => decide (x ≤ y))) := by
  refine Kd.R_of_own (enc := Value.int .i64) (h1 := fun _ => rfl) ?_ (fun _ _ => trivial)
  rw [List.length_mergeSort]
  have : encs (Value.int .i64) (zs.mergeSort (fun x y => decide (x ≤ y))) = (zs.mergeSort (fun x y => decide (x ≤ y))).map (Value.int .i64) := by simp [encs]
  rw [this]; exact h
set_option maxRecDepth 100000 in
set_option maxHeartbeats 4000000 in
theorem sort_main (n : Nat) (hn : 6 ≤ n) {w : World} {As Af : Option Addr} {cs cf : Nat} {s first co fs st en0 row1 row2 row2a row2c row3 en1 st0 ri : List Int} {sm : List Bool} {k : Int}
    (hs : Kd.C (Kd.int .i64) w As s.length s) (hf : Kd.C (Kd.int .i64) w Af first.length first) (hfl : first.length ≤ 1000000) (hs0 : 0 < s.length) (hsl : s.length ≤ 1000000) (hstl : st.length = co.length) (hco : 0 < co.length) (hcol : co.length < 4611686018427387904) (henl : 0 < en0.length) (hen : endsL co co.length 0 st = en0) (hl0 : firstF s st row1 ((s.length : Int) - 1) = some (st0, row2a)) (hla : largeL s sm row1.length 0 st0 row2a = some row2) (hml : sm.length < 4611686018427387904)
    (hcl : clearL sm row2.length 0 row2 = some row2c) (hsm : smallL s sm row2.length en0 row2c = some row3)
    (hall : lastAll s first.reverse en0 (List.replicate s.length (-1)) = some (en1, row1))
    (hCounts : ∀ W, Kd.C (Kd.int .i64) W As s.length s → Calls Tryz.prog 91 #[.slice As s.length cs, .int .i64 k] W fun e W' => ∃ v, e = .returned (.tuple #[v, .bool true]) ∧ Kd.R (Kd.int .i64) 3 W' W.heap.size (fun _ => True) v co ∧ Below W.heap.size W W')
    (hFirst : ∀ W, Kd.C (Kd.int .i64) W As s.length s → Calls Tryz.prog 104 #[.slice As s.length cs] W fun e W' => ∃ v, e = .returned v ∧ Kd.R (Kd.int .i64) 3 W' W.heap.size (fun _ => True) v fs ∧ Below W.heap.size W W')
    (hri : first.mergeSort (fun x y => decide (x ≤ y)) = ri)
    (hEq : ∀ W A B c d, ri.length ≤ c → fs.length ≤ d → Kd.C (Kd.int .i64) W A ri.length ri → Kd.C (Kd.int .i64) W B fs.length fs →
      Calls Tryz.prog 63 #[.slice A ri.length c, .slice B fs.length d] W fun e W' => e = .returned (.bool true) ∧ Drawn0 W W')
    (hSmall : ∀ W, Kd.C (Kd.int .i64) W As s.length s → Calls Tryz.prog 120 #[.slice As s.length cs] W fun e W' => ∃ v, e = .returned v ∧ Kd.R Kd.bool 4 W' W.heap.size (fun _ => True) v sm ∧ Below W.heap.size W W')
    (hStarts : ∀ W A c, co.length ≤ c → Kd.C (Kd.int .i64) W A co.length co → Calls Tryz.prog 93 #[.slice A co.length c] W fun e W' => ∃ v, e = .returned v ∧ Kd.R (Kd.int .i64) 3 W' W.heap.size (fun _ => True) v st ∧ Below W.heap.size W W') :
    CallsIn Fence.wide n Tryz.prog 105 #[.slice As s.length cs, .int .i64 k, .slice Af first.length cf] w fun e w' => ∃ v, e = .returned (.tuple #[v, .bool true]) ∧ Kd.R (Kd.int .i64) 3 w' w.heap.size (fun _ => True) v row3 ∧ Below w.heap.size w w' := by
  have h1 : 1 ≤ n := by omega
  refine callsIn_of_wp_marks Tryz.func105 rfl trivial ?_ rfl
  simp only [Tryz.ntmps105, List.size_toArray, List.length_cons, List.length_nil, Nat.reduceAdd, Nat.reduceSub, Array.replicate_succ, Array.replicate_zero, List.push_toArray, List.append_toArray, List.nil_append, List.cons_append]
  have CS := Aside0.mk (hCounts w hs)
  have HS := Aside0.mk hs
  have HF := Aside0.mk hf
  have HFI := Aside0.mk hFirst
  have HEQ := Aside0.mk hEq
  have HRI := Go.Lib.hid hri
  have HL0 := Go.Lib.hid hl0
  have HLA := Go.Lib.hid hla
  have HCL := Go.Lib.hid hcl
  have HSML := Go.Lib.hid hsm
  have HALL := Go.Lib.hid hall
  have HSL := Go.Lib.hid hstl
  have HEN := Go.Lib.hid hen
  have HSM := Aside0.mk hSmall
  have HST := Aside0.mk hStarts
  clear hri hl0 hla hcl hsm hall hen hstl hs hf hCounts hFirst hEq hSmall hStarts
  gi_wp2_with (fail)
  refine ⟨trivial, (callsIn_wide.2 CS.out).mono ?_⟩
  rintro e w1 ⟨v1, rfl, r1, b1⟩
  obtain ⟨Ac, cc, rfl, hcc, _⟩ := Kd.R_reads r1
  have R1 := Aside0.mk r1
  have HCC := Go.Lib.hid hcc
  clear hcc
  have B1 := Aside0.mk b1
  clear r1 b1
  gi_wp2_with (fail)
  refine ⟨trivial, (callsIn_wide.2 (values_calls _ _ _ _)).mono ?_⟩
  rintro e w2 ⟨rfl, ew2⟩
  have bB2 : Below w1.heap.size w1 w2 := by rw [ew2]; exact (Below.refl _ w1).alloc (Nat.le_refl _) _
  have hc2 : w2.cell? ⟨w1.heap.size, 0, none⟩ = some (.slice Af first.length cf) := by rw [ew2]; exact (Boxed.new w1 29 (.slice Af first.length cf)).cell
  have hs2 : w1.heap.size < w2.heap.size := by rw [ew2]; simp
  clear ew2
  have cI := C_Ints (c := cf) (Kd.C_below HF.out (B1.out.trans (bB2.mono B1.out.size))) (Nat.le_refl _)
  have cS := sorted_calls w1.heap.size (.slice Af first.length cf) first (by have : maxLen = 9223372036854775807 := rfl; omega) (by omega) w2 hs2 hc2 cI
  have B2 := Aside0.mk (B1.out.trans (bB2.mono B1.out.size))
  have BB2 := Aside0.mk bB2
  clear bB2 cI hc2 hs2
  gi_wp2_with (fail)
  refine ⟨trivial, (callsIn_wide.2 cS).mono ?_⟩
  clear cS
  rintro e w3 ⟨v3, rfl, o3, _, b3⟩
  have r3 := R_sorted o3
  rw [HRI.out] at r3
  obtain ⟨A3, c3, rfl, hc3, _⟩ := Kd.R_reads r3
  have R3 := Aside0.mk r3
  have HC3 := Go.Lib.hid hc3
  clear hc3
  have BB3 := Aside0.mk b3
  have B3 := Aside0.mk (B2.out.trans (b3.mono B2.out.size))
  clear r3 b3 o3
  gi_wp2_with (fail)
  have bw3 : Below w.heap.size w w3 := B3.out
  refine ⟨trivial, (callsIn_wide.2 (HFI.out w3 (Kd.C_below HS.out bw3))).mono ?_⟩
  rintro e w4 ⟨v4, rfl, r4, b4⟩
  obtain ⟨A4, c4, rfl, hc4, _⟩ := Kd.R_reads r4
  have R4 := Aside0.mk r4
  have HC4 := Go.Lib.hid hc4
  clear hc4
  have BB4 := Aside0.mk b4
  have B4 := Aside0.mk (B3.out.trans (b4.mono B3.out.size))
  clear r4 b4 bw3
  gi_wp2_with (fail)
  have f3 := Kd.C_below (Kd.F_now (Kd.R_F R3.out)) BB4.out
  have f4 := Kd.F_now (Kd.R_F R4.out)
  have cE := HEQ.out w4 A3 A4 c3 c4 HC3.out HC4.out f3 f4
  clear f3 f4
  refine ⟨trivial, (callsIn_wide.2 cE).mono ?_⟩
  clear cE
  rintro e w5 ⟨rfl, ⟨m5, rfl⟩⟩
  have b5 : Below w4.heap.size w4 (w4.drewN m5) := pw_below_drewN (Below.refl _ _) m5
  have BB5 := Aside0.mk b5
  have B5 := Aside0.mk (B4.out.trans (b5.mono B4.out.size))
  generalize w4.drewN m5 = w5 at *
  clear b5
  gi_wp2_with (fail)
  have cM := HSM.out w5 (Kd.C_below HS.out B5.out)
  refine ⟨trivial, (callsIn_wide.2 cM).mono ?_⟩
  clear cM
  rintro e w6 ⟨v6, rfl, r6, b6⟩
  obtain ⟨A6, c6, rfl⟩ := Kd.R_slice r6
  have R6 := Aside0.mk r6
  have BB6 := Aside0.mk b6
  have B6 := Aside0.mk (B5.out.trans (b6.mono B5.out.size))
  clear r6 b6
  gi_wp2_with (fail)
  have cR := Re.repeat_calls (w6.alloc (.cells #[.int .i64 (-1)] 3)) w6.heap.size 1 s.length (-1) (by omega) (by omega) (Boxed.new w6 3 (.int .i64 (-1))).cell
  refine ⟨trivial, (callsIn_wide.2 cR).mono ?_⟩
  clear cR
  rintro e w7 ⟨v7, rfl, r7, b7⟩
  obtain ⟨br, cr, rfl, hbr, hbr2, _⟩ := Kd.R_form r7 (by rw [List.length_replicate]; omega)
  rw [List.length_replicate] at *
  have bx7 : Below w6.heap.size w6 w7 := ((Below.refl _ w6).alloc (Nat.le_refl _) _).trans (b7.mono (by simp))
  have hbw : w6.heap.size ≤ br := by simp at hbr; omega
  have R7 := Aside0.mk (Kd.R_lower r7 (show w6.heap.size ≤ _ by simp))
  have BB7 := Aside0.mk bx7
  have B7 := Aside0.mk (B6.out.trans (bx7.mono B6.out.size))
  clear r7 b7 bx7
  gi_wp2_with (fail)
  obtain ⟨W8, hW8⟩ : ∃ W8, (w7.alloc (.cells #[.slice As s.length cs, .slice A6 sm.length c6, .slice Ac co.length cc, .slice (some ⟨br, 0, none⟩) s.length cr] 167)).alloc (.cells #[.pointer (some ⟨w7.heap.size, 0, none⟩)] 165) = W8 := ⟨_, rfl⟩
  rw [hW8]
  have hG : W8.heap[w7.heap.size]? = some (.cells #[.slice As s.length cs, .slice A6 sm.length c6, .slice Ac co.length cc, .slice (some ⟨br, 0, none⟩) s.length cr] 167 (0, 0)) := by
    rw [← hW8]; exact (Below.heap_alloc _ _ _ (by simp)).trans (World.alloc_heap_new w7 _)
  have hX : W8.heap[w7.heap.size + 1]? = some (.cells #[.pointer (some ⟨w7.heap.size, 0, none⟩)] 165 (0, 0)) := by
    rw [← hW8]; have := World.alloc_heap_new (w7.alloc (.cells #[.slice As s.length cs, .slice A6 sm.length c6, .slice Ac co.length cc, .slice (some ⟨br, 0, none⟩) s.length cr] 167)) (.cells #[.pointer (some ⟨w7.heap.size, 0, none⟩)] 165); rwa [World.size_alloc] at this
  have bb8 : Below w7.heap.size w7 W8 := by rw [← hW8]; exact (((Below.refl _ w7).alloc (Nat.le_refl _) _).alloc (by simp) _)
  have hs8 : W8.heap.size = w7.heap.size + 2 := by rw [← hW8]; simp
  have hbrw : br < w7.heap.size := Kd.R_lt R7.out br (by simp [Value.ownBlock])
  have l7 := B7.out.size
  have l6 := B6.out.size
  have l1 := B1.out.size
  have l5 := BB6.out.size
  have l61 : w1.heap.size ≤ w6.heap.size := by have := BB2.out.size; have := BB3.out.size; have := BB4.out.size; have := BB5.out.size; omega
  have b17 : Below w1.heap.size w1 w7 := BB2.out.trans ((BB3.out.trans ((BB4.out.trans ((BB5.out.trans ((BB6.out.trans (BB7.out.mono BB6.out.size)).mono BB5.out.size)).mono BB4.out.size)).mono BB3.out.size)).mono BB2.out.size)
  have hS8 : Sr W8 w7.heap.size br As A6 Ac cs c6 cc cr s sm co s.length := by
    refine ⟨hG, by omega, fun ad e => ?_, ?_, ?_, ?_⟩
    · have : ad.block < w.heap.size := by subst e; exact Kd.C_lt HS.out hs0 (by decide)
      omega
    · exact Kd.F_mono (Kd.F_below (Kd.F_bound (Kd.F_below (Kd.C_F (Kd.heap_int _) HS.out) B7.out)) bb8) (fun k hk => by have := hk.1; omega)
    · exact Kd.F_mono (Kd.F_below (Kd.F_below (Kd.F_bound (Kd.R_F R6.out)) BB7.out) bb8) (fun k hk => by have := hk.2; omega)
    · exact Kd.F_mono (Kd.F_below (Kd.F_below (Kd.F_bound (Kd.R_F R1.out)) b17) bb8) (fun k hk => by have := hk.2; omega)
  have cN := ends_calls hS8 HSL.out hco hcol (fun W h => HST.out W Ac cc HCC.out h)
  refine ⟨trivial, (callsIn_wide.2 cN).mono ?_⟩
  clear cN
  rintro e w9 ⟨v9, rfl, r9, b9⟩
  rw [HEN.out] at r9
  obtain ⟨be, ce, rfl, hbe, hbe2, _⟩ := Kd.R_form r9 (by omega)
  have S8 := Aside0.mk hS8
  have R9 := Aside0.mk r9
  have BB8 := Aside0.mk bb8
  have BB9 := Aside0.mk b9
  have HX := Go.Lib.hid hX
  have hx9 : w9.cell? ⟨w7.heap.size + 1, 0, none⟩ = some (.pointer (some ⟨w7.heap.size, 0, none⟩)) := blk_cell ((b9.block _ (by omega)).trans hX) 0
  clear hG hX hS8 r9 bb8 b9 hW8 b17
  gi_wp2_with (fail)
  refine ⟨trivial, (backward_in Fence.wide (n - 1) trivial rfl Af first.length cf _).mono ?_⟩
  rintro e w11 ⟨rfl, ew11⟩
  rw [World.size_alloc] at *
  have s11 : w11.heap.size = w9.heap.size + 2 := by rw [ew11]; simp
  have z11 : w11.heap[w9.heap.size]? = some (.cells #[.slice (some ⟨be, 0, none⟩) en0.length ce] 29 (0, 0)) := by
    rw [ew11]; exact (Below.heap_alloc _ _ _ (by simp)).trans (World.alloc_heap_new w9 _)
  have c11 : w11.cell? ⟨w9.heap.size + 1, 0, none⟩ = some (.slice Af first.length cf) := by
    have h := World.alloc_heap_new (w9.alloc (.cells #[.slice (some ⟨be, 0, none⟩) en0.length ce] 29)) (.cells #[.slice Af first.length cf] 29)
    rw [World.size_alloc] at h
    rw [ew11]; exact blk_cell h 0
  have bb11 : Below w9.heap.size w9 w11 := by rw [ew11]; exact (((Below.refl _ w9).alloc (Nat.le_refl _) _).alloc (by simp) _)
  clear ew11
  have BB11 := Aside0.mk bb11
  clear bb11
  gi_wp2_with (fail)
  have l8 : W8.heap.size = w7.heap.size + 2 := hs8
  have l9 := BB9.out.size
  have hgive : ∃ bf, bf ≠ be ∧ bf ≠ br ∧ bf < w11.heap.size ∧ Rg.Gives Fence.wide (n - 1) Tryz.prog 74 #[.pointer (some ⟨w9.heap.size + 1, 0, none⟩)] (bk first) first.length (Keep2 bf (w9.heap.size + 1)) w11 := by
    have hbw : Below w.heap.size w w11 := B7.out.trans ((BB8.out.trans ((BB9.out.trans (BB11.out.mono BB9.out.size)).mono BB8.out.size)).mono B7.out.size)
    rcases C_Ints (c := cf) (Kd.C_below HF.out hbw) (Nat.le_refl w11.heap.size) with ⟨cap, A, e, rfl⟩ | ⟨ad, cap, e, hb, hc⟩
    · exact ⟨w7.heap.size, by omega, by omega, by omega, backward_gives_nil Fence.wide (n - 1) trivial rfl _ cf _ Af w11 (by omega) c11⟩
    · cases e
      have hadw : first.length = 0 ∨ ad.block < w.heap.size := by
        by_cases h0 : first.length = 0
        · exact .inl h0
        · exact .inr (Kd.C_lt HF.out (by omega) (by decide))
      rcases hadw with h0 | hadw
      · obtain rfl : first = [] := List.length_eq_zero_iff.1 h0
        exact ⟨w7.heap.size, by omega, by omega, by omega, backward_gives_nil Fence.wide (n - 1) trivial rfl _ cf _ _ w11 (by omega) c11⟩
      · exact ⟨ad.block, by omega, by omega, by omega, backward_gives Fence.wide (n - 1) trivial rfl (by omega) _ cf ad first (by omega) w11 (by omega) hb c11 hc⟩
  obtain ⟨bf, hf1, hf2, hf3, hgive⟩ := hgive
  refine range_back (Kp := Keep2 bf (w9.heap.size + 1)) rfl h1 (gf := 74) (lb := #[.pointer (some ⟨w9.heap.size + 1, 0, none⟩)]) rfl trivial (enters_of Tryz.func74 (by kernel_rfl) rfl) first rfl Keep2.trans (keep2_b hf3 (by omega))
    (fun k W => ∃ en row, lastAll s (first.reverse.take k) en0 (List.replicate s.length (-1)) = some (en, row) ∧ en.length = en0.length ∧ row.length = s.length ∧ LI W8 w11.heap.size br be w9.heap.size cr ce w6.heap.size W8.heap.size en row W)
    ?_ ?_ ?_ hgive ?_ ?_ ?_
  · rintro W o ⟨en, row, h1, h2, h3, h4⟩
    exact ⟨en, row, h1, h2, h3, h4.alloc o⟩
  · rintro k W l o o' ⟨en, row, h1, h2, h3, h4⟩ hl _ _
    exact ⟨en, row, h1, h2, h3, h4.putObj (by omega) (by omega) l o' hl⟩
  · refine ⟨en0, List.replicate s.length (-1), rfl, rfl, List.length_replicate .., ?_⟩
    have r7 := Kd.R_below (Kd.R_below (Kd.R_below (Kd.R_bound R7.out) BB8.out) BB9.out) BB11.out
    have r9 := Kd.R_below (Kd.R_bound R9.out) BB11.out
    refine ⟨grown_below (BB9.out.trans (BB11.out.mono BB9.out.size)) _, by omega, z11, ?_, ?_⟩
    · rw [List.length_replicate]; exact Kd.R_mono r7 (fun k hk => by have := hk.2.2.1; omega)
    · exact Kd.R_mono r9 (fun k hk => by have := hk.2.1; have := hk.2.2.1; omega)
  · intro l k W K hK
    dsimp only [bk]
    generalize ((first.length - 1 - k : Nat) : Int) = p at *
    generalize first[first.length - 1 - k]?.getD 0 = x at *
    gi_wp2
    exact hK
  · rintro l k W hk ⟨en, row, hla, hl1, hl2, hL⟩
    obtain ⟨y, hy1, hy2⟩ := lastAll_step (by rw [List.length_reverse]; exact hk) HALL.out hla
    rw [List.getElem?_reverse hk] at hy1
    have x9 := blk_cell ((hL.gr.block (w7.heap.size + 1) (by omega) (fun e => by cases e; omega)).trans HX.out) 0
    have z9 := blk_cell hL.z 0
    have hS := S8.out
    rw [← hl2] at hS
    have cL := LI.last (bf := bf) (Bs := w9.heap.size + 1) hS hL (by omega) (by omega) (by omega) (by omega) (by omega) (by omega) (fun ad e h => by
      have : ad.block < w.heap.size := by subst e; exact Kd.C_lt HS.out hs0 (by decide)
      omega) hf1 hf2 (by omega) (by omega) hf3 (by omega) hy1
    generalize ((first.length - 1 - k : Nat) : Int) = p at *
    generalize first[first.length - 1 - k]?.getD 0 = x at *
    rw [hl1] at cL z9
    have HY2 := Go.Lib.hid hy2
    have HL1 := Go.Lib.hid hl1
    have HL2 := Go.Lib.hid hl2
    clear hy1 hy2 hla hL hS hl1 hl2
    gi_wp2_with (fail)
    refine ⟨trivial, fun _ => by omega, (CallsIn.inRound l (callsIn_wide.2 cL)).mono ?_⟩
    clear cL
    rintro e W' ⟨rfl, hr1, hr2, hkf, hk2, hL'⟩
    have HKF := Aside0.mk hkf
    have HK2 := Aside0.mk hk2
    have HLI := Aside0.mk hL'
    clear hkf hk2 hL'
    gi_wp2_with (fail)
    have a1 := HKF.out
    have a2 := HLI.out
    rw [s11] at a1 a2
    rw [l8] at a2
    exact ⟨a1, HK2.out, y.1, y.2, HY2.out, hr2, hr1.trans HL2.out, a2⟩
  · rintro D W hD ⟨en, row, hla, hl1, hl2, hL⟩ hDd
    have hla2 : some (en1, row1) = some (en, row) := by
      rw [← HALL.out, ← hla, List.take_of_length_le (by rw [List.length_reverse]; exact Nat.le_refl _)]
    cases hla2
    have x9 := blk_cell ((hL.gr.block (w7.heap.size + 1) (by omega) (fun e => by cases e; omega)).trans HX.out) 0
    have hS := S8.out.move hL.gr
    rw [← hl2] at hS
    have cL := large_calls hS hL.rr (fun W h => HST.out W Ac cc HCC.out h) HL0.out HLA.out (by omega) (by omega) hml
    gi_wp2_with (fail)
    refine ⟨trivial, (callsIn_wide.2 cL).mono ?_⟩
    clear cL
    rintro e W2 ⟨rfl, r2, hr2, g2⟩
    have G2 := grown_trans hL.gr g2 (fun b e => .inr (by rw [e]))
    have hS2 := S8.out.move G2
    rw [← hl2, ← hr2] at hS2
    have x92 := blk_cell ((G2.block (w7.heap.size + 1) (by omega) (fun e => by cases e; omega)).trans HX.out) 0
    have cM := smalls_calls hS2 r2 henl (fun ad e => by
      have : ad.block < w.heap.size := by subst e; exact Kd.C_lt HS.out hs0 (by decide)
      have := G2.size
      omega) (fun W h => (ends_calls h HSL.out hco hcol (fun W h => HST.out W Ac cc HCC.out h)).mono (fun e W' ⟨v, e1, e2, e3⟩ => ⟨v, e1, by rw [HEN.out] at e2; exact e2, e3⟩)) HCL.out HSML.out (by omega) (by omega) hml
    have R2 := Aside0.mk r2
    have GG2 := Aside0.mk G2
    have hD2 : W2.heap[D]? = some (.deferred (some [])) := (g2.block D (Array.getElem?_eq_some_iff.1 hDd).1 (fun e => by cases e; omega)).trans hDd
    have hDb : D ≠ br := by omega
    clear hS2 r2 g2 G2 hS hL hDd
    gi_wp2_with (fail)
    refine ⟨trivial, (callsIn_wide.2 cM).mono ?_⟩
    clear cM
    rintro e W3 ⟨rfl, r3, hr3, g3⟩
    have G3 := grown_trans GG2.out g3 (fun b e => .inr (by rw [e]))
    have hD3 : W3.heap[D]? = some (.deferred (some [])) := (g3.block D (Array.getElem?_eq_some_iff.1 hD2).1 (fun e => hDb (by cases e; rfl))).trans hD2
    have x93 := blk_cell ((G3.block (w7.heap.size + 1) (by omega) (fun e => by cases e; omega)).trans HX.out) 0
    obtain ⟨_, _, _, q3⟩ := (S8.out.move G3).cells
    rw [← hl2, ← hr2, ← hr3] at q3
    have R3' := Aside0.mk r3
    have BF : Aside0 (Below w.heap.size w W3) := ⟨(B7.out.trans (BB8.out.mono B7.out.size)).grown G3 (by omega) (fun k e => by cases e; omega)⟩
    have HD := Go.Lib.hid hD3
    clear r3 g3 G3 hD2 hD3
    gi_wp2_with (fail)
    have hs3 : row3.length = s.length := by rw [hr3, hr2, hl2]
    refine ⟨by simp, .inl ⟨_, _, rfl, run_takeDeferred HD.out, ?_⟩⟩
    refine ⟨_, results_tmp2 rfl _ _ _, .slice (some ⟨br, 0, none⟩) s.length cr, rfl, ?_, ?_⟩
    · have r := R3'.out
      rw [hs3] at r
      exact Kd.R_mono (Kd.R_lower (Kd.R_step r (fun k hk _ => World.putObj_heap_other (by have := hk.1; omega))) l6) (fun _ _ => trivial)
    · exact BF.out.grown (grownBy_putObj' W3 D _) BF.out.size (fun k e => by cases e; omega)
set_option maxRecDepth 100000 in
set_option maxHeartbeats 4000000 in
theorem sort_empty (n : Nat) (hn : 6 ≤ n) {w : World} {As Af : Option Addr} {cs cf : Nat} {s first co fs ri : List Int} {k : Int}
    (hs : Kd.C (Kd.int .i64) w As s.length s) (hf : Kd.C (Kd.int .i64) w Af first.length first) (hfl : first.length ≤ 1000000) (hs0 : s.length = 0) (hri : first.mergeSort (fun x y => decide (x ≤ y)) = ri)
    (hCounts : ∀ W, Kd.C (Kd.int .i64) W As s.length s → Calls Tryz.prog 91 #[.slice As s.length cs, .int .i64 k] W fun e W' => ∃ v, e = .returned (.tuple #[v, .bool true]) ∧ Kd.R (Kd.int .i64) 3 W' W.heap.size (fun _ => True) v co ∧ Below W.heap.size W W')
    (hFirst : ∀ W, Kd.C (Kd.int .i64) W As s.length s → Calls Tryz.prog 104 #[.slice As s.length cs] W fun e W' => ∃ v, e = .returned v ∧ Kd.R (Kd.int .i64) 3 W' W.heap.size (fun _ => True) v fs ∧ Below W.heap.size W W')
        (hEq : ∀ W A B c d, ri.length ≤ c → fs.length ≤ d → Kd.C (Kd.int .i64) W A ri.length ri → Kd.C (Kd.int .i64) W B fs.length fs →
      Calls Tryz.prog 63 #[.slice A ri.length c, .slice B fs.length d] W fun e W' => e = .returned (.bool true) ∧ Drawn0 W W') :
    CallsIn Fence.wide n Tryz.prog 105 #[.slice As s.length cs, .int .i64 k, .slice Af first.length cf] w fun e w' => ∃ v, e = .returned (.tuple #[v, .bool true]) ∧ Kd.R (Kd.int .i64) 3 w' w.heap.size (fun _ => True) v [] ∧ Below w.heap.size w w' := by
  have h1 : 1 ≤ n := by omega
  refine callsIn_of_wp_marks Tryz.func105 rfl trivial ?_ rfl
  simp only [Tryz.ntmps105, List.size_toArray, List.length_cons, List.length_nil, Nat.reduceAdd, Nat.reduceSub, Array.replicate_succ, Array.replicate_zero, List.push_toArray, List.append_toArray, List.nil_append, List.cons_append]
  have CS := Aside0.mk (hCounts w hs)
  have HS := Aside0.mk hs
  have HF := Aside0.mk hf
  have HFI := Aside0.mk hFirst
  have HEQ := Aside0.mk hEq
  have HRI := Go.Lib.hid hri
  have HS0 := Go.Lib.hid hs0
  clear hs0 hri hs hf hCounts hFirst hEq
  gi_wp2_with (fail)
  refine ⟨trivial, (callsIn_wide.2 CS.out).mono ?_⟩
  rintro e w1 ⟨v1, rfl, r1, b1⟩
  obtain ⟨Ac, cc, rfl, hcc, _⟩ := Kd.R_reads r1
  have R1 := Aside0.mk r1
  have HCC := Go.Lib.hid hcc
  clear hcc
  have B1 := Aside0.mk b1
  clear r1 b1
  gi_wp2_with (fail)
  refine ⟨trivial, (callsIn_wide.2 (values_calls _ _ _ _)).mono ?_⟩
  rintro e w2 ⟨rfl, ew2⟩
  have bB2 : Below w1.heap.size w1 w2 := by rw [ew2]; exact (Below.refl _ w1).alloc (Nat.le_refl _) _
  have hc2 : w2.cell? ⟨w1.heap.size, 0, none⟩ = some (.slice Af first.length cf) := by rw [ew2]; exact (Boxed.new w1 29 (.slice Af first.length cf)).cell
  have hs2 : w1.heap.size < w2.heap.size := by rw [ew2]; simp
  clear ew2
  have cI := C_Ints (c := cf) (Kd.C_below HF.out (B1.out.trans (bB2.mono B1.out.size))) (Nat.le_refl _)
  have cS := sorted_calls w1.heap.size (.slice Af first.length cf) first (by have : maxLen = 9223372036854775807 := rfl; omega) (by omega) w2 hs2 hc2 cI
  have B2 := Aside0.mk (B1.out.trans (bB2.mono B1.out.size))
  have BB2 := Aside0.mk bB2
  clear bB2 cI hc2 hs2
  gi_wp2_with (fail)
  refine ⟨trivial, (callsIn_wide.2 cS).mono ?_⟩
  clear cS
  rintro e w3 ⟨v3, rfl, o3, _, b3⟩
  have r3 := R_sorted o3
  rw [HRI.out] at r3
  obtain ⟨A3, c3, rfl, hc3, _⟩ := Kd.R_reads r3
  have R3 := Aside0.mk r3
  have HC3 := Go.Lib.hid hc3
  clear hc3
  have BB3 := Aside0.mk b3
  have B3 := Aside0.mk (B2.out.trans (b3.mono B2.out.size))
  clear r3 b3 o3
  gi_wp2_with (fail)
  have bw3 : Below w.heap.size w w3 := B3.out
  refine ⟨trivial, (callsIn_wide.2 (HFI.out w3 (Kd.C_below HS.out bw3))).mono ?_⟩
  rintro e w4 ⟨v4, rfl, r4, b4⟩
  obtain ⟨A4, c4, rfl, hc4, _⟩ := Kd.R_reads r4
  have R4 := Aside0.mk r4
  have HC4 := Go.Lib.hid hc4
  clear hc4
  have BB4 := Aside0.mk b4
  have B4 := Aside0.mk (B3.out.trans (b4.mono B3.out.size))
  clear r4 b4 bw3
  gi_wp2_with (fail)
  have f3 := Kd.C_below (Kd.F_now (Kd.R_F R3.out)) BB4.out
  have f4 := Kd.F_now (Kd.R_F R4.out)
  have cE := HEQ.out w4 A3 A4 c3 c4 HC3.out HC4.out f3 f4
  clear f3 f4
  refine ⟨trivial, (callsIn_wide.2 cE).mono ?_⟩
  clear cE
  rintro e w5 ⟨rfl, ⟨m5, rfl⟩⟩
  have b5 : Below w4.heap.size w4 (w4.drewN m5) := pw_below_drewN (Below.refl _ _) m5
  have BB5 := Aside0.mk b5
  have B5 := Aside0.mk (B4.out.trans (b5.mono B4.out.size))
  generalize w4.drewN m5 = w5 at *
  clear b5
  have hs0 := HS0.out
  gi_wp2_with (fail)
  have l5 := B5.out.size
  have bb5 := B5.out
  refine ⟨_, results_tmp2 rfl _ _ _, .slice (some ⟨w5.heap.size, 0, none⟩) 0 0, rfl, ?_, bb5.alloc (by omega) _⟩
  exact Re.R_fill (v := 0) (n := 0) (g := w5.heap.size) (World.alloc_heap_new w5 _) (by omega) (by decide)
def sortL (s first co : List Int) (sm : List Bool) (st : List Int) : Option (List Int) :=
  (lastAll s first.reverse (endsL co co.length 0 st) (List.replicate s.length (-1))).bind fun x =>
  (firstF s st x.2 ((s.length : Int) - 1)).bind fun y =>
  (largeL s sm x.2.length 0 y.1 y.2).bind fun r =>
  (clearL sm r.length 0 r).bind fun c => smallL s sm r.length (endsL co co.length 0 st) c
theorem sort_calls {w : World} {As Af : Option Addr} {cs cf : Nat} {s first co fs st row3 ri : List Int} {sm : List Bool} {k : Int}
    (hs : Kd.C (Kd.int .i64) w As s.length s) (hf : Kd.C (Kd.int .i64) w Af first.length first) (hfl : first.length ≤ 1000000) (hs0 : 0 < s.length) (hsl : s.length ≤ 1000000) (hstl : st.length = co.length) (hco : 0 < co.length) (hcol : co.length < 4611686018427387904) (hml : sm.length < 4611686018427387904)
    (hall : sortL s first co sm st = some row3) (hri : first.mergeSort (fun x y => decide (x ≤ y)) = ri)
    (hCounts : ∀ W, Kd.C (Kd.int .i64) W As s.length s → Calls Tryz.prog 91 #[.slice As s.length cs, .int .i64 k] W fun e W' => ∃ v, e = .returned (.tuple #[v, .bool true]) ∧ Kd.R (Kd.int .i64) 3 W' W.heap.size (fun _ => True) v co ∧ Below W.heap.size W W')
    (hFirst : ∀ W, Kd.C (Kd.int .i64) W As s.length s → Calls Tryz.prog 104 #[.slice As s.length cs] W fun e W' => ∃ v, e = .returned v ∧ Kd.R (Kd.int .i64) 3 W' W.heap.size (fun _ => True) v fs ∧ Below W.heap.size W W')
    (hEq : ∀ W A B c d, ri.length ≤ c → fs.length ≤ d → Kd.C (Kd.int .i64) W A ri.length ri → Kd.C (Kd.int .i64) W B fs.length fs →
      Calls Tryz.prog 63 #[.slice A ri.length c, .slice B fs.length d] W fun e W' => e = .returned (.bool true) ∧ Drawn0 W W')
    (hSmall : ∀ W, Kd.C (Kd.int .i64) W As s.length s → Calls Tryz.prog 120 #[.slice As s.length cs] W fun e W' => ∃ v, e = .returned v ∧ Kd.R Kd.bool 4 W' W.heap.size (fun _ => True) v sm ∧ Below W.heap.size W W')
    (hStarts : ∀ W A c, co.length ≤ c → Kd.C (Kd.int .i64) W A co.length co → Calls Tryz.prog 93 #[.slice A co.length c] W fun e W' => ∃ v, e = .returned v ∧ Kd.R (Kd.int .i64) 3 W' W.heap.size (fun _ => True) v st ∧ Below W.heap.size W W') :
    Calls Tryz.prog 105 #[.slice As s.length cs, .int .i64 k, .slice Af first.length cf] w fun e w' => ∃ v, e = .returned (.tuple #[v, .bool true]) ∧ Kd.R (Kd.int .i64) 3 w' w.heap.size (fun _ => True) v row3 ∧ Below w.heap.size w w' := by
  unfold sortL at hall
  cases h1 : lastAll s first.reverse (endsL co co.length 0 st) (List.replicate s.length (-1)) with
  | none => rw [h1] at hall; simp at hall
  | some x =>
    rw [h1, Option.bind_some] at hall
    cases h2 : firstF s st x.2 ((s.length : Int) - 1) with
    | none => rw [h2] at hall; simp at hall
    | some y =>
      rw [h2, Option.bind_some] at hall
      cases h3 : largeL s sm x.2.length 0 y.1 y.2 with
      | none => rw [h3] at hall; simp at hall
      | some r =>
        rw [h3, Option.bind_some] at hall
        cases h4 : clearL sm r.length 0 r with
        | none => rw [h4] at hall; simp at hall
        | some c =>
          rw [h4, Option.bind_some] at hall
          exact (callsIn_wide (n := 6)).1 (sort_main 6 (by omega) hs hf hfl hs0 hsl hstl hco hcol (by rw [endsL_length, hstl]; exact hco) rfl h2 h3 hml h4 hall h1 hCounts hFirst hri hEq hSmall hStarts)
end Go.Proofs.YtbbpplnnegdenaaGreat.St
end
section
set_option linter.unusedVariables false
namespace Go.Proofs.YtbbpplnnegdenaaGreat.Rk
open Go Go.RowKit Go.Shelf Go.Proofs Go.Proofs.YtbbpplnnegdenaaGreatW.PrintWords Go.Proofs.YtbbpplnnegdenaaGreat.So Go.Proofs.YtbbpplnnegdenaaGreat.It Go.Proofs.YtbbpplnnegdenaaGreat.St
def ranksL (F : Int → Option (Int × Bool)) (s : List Int) : Nat → Nat → List Int → Option (List Int)
  | 0, _, l => some l
  | d + 1, i, l => (F (s.getD i 0)).bind fun r => ranksL F s d (i + 1) (l.set i r.1)
set_option maxHeartbeats 4000000 in
set_option maxRecDepth 100000 in
theorem ranks_calls {w : World} {As : Option Addr} {cs : Nat} {s od res : List Int} {F : Int → Option (Int × Bool)}
    (hs : Kd.C (Kd.int .i64) w As s.length s) (hsl : s.length ≤ 1000000) (hod : s.mergeSort (fun x y => decide (x ≤ y)) = od)
    (hBS : ∀ W A c x r1 r2, od.length ≤ c → Kd.C (Kd.int .i64) W A od.length od → F x = some (r1, r2) → Calls Tryz.prog 148 #[.slice A od.length c, .int .i64 x] W fun e W' => e = .returned (.tuple #[.int .i64 r1, .bool r2]) ∧ Drawn0 W W')
    (h : ranksL F s s.length 0 (List.replicate s.length 0) = some res) :
    Calls Tryz.prog 133 #[.slice As s.length cs] w fun e w' => ∃ v, e = .returned v ∧ Kd.R (Kd.int .i64) 3 w' w.heap.size (fun _ => True) v res ∧ Below w.heap.size w w' := by
  have HS := Aside0.mk hs
  have HOD := Go.Lib.hid hod
  have HBS := Aside0.mk hBS
  have HH := Go.Lib.hid h
  clear hs hod hBS h
  go_enter Tryz.func133, Tryz.ntmps133
  go_wp2_with (fail)
  refine (values_calls _ _ _ _).mono ?_
  rintro e w2 ⟨rfl, ew2⟩
  have bB2 : Below w.heap.size w w2 := by rw [ew2]; exact (Below.refl _ w).alloc (Nat.le_refl _) _
  have hc2 : w2.cell? ⟨w.heap.size, 0, none⟩ = some (.slice As s.length cs) := by rw [ew2]; exact (Boxed.new w 29 (.slice As s.length cs)).cell
  have hs2 : w.heap.size < w2.heap.size := by rw [ew2]; simp
  clear ew2
  have cI := C_Ints (c := cs) (Kd.C_below HS.out bB2) (Nat.le_refl _)
  have cS := sorted_calls w.heap.size (.slice As s.length cs) s (by have : maxLen = 9223372036854775807 := rfl; omega) (by omega) w2 hs2 hc2 cI
  have B2 := Aside0.mk bB2
  clear bB2 cI hc2 hs2
  go_wp2_with (fail)
  refine cS.mono ?_
  clear cS
  rintro e w3 ⟨v3, rfl, o3, _, b3⟩
  have r3 := R_sorted o3
  rw [HOD.out] at r3
  obtain ⟨A3, c3, rfl, hc3, _⟩ := Kd.R_reads r3
  obtain ⟨W1, hmk, hrow, hB1⟩ := Re.made w3 s.length (by omega)
  have R3 := Aside0.mk r3
  have HC3 := Go.Lib.hid hc3
  have B3 := Aside0.mk (B2.out.trans (b3.mono B2.out.size))
  have B31 := Aside0.mk hB1
  have HRW := Go.Lib.hid hrow
  clear r3 o3 b3 hc3 hB1 hrow
  go_wp2_with (fail)
  have R0 : Aside0 (Kd.R (Kd.int .i64) 3 W1 w3.heap.size (fun _ => True) (.slice (some ⟨w3.heap.size, 0, none⟩) (List.replicate s.length (0 : Int)).length s.length) (List.replicate s.length 0)) := by
    refine ⟨?_⟩
    rw [List.length_replicate]
    refine Re.R_fill (v := 0) ?_ (Nat.le_refl _) (by have : maxLen = 9223372036854775807 := rfl; omega)
    have e : Re.fill 0 s.length s.length = Re.fill 0 0 s.length := by simp [Re.fill]
    rw [e]; exact HRW.out
  clear hmk HRW
  go_loopw [15] (fun v15 wr => ∃ (i : Nat) (lx : List Int), v15 = .int .i64 i ∧ Aside0 (i ≤ s.length) ∧ Hid (ranksL F s (s.length - i) i lx = some res) ∧ Aside0 (Kd.R (Kd.int .i64) 3 wr w3.heap.size (fun _ => True) (.slice (some ⟨w3.heap.size, 0, none⟩) lx.length s.length) lx) ∧
      Hid (lx.length = s.length) ∧ Aside0 (Below w3.heap.size w3 wr))
    (fun v15 _ => s.length - (intOf v15).toNat)
  case atStart => exact ⟨0, List.replicate s.length 0, rfl, ⟨Nat.zero_le _⟩, HH, R0, Go.Lib.hid (List.length_replicate ..), B31⟩
  case round =>
    obtain ⟨i, lx, rfl, hi, hF, hR, hl, hB⟩ := hrel
    by_cases hlt : i < s.length
    · have hF2 := hF.out
      rw [show s.length - i = (s.length - (i + 1)) + 1 by omega, ranksL] at hF2
      obtain ⟨x, hx⟩ : ∃ x, s.getD i 0 = x := ⟨_, rfl⟩
      rw [hx] at hF2
      cases hFx : F x with
      | none => rw [hFx] at hF2; simp at hF2
      | some r =>
        obtain ⟨r1, r2⟩ := r
        rw [hFx, Option.bind_some] at hF2
        obtain ⟨ads, hAs, hcc⟩ := Kd.at_int (Kd.C_below HS.out (B3.out.trans (hB.out.mono B3.out.size))) (i : Int) (by omega) (by omega)
        subst hAs
        rw [Int.toNat_natCast, show rd s (i : Int) = x by simp [rd]; rw [← hx, List.getD_eq_getElem?_getD]] at hcc
        have cB := HBS.out wr A3 c3 x r1 r2 HC3.out (Kd.C_below (Kd.F_now (Kd.R_F R3.out)) hB.out) hFx
        have HF2 := Go.Lib.hid hF2
        have HX := Go.Lib.hid hx
        clear hF2 hx hFx
        go_wp2_with (fail)
        (with_reducible refine cB.mono ?_)
        clear cB
        rintro e w5 ⟨rfl, ⟨m5, rfl⟩⟩
        have hR5 := Kd.R_drewN hR.out m5
        have hB5 : Below w3.heap.size w3 (wr.drewN m5) := pw_below_drewN hB.out m5
        generalize wr.drewN m5 = w5 at *
        obtain ⟨hcell, hfro⟩ := Kd.R_cell 0 hR5 (i : Int) (by omega) (by have := hl.out; omega)
        rw [Int.toNat_natCast] at hfro hcell
        have r1' := Kd.R_putg hR5 (i : Int) r1
        rw [Int.toNat_natCast] at r1'
        have R1 := Aside0.mk r1'.1
        have BB := Aside0.mk (hB5.grown r1'.2 hB5.size (fun k e => by cases e; exact Nat.le_refl _))
        have HL := Go.Lib.hid (show (lx.set i r1).length = s.length by rw [List.length_set]; exact hl.out)
        clear hcc r1' hR5 hB5
        go_wp2
        go_roundw
        case rel => exact ⟨i + 1, lx.set i r1, by go_num, ⟨by omega⟩, HF2, ⟨by rw [List.length_set]; exact R1.out⟩, HL, BB⟩
        case measure => simp [intOf]; omega
    · have hie : i = s.length := by have := hi.out; omega
      have hF2 := hF.out
      rw [hie, Nat.sub_self] at hF2
      obtain rfl : lx = res := by simpa [ranksL] using hF2
      have hge : s.length ≤ i := by omega
      have R3' := Aside0.mk hR.out
      clear hF hF2 hie
      go_wp2
      go_ret
      have r := R3'.out
      have b3 := B3.out
      have hb := hB.out
      rw [hl.out] at r
      exact ⟨_, rfl, Kd.R_lower r b3.size, b3.trans (hb.mono b3.size)⟩
end Go.Proofs.YtbbpplnnegdenaaGreat.Rk
end
section
set_option linter.unusedVariables false
namespace Go.Proofs.YtbbpplnnegdenaaGreat.Nm
open Go Go.RowKit Go.Shelf Go.Proofs Go.Proofs.YtbbpplnnegdenaaGreatW.PrintWords Go.Proofs.YtbbpplnnegdenaaGreatW.PrintLast Go.Proofs.YtbbpplnnegdenaaGreatW.PrintMore Go.Proofs.YtbbpplnnegdenaaGreat.So Go.Proofs.YtbbpplnnegdenaaGreat.St
def pieceL (s nx : List Int) (i : Int) : Option (List Int) :=
  if 0 ≤ i ∧ i < nx.length then
    (if 0 ≤ nx.getD i.toNat 0 ∧ nx.getD i.toNat 0 < 4611686018427387904 ∧ i ≤ min (nx.getD i.toNat 0 + 1) s.length then some ((s.take (min (nx.getD i.toNat 0 + 1) s.length).toNat).drop i.toNat) else none) else none
set_option maxHeartbeats 4000000 in
set_option maxRecDepth 100000 in
theorem piece_calls {W : World} {As An : Option Addr} {cs cn : Nat} {s nx p : List Int} {i : Int}
    (hs : Kd.C (Kd.int .i64) W As s.length s) (hn : Kd.C (Kd.int .i64) W An nx.length nx) (hc : s.length ≤ cs) (hsl : s.length ≤ 1000000) (h : pieceL s nx i = some p) :
    Calls Tryz.prog 128 #[.slice As s.length cs, .slice An nx.length cn, .int .i64 i] W fun e W' => ∃ A c, e = .returned (.slice A p.length c) ∧ p.length ≤ c ∧ Kd.C (Kd.int .i64) W' A p.length p ∧ Drawn0 W W' := by
  unfold pieceL at h
  by_cases h1 : 0 ≤ i ∧ i < nx.length
  case neg => rw [if_neg h1] at h; exact absurd h (by simp)
  rw [if_pos h1] at h
  obtain ⟨adn, hAn, hcn⟩ := Kd.at_int hn i h1.1 h1.2
  subst hAn
  obtain ⟨x, hx⟩ : ∃ x, nx.getD i.toNat 0 = x := ⟨_, rfl⟩
  rw [hx] at h
  rw [show rd nx i = x from hx] at hcn
  by_cases h2 : 0 ≤ x ∧ x < 4611686018427387904 ∧ i ≤ min (x + 1) s.length
  case neg => rw [if_neg h2] at h; exact absurd h (by simp)
  rw [if_pos h2] at h
  have hp := Option.some.inj h
  clear h
  obtain ⟨i0, hi0, hz0, hz1, hz2⟩ := info_parts Re.info3
  have hm1 : min (x + 1) (s.length : Int) ≤ s.length := by omega
  have hcut := cut_mid (P := Tryz.prog) 29 3 .i64 .i64 Tryz.underlying29 hi0 1 hz1 As s.length cs i (min (x + 1) (s.length : Int)) h1.1 h2.2.2 hm1 hc
  have hmid := Kd.F_mid (lo := i.toNat) (hi := (min (x + 1) (s.length : Int)).toNat) (c := cs) (Kd.C_F (Kd.heap_int _) hs) (by omega) (by omega) hc
  have hpl : p.length = (min (x + 1) (s.length : Int)).toNat - i.toNat := by rw [← hp, List.length_drop, List.length_take]; omega
  have hpc : p.length ≤ cs - i.toNat := by omega
  rw [hp] at hmid
  obtain ⟨A', hA'⟩ : ∃ A', A' = (if cs = i.toNat then As else As.map (·.add (i.toNat * 1))) := ⟨_, rfl⟩
  obtain ⟨c', hc'⟩ : ∃ c', c' = cs - i.toNat := ⟨_, rfl⟩
  rw [← hpl, ← hA', ← hc'] at hcut
  rw [← hc'] at hpc
  replace hmid : Kd.C (Kd.int .i64) W A' p.length p := by rw [hA']; exact Kd.F_now hmid
  have HM := Aside0.mk hmid
  have HPC := Go.Lib.hid hpc
  have hw : wrap64 (x + 1) = x + 1 := by clear hcut hmid HM; unfold wrap64; omega
  have i0' := h1.1
  have i1' := h1.2
  have H2 := Go.Lib.hid h2
  clear hs hn hmid h1 h2 hx hp hA' hc' hpc hpl hm1 hz0 hz2 hz1 hi0 hc
  go_enter Tryz.func128, Tryz.ntmps128
  go_wp2_with (fail)
  go_ret
  exact ⟨A', c', rfl, HPC.out, HM.out, Drawn0.refl _⟩
def nextL (n : Int) (fi : List Int) : Nat → Nat → List Int → Option (List Int)
  | 0, _, nx => some nx
  | d + 1, i, nx => if 0 ≤ fi.getD i 0 ∧ fi.getD i 0 < nx.length then nextL n fi d (i + 1) (nx.set (fi.getD i 0).toNat (if i + 1 < fi.length then fi.getD (i + 1) 0 else n)) else none
def differL (E : List Int → List Int → Option Bool) (s nx : List Int) (last j : Int) : Option Bool :=
  if 0 ≤ last then (if nx.getD j.toNat 0 = s.length then some true else (if last < nx.length then (if nx.getD last.toNat 0 = s.length then some true else
    (pieceL s nx last).bind fun p => (pieceL s nx j).bind fun q => (E p q).bind fun b => some (!b)) else none)) else some false
def namesL (E : List Int → List Int → Option Bool) (s nx od : List Int) : Nat → Nat → List Int → Int → Int → Option (List Int × Int)
  | 0, _, nm, n, _ => some (nm, n)
  | d + 1, i, nm, n, last =>
    if 0 ≤ od.getD i 0 ∧ od.getD i 0 < nx.length then (if nx.getD (od.getD i 0).toNat 0 = 0 then namesL E s nx od d (i + 1) nm n last else
      (differL E s nx last (od.getD i 0)).bind fun b => if 0 ≤ n ∧ n < 1000000000 then namesL E s nx od d (i + 1) (nm.set (od.getD i 0).toNat (if b then n + 1 else n)) (if b then n + 1 else n) (od.getD i 0) else none) else none
def outL (nm fi : List Int) : Nat → Nat → List Int → Option (List Int)
  | 0, _, o => some o
  | d + 1, i, o => if 0 ≤ fi.getD i 0 ∧ fi.getD i 0 < nm.length then outL nm fi d (i + 1) (o ++ [nm.getD (fi.getD i 0).toNat 0]) else none
theorem nextL_length {n : Int} {fi : List Int} : ∀ {d i : Nat} {nx r : List Int}, nextL n fi d i nx = some r → r.length = nx.length
  | 0, _, _, _, h => by cases h; rfl
  | d + 1, i, nx, r, h => by
    unfold nextL at h
    by_cases c : 0 ≤ fi.getD i 0 ∧ fi.getD i 0 < nx.length
    · rw [if_pos c] at h; rw [nextL_length h, List.length_set]
    · rw [if_neg c] at h; simp at h
set_option maxHeartbeats 8000000 in
set_option maxRecDepth 100000 in
theorem named_calls {w : World} {As Af Ao : Option Addr} {cs cf cO : Nat} {s fi od nx nm out : List Int} {n0 : Int} {E : List Int → List Int → Option Bool}
    (hs : Kd.C (Kd.int .i64) w As s.length s) (hsc : s.length ≤ cs) (hf : Kd.C (Kd.int .i64) w Af fi.length fi) (ho : Kd.C (Kd.int .i64) w Ao od.length od) (hsl : s.length ≤ 1000000) (hfl : fi.length ≤ 1000000) (hol : od.length ≤ 1000000)
    (hE : ∀ W A B c d p q b, p.length ≤ c → q.length ≤ d → Kd.C (Kd.int .i64) W A p.length p → Kd.C (Kd.int .i64) W B q.length q → E p q = some b →
      Calls Tryz.prog 63 #[.slice A p.length c, .slice B q.length d] W fun e W' => e = .returned (.bool b) ∧ Drawn0 W W')
    (h1 : nextL s.length fi fi.length 0 (List.replicate s.length 0) = some nx) (h2 : namesL E s nx od od.length 0 (List.replicate s.length 0) 0 (-1) = some (nm, n0)) (h3 : outL nm fi fi.length 0 [] = some out) :
    Calls Tryz.prog 106 #[.slice As s.length cs, .slice Af fi.length cf, .slice Ao od.length cO] w fun e w' => ∃ v, e = .returned (.tuple #[v, .int .i64 (wrap64 (n0 + 1))]) ∧ Kd.R (Kd.int .i64) 3 w' w.heap.size (fun _ => True) v out ∧ Below w.heap.size w w' := by
  have hnl : nx.length = s.length := by rw [nextL_length h1, List.length_replicate]
  have HS := Aside0.mk hs
  have HF := Aside0.mk hf
  have HO := Aside0.mk ho
  have HE := Aside0.mk hE
  have H1 := Go.Lib.hid h1
  have H2 := Go.Lib.hid h2
  have H3 := Go.Lib.hid h3
  have HSC := Go.Lib.hid hsc
  have HNL := Go.Lib.hid hnl
  obtain ⟨W1, hmk, hrow, hB1⟩ := Re.made w s.length (by omega)
  have B1 := Aside0.mk hB1
  have R0 : Aside0 (Kd.R (Kd.int .i64) 3 W1 w.heap.size (fun _ => True) (.slice (some ⟨w.heap.size, 0, none⟩) (List.replicate s.length (0 : Int)).length s.length) (List.replicate s.length 0)) := by
    refine ⟨?_⟩
    rw [List.length_replicate]
    refine Re.R_fill (v := 0) ?_ (Nat.le_refl _) (by have : maxLen = 9223372036854775807 := rfl; omega)
    have e : Re.fill 0 s.length s.length = Re.fill 0 0 s.length := by simp [Re.fill]
    rw [e]; exact hrow
  clear hs hf ho hE h1 h2 h3 hsc hnl hrow hB1
  go_enter Tryz.func106, Tryz.ntmps106
  go_wp2_with (fail)
  clear hmk
  go_loopw [24] (fun v24 wr => ∃ (i : Nat) (lx : List Int), v24 = .int .i64 i ∧ Aside0 (i ≤ fi.length) ∧ Hid (nextL s.length fi (fi.length - i) i lx = some nx) ∧ Aside0 (Kd.R (Kd.int .i64) 3 wr w.heap.size (fun _ => True) (.slice (some ⟨w.heap.size, 0, none⟩) lx.length s.length) lx) ∧
      Hid (lx.length = s.length) ∧ Aside0 (Below w.heap.size w wr))
    (fun v24 _ => fi.length - (intOf v24).toNat)
  case atStart => exact ⟨0, List.replicate s.length 0, rfl, ⟨Nat.zero_le _⟩, H1, R0, Go.Lib.hid (List.length_replicate ..), B1⟩
  case round =>
    obtain ⟨i, lx, rfl, hi, hF, hR, hl, hB⟩ := hrel
    by_cases hlt : i < fi.length
    · have hF2 := hF.out
      rw [show fi.length - i = (fi.length - (i + 1)) + 1 by omega, nextL] at hF2
      obtain ⟨x, hx⟩ : ∃ x, fi.getD i 0 = x := ⟨_, rfl⟩
      rw [hx] at hF2
      by_cases hc : 0 ≤ x ∧ x < lx.length
      case neg => rw [if_neg hc] at hF2; exact absurd hF2 (by simp)
      rw [if_pos hc] at hF2
      have hlo := hl.out
      obtain ⟨adf, hAf, hcf⟩ := Kd.at_int (Kd.C_below HF.out hB.out) (i : Int) (by omega) (by omega)
      subst hAf
      rw [Int.toNat_natCast, show rd fi (i : Int) = x by simp [rd]; rw [← hx, List.getD_eq_getElem?_getD]] at hcf
      obtain ⟨m, rfl⟩ : ∃ m : Nat, x = (m : Int) := ⟨x.toNat, by omega⟩
      obtain ⟨hcell, hfro⟩ := Kd.R_cell 0 hR.out (m : Int) (by omega) (by omega)
      have r1 := Kd.R_putg hR.out (m : Int) (s.length : Int)
      have BB1 := hB.out.grown r1.2 hB.out.size (fun k e => by cases e; exact Nat.le_refl _)
      have hw : wrap64 ((i : Int) + 1) = (i : Int) + 1 := by unfold wrap64; omega
      rw [Int.toNat_natCast] at *
      have hms : m < s.length := by omega
      by_cases hn : i + 1 < fi.length
      · rw [if_pos hn] at hF2
        obtain ⟨y, hy⟩ : ∃ y, fi.getD (i + 1) 0 = y := ⟨_, rfl⟩
        rw [hy] at hF2
        obtain ⟨adf', hAf', hcf2⟩ := Kd.at_int (Kd.C_below HF.out BB1) ((i + 1 : Nat) : Int) (by omega) (by omega)
        cases hAf'
        rw [Int.toNat_natCast, show rd fi ((i + 1 : Nat) : Int) = y by simp only [rd]; rw [Int.toNat_natCast]; exact hy] at hcf2
        rw [show adf.add (i + 1) = ⟨adf.block, adf.off + (i + 1), none⟩ by unfold Addr.add; simp] at hcf2
        have h1' : (List.set lx m (s.length : Int)).length = lx.length := List.length_set
        have r1a := r1.1
        rw [← h1'] at r1a
        obtain ⟨hcell2, hfro2⟩ := Kd.R_cell 0 r1a (m : Int) (by omega) (by omega)
        have r2 := Kd.R_putg r1a (m : Int) y
        rw [Int.toNat_natCast] at hcell2 hfro2 r2
        rw [List.set_set, h1'] at r2
        have BB2 := BB1.grown r2.2 BB1.size (fun k e => by cases e; exact Nat.le_refl _)
        have R2 := Aside0.mk r2.1
        have BB := Aside0.mk BB2
        have HF2 := Go.Lib.hid hF2
        have HL := Go.Lib.hid (show (lx.set m y).length = s.length by rw [List.length_set]; exact hlo)
        clear r1 r1a r2 BB1 BB2 hF2 hy hx hF hR h1' hc
        go_wp2
        go_roundw
        case rel => exact ⟨i + 1, lx.set m y, by go_num, ⟨by omega⟩, HF2, ⟨by rw [List.length_set]; exact R2.out⟩, HL, BB⟩
        case measure => simp [intOf]; omega
      · rw [if_neg hn] at hF2
        have R2 := Aside0.mk r1.1
        have BB := Aside0.mk BB1
        have HF2 := Go.Lib.hid hF2
        have HL := Go.Lib.hid (show (lx.set m (s.length : Int)).length = s.length by rw [List.length_set]; exact hlo)
        have hn' : fi.length ≤ i + 1 := by omega
        clear r1 BB1 hF2 hx hF hR hc
        go_wp2
        go_roundw
        case rel => exact ⟨i + 1, lx.set m (s.length : Int), by go_num, ⟨by omega⟩, HF2, ⟨by rw [List.length_set]; exact R2.out⟩, HL, BB⟩
        case measure => simp [intOf]; omega
    · have hie : i = fi.length := by have := hi.out; omega
      have hF2 := hF.out
      rw [hie, Nat.sub_self] at hF2
      obtain rfl : nx = lx := by simpa [nextL] using hF2.symm
      have hge : fi.length ≤ i := by omega
      have RN := Aside0.mk hR.out
      have BN := Aside0.mk hB.out
      obtain ⟨W2, hmk2, hrow2, hB2⟩ := Re.made wr s.length (by omega)
      have B2 := Aside0.mk hB2
      have R02 : Aside0 (Kd.R (Kd.int .i64) 3 W2 wr.heap.size (fun _ => True) (.slice (some ⟨wr.heap.size, 0, none⟩) (List.replicate s.length (0 : Int)).length s.length) (List.replicate s.length 0)) := by
        refine ⟨?_⟩
        rw [List.length_replicate]
        refine Re.R_fill (v := 0) ?_ (Nat.le_refl _) (by have : maxLen = 9223372036854775807 := rfl; omega)
        have e : Re.fill 0 s.length s.length = Re.fill 0 0 s.length := by simp [Re.fill]
        rw [e]; exact hrow2
      clear hF hF2 hie hR hB hrow2 hB2 hl
      generalize wr = wz at *
      go_wp2_with (fail)
      clear hmk2
      go_loopw [53, 12, 13] (fun v53 v12 v13 wq => ∃ (i : Nat) (lx : List Int) (n last : Int), v53 = .int .i64 i ∧ v12 = .int .i64 n ∧ v13 = .int .i64 last ∧ Aside0 (i ≤ od.length) ∧ Hid (namesL E s nx od (od.length - i) i lx n last = some (nm, n0)) ∧ Aside0 (Kd.R (Kd.int .i64) 3 wq wz.heap.size (fun _ => True) (.slice (some ⟨wz.heap.size, 0, none⟩) lx.length s.length) lx) ∧
          Hid (lx.length = s.length) ∧ Aside0 (Below wz.heap.size wz wq) ∧ Aside0 (-1 ≤ last ∧ last < 1000000))
        (fun v53 _ _ _ => od.length - (intOf v53).toNat)
      case atStart => exact ⟨0, List.replicate s.length 0, 0, -1, rfl, rfl, rfl, ⟨Nat.zero_le _⟩, H2, R02, Go.Lib.hid (List.length_replicate ..), B2, ⟨by omega⟩⟩
      case round =>
        obtain ⟨i, lx, n, last, rfl, rfl, rfl, hi, hF, hR, hl, hB, hla⟩ := hrel
        by_cases hlt : i < od.length
        · have hF2 := hF.out
          rw [show od.length - i = (od.length - (i + 1)) + 1 by omega, namesL] at hF2
          obtain ⟨x, hx⟩ : ∃ x, od.getD i 0 = x := ⟨_, rfl⟩
          rw [hx] at hF2
          have hlo := hl.out
          have hnl := HNL.out
          by_cases hc : 0 ≤ x ∧ x < nx.length
          case neg => rw [if_neg hc] at hF2; exact absurd hF2 (by simp)
          rw [if_pos hc] at hF2
          obtain ⟨ado, hAo, hco⟩ := Kd.at_int (Kd.C_below HO.out (BN.out.trans (hB.out.mono BN.out.size))) (i : Int) (by omega) (by omega)
          subst hAo
          rw [Int.toNat_natCast, show rd od (i : Int) = x by simp [rd]; rw [← hx, List.getD_eq_getElem?_getD]] at hco
          obtain ⟨m, rfl⟩ : ∃ m : Nat, x = (m : Int) := ⟨x.toNat, by omega⟩
          rw [Int.toNat_natCast] at hF2
          have hms : m < s.length := by omega
          have hRN := Kd.R_below RN.out hB.out
          obtain ⟨y, hy⟩ : ∃ y, nx.getD m 0 = y := ⟨_, rfl⟩
          obtain ⟨hcN, _⟩ := Kd.R_cell 0 hRN (m : Int) (by omega) (by omega)
          rw [Int.toNat_natCast, show rdOf 0 nx (m : Int) = y by rw [← hy]; simp [rdOf]] at hcN
          rw [hy] at hF2
          have hw : wrap64 ((i : Int) + 1) = (i : Int) + 1 := by unfold wrap64; omega
          by_cases hz : y = 0
          · rw [if_pos hz] at hF2
            have HF2 := Go.Lib.hid hF2
            have BB := Aside0.mk hB.out
            subst hz
            clear hF2 hRN hx hF hc
            go_wp2
            go_roundw
            case rel => exact ⟨i + 1, lx, n, last, by go_num, rfl, rfl, ⟨by omega⟩, HF2, hR, hl, BB, hla⟩
            case measure => simp [intOf]; omega
          · rw [if_neg hz] at hF2
            cases hD : differL E s nx last (m : Int) with
            | none => rw [hD] at hF2; simp at hF2
            | some b =>
            rw [hD, Option.bind_some] at hF2
            by_cases hN : 0 ≤ n ∧ n < 1000000000
            case neg => rw [if_neg hN] at hF2; exact absurd hF2 (by simp)
            rw [if_pos hN] at hF2
            have hR0 := hR.out
            have hB0 := hB.out
            have hlaq := hla.out
            have hwn : wrap64 (n + 1) = n + 1 := by unfold wrap64; omega
            unfold differL at hD
            rw [Int.toNat_natCast, hy] at hD
            by_cases d1 : 0 ≤ last
            · rw [if_pos d1] at hD
              have d1' := decide_eq_true d1
              by_cases d2 : y = s.length
              · rw [if_pos d2] at hD
                obtain rfl := Option.some.inj hD
                rw [if_pos rfl] at hF2
                clear hD
                obtain ⟨hcM, hfM⟩ := Kd.R_cell 0 hR0 (m : Int) (by omega) (by omega)
                rw [Int.toNat_natCast] at hcM hfM
                have r1 := Kd.R_putg hR0 (m : Int) (n + 1)
                rw [Int.toNat_natCast] at r1
                have R1 := Aside0.mk r1.1
                have BB := Aside0.mk (hB0.grown r1.2 hB0.size (fun k e => by cases e; exact Nat.le_refl _))
                have HL := Go.Lib.hid (show (lx.set m (n + 1)).length = s.length by rw [List.length_set]; exact hlo)
                have HF2 := Go.Lib.hid hF2
                clear r1 hF2 hF hx hc hy
                go_wp2
                go_roundw
                case rel => exact ⟨i + 1, lx.set m (n + 1), (n + 1), m, by go_num, by go_num, rfl, ⟨by omega⟩, HF2, ⟨by rw [List.length_set]; exact R1.out⟩, HL, BB, ⟨by omega⟩⟩
                case measure => simp [intOf]; omega
              · rw [if_neg d2] at hD
                by_cases d3 : last < nx.length
                case neg => rw [if_neg d3] at hD; exact absurd hD (by simp)
                rw [if_pos d3] at hD
                obtain ⟨q, rfl⟩ : ∃ q : Nat, last = (q : Int) := ⟨last.toNat, by omega⟩
                rw [Int.toNat_natCast] at hD
                obtain ⟨z, hz2⟩ : ∃ z, nx.getD q 0 = z := ⟨_, rfl⟩
                obtain ⟨hcL, _⟩ := Kd.R_cell 0 hRN (q : Int) (by omega) (by omega)
                rw [Int.toNat_natCast, show rdOf 0 nx (q : Int) = z by rw [← hz2]; simp [rdOf]] at hcL
                rw [hz2] at hD
                have hqs : q < s.length := by omega
                by_cases d4 : z = s.length
                · rw [if_pos d4] at hD
                  obtain rfl := Option.some.inj hD
                  rw [if_pos rfl] at hF2
                  clear hD
                  obtain ⟨hcM, hfM⟩ := Kd.R_cell 0 hR0 (m : Int) (by omega) (by omega)
                  rw [Int.toNat_natCast] at hcM hfM
                  have r1 := Kd.R_putg hR0 (m : Int) (n + 1)
                  rw [Int.toNat_natCast] at r1
                  have R1 := Aside0.mk r1.1
                  have BB := Aside0.mk (hB0.grown r1.2 hB0.size (fun k e => by cases e; exact Nat.le_refl _))
                  have HL := Go.Lib.hid (show (lx.set m (n + 1)).length = s.length by rw [List.length_set]; exact hlo)
                  have HF2 := Go.Lib.hid hF2
                  clear r1 hF2 hF hx hc hy
                  go_wp2
                  go_roundw
                  case rel => exact ⟨i + 1, lx.set m (n + 1), (n + 1), m, by go_num, by go_num, rfl, ⟨by omega⟩, HF2, ⟨by rw [List.length_set]; exact R1.out⟩, HL, BB, ⟨by omega⟩⟩
                  case measure => simp [intOf]; omega
                · rw [if_neg d4] at hD
                  cases hp : pieceL s nx (q : Int) with
                  | none => rw [hp] at hD; simp at hD
                  | some p =>
                  rw [hp, Option.bind_some] at hD
                  cases hp2 : pieceL s nx (m : Int) with
                  | none => rw [hp2] at hD; simp at hD
                  | some p2 =>
                  rw [hp2, Option.bind_some] at hD
                  cases he : E p p2 with
                  | none => rw [he] at hD; simp at hD
                  | some eq =>
                  rw [he, Option.bind_some] at hD
                  obtain rfl := Option.some.inj hD
                  have cP := piece_calls (cs := cs) (cn := s.length) (Kd.C_below HS.out (BN.out.trans (hB0.mono BN.out.size))) (Kd.F_now (Kd.R_F hRN)) HSC.out hsl hp
                  rw [hnl] at cP
                  have HP2 := Go.Lib.hid hp2
                  have HE2 := Go.Lib.hid he
                  have HF2 := Go.Lib.hid hF2
                  have HY := Go.Lib.hid hy
                  have HZ := Go.Lib.hid hz2
                  clear hD hp hp2 he hF2 hy hz2 hx hF
                  go_wp2_with (fail)
                  (with_reducible refine cP.mono ?_)
                  clear cP
                  rintro e w5 ⟨A5, c5, rfl, hc5, C5, ⟨m5, rfl⟩⟩
                  have hB5 : Below wz.heap.size wz (wr.drewN m5) := pw_below_drewN hB0 m5
                  have hR5 := Kd.R_drewN hR0 m5
                  generalize wr.drewN m5 = w5 at *
                  have hRN5 := Kd.R_below RN.out hB5
                  have cP := piece_calls (cs := cs) (cn := s.length) (Kd.C_below HS.out (BN.out.trans (hB5.mono BN.out.size))) (Kd.F_now (Kd.R_F hRN5)) HSC.out hsl HP2.out
                  rw [hnl] at cP
                  have CC5 := Aside0.mk C5
                  have HC5 := Go.Lib.hid hc5
                  clear C5 hc5 hRN5
                  go_wp2_with (fail)
                  (with_reducible refine cP.mono ?_)
                  clear cP
                  rintro e w6 ⟨A6, c6, rfl, hc6, C6, ⟨m6, rfl⟩⟩
                  have C56 := Kd.C_drewN CC5.out m6
                  have hB6 : Below wz.heap.size wz (w5.drewN m6) := pw_below_drewN hB5 m6
                  have hR6 := Kd.R_drewN hR5 m6
                  generalize w5.drewN m6 = w6 at *
                  have cE := HE.out w6 A5 A6 c5 c6 p p2 eq HC5.out hc6 C56 C6 HE2.out
                  clear C56 C6 hc6
                  go_wp2_with (fail)
                  (with_reducible refine cE.mono ?_)
                  clear cE
                  rintro e w7 ⟨rfl, ⟨m7, rfl⟩⟩
                  have hB7 : Below wz.heap.size wz (w6.drewN m7) := pw_below_drewN hB6 m7
                  have hR7 := Kd.R_drewN hR6 m7
                  generalize w6.drewN m7 = w7 at *
                  have hF3 := HF2.out
                  clear HF2
                  have e1 : (y == (s.length : Int)) = false := by simp [d2]
                  have e2 : (z == (s.length : Int)) = false := by simp [d4]
                  cases eq with
                  | true =>
                    rw [if_neg (by simp)] at hF3
                    have HF2 := Go.Lib.hid hF3
                    clear hF3
                    obtain ⟨hcM, hfM⟩ := Kd.R_cell 0 hR7 (m : Int) (by omega) (by omega)
                    rw [Int.toNat_natCast] at hcM hfM
                    have r1 := Kd.R_putg hR7 (m : Int) n
                    rw [Int.toNat_natCast] at r1
                    have R1 := Aside0.mk r1.1
                    have BB := Aside0.mk (hB7.grown r1.2 hB7.size (fun k e => by cases e; exact Nat.le_refl _))
                    have HL := Go.Lib.hid (show (lx.set m n).length = s.length by rw [List.length_set]; exact hlo)
                    clear r1 hc
                    go_wp2
                    go_roundw
                    case rel => exact ⟨i + 1, lx.set m n, n, m, by go_num, by go_num, rfl, ⟨by omega⟩, HF2, ⟨by rw [List.length_set]; exact R1.out⟩, HL, BB, ⟨by omega⟩⟩
                    case measure => simp [intOf]; omega
                  | false =>
                    rw [if_pos (by simp)] at hF3
                    have HF2 := Go.Lib.hid hF3
                    clear hF3
                    obtain ⟨hcM, hfM⟩ := Kd.R_cell 0 hR7 (m : Int) (by omega) (by omega)
                    rw [Int.toNat_natCast] at hcM hfM
                    have r1 := Kd.R_putg hR7 (m : Int) (n + 1)
                    rw [Int.toNat_natCast] at r1
                    have R1 := Aside0.mk r1.1
                    have BB := Aside0.mk (hB7.grown r1.2 hB7.size (fun k e => by cases e; exact Nat.le_refl _))
                    have HL := Go.Lib.hid (show (lx.set m (n + 1)).length = s.length by rw [List.length_set]; exact hlo)
                    clear r1 hc
                    go_wp2
                    go_roundw
                    case rel => exact ⟨i + 1, lx.set m (n + 1), (n + 1), m, by go_num, by go_num, rfl, ⟨by omega⟩, HF2, ⟨by rw [List.length_set]; exact R1.out⟩, HL, BB, ⟨by omega⟩⟩
                    case measure => simp [intOf]; omega
            · rw [if_neg d1] at hD
              obtain rfl := Option.some.inj hD
              rw [if_neg (by simp)] at hF2
              have d1' : last < 0 := by omega
              clear hD
              obtain ⟨hcM, hfM⟩ := Kd.R_cell 0 hR0 (m : Int) (by omega) (by omega)
              rw [Int.toNat_natCast] at hcM hfM
              have r1 := Kd.R_putg hR0 (m : Int) n
              rw [Int.toNat_natCast] at r1
              have R1 := Aside0.mk r1.1
              have BB := Aside0.mk (hB0.grown r1.2 hB0.size (fun k e => by cases e; exact Nat.le_refl _))
              have HL := Go.Lib.hid (show (lx.set m n).length = s.length by rw [List.length_set]; exact hlo)
              have HF2 := Go.Lib.hid hF2
              clear r1 hF2 hF hx hc hy
              go_wp2
              go_roundw
              case rel => exact ⟨i + 1, lx.set m n, n, m, by go_num, by go_num, rfl, ⟨by omega⟩, HF2, ⟨by rw [List.length_set]; exact R1.out⟩, HL, BB, ⟨by omega⟩⟩
              case measure => simp [intOf]; omega
        · have hie : i = od.length := by have := hi.out; omega
          have hF2 := hF.out
          rw [hie, Nat.sub_self] at hF2
          have hF3 : some (lx, n) = some (nm, n0) := hF2
          cases hF3
          have hge2 : od.length ≤ i := by omega
          have RM := Aside0.mk hR.out
          have BM := Aside0.mk (BN.out.trans (hB.out.mono BN.out.size))
          have HLM := Go.Lib.hid hl.out
          clear hF hF2 hie hR hB hl hla
          generalize wr = wt at *
          go_wp2_with (fail)
          go_loopw [104, 16] (fun v104 v16 wq => ∃ (i : Nat) (o : List Int), v104 = .int .i64 i ∧ Aside0 (i ≤ fi.length) ∧ Hid (outL nm fi (fi.length - i) i o = some out) ∧ Aside0 (Kd.R (Kd.int .i64) 3 wq wt.heap.size (fun _ => True) v16 o) ∧
              Hid (o.length = i) ∧ Aside0 (Below wt.heap.size wt wq))
            (fun v104 _ _ => fi.length - (intOf v104).toNat)
          case atStart => exact ⟨0, [], rfl, ⟨Nat.zero_le _⟩, H3, ⟨Kd.R_nil _ _ _ _ _⟩, Go.Lib.hid rfl, ⟨Below.refl _ _⟩⟩
          case round =>
            obtain ⟨i, o, rfl, hi, hF, hR, hl, hB⟩ := hrel
            by_cases hlt : i < fi.length
            · have hF2 := hF.out
              rw [show fi.length - i = (fi.length - (i + 1)) + 1 by omega, outL] at hF2
              obtain ⟨x, hx⟩ : ∃ x, fi.getD i 0 = x := ⟨_, rfl⟩
              rw [hx] at hF2
              have hlm := HLM.out
              by_cases hc : 0 ≤ x ∧ x < nm.length
              case neg => rw [if_neg hc] at hF2; exact absurd hF2 (by simp)
              rw [if_pos hc] at hF2
              have hB4 := hB.out
              obtain ⟨adf, hAf, hcf⟩ := Kd.at_int (Kd.C_below HF.out (BM.out.trans (hB4.mono BM.out.size))) (i : Int) (by omega) (by omega)
              subst hAf
              rw [Int.toNat_natCast, show rd fi (i : Int) = x by simp [rd]; rw [← hx, List.getD_eq_getElem?_getD]] at hcf
              obtain ⟨m, rfl⟩ : ∃ m : Nat, x = (m : Int) := ⟨x.toNat, by omega⟩
              rw [Int.toNat_natCast] at hF2
              have hms : m < s.length := by omega
              have hRM := Kd.R_below RM.out hB4
              obtain ⟨y, hy⟩ : ∃ y, nm.getD m 0 = y := ⟨_, rfl⟩
              obtain ⟨hcN, _⟩ := Kd.R_cell 0 hRM (m : Int) (by omega) (by omega)
              rw [Int.toNat_natCast, show rdOf 0 nm (m : Int) = y by rw [← hy]; simp [rdOf]] at hcN
              rw [hy] at hF2
              have HF2 := Go.Lib.hid hF2
              clear hF2 hF hx hy hRM hc
              go_wp2_with ((with_reducible refine gate_builtin (b := .append) (xs := #[.tmp 108, .tmp 113]) rfl ?_); at_builtin; refine Kd.R_append (Kd.int .i64) (w0 := wt) wt.heap.size rfl (.tmp 108) (.tmp 113) 29 3 (.int .i64 0) 8 rfl Tryz.underlying29 Re.info3 rfl (by decide) (by omega) _ o y [.int .i64 y] (fun _ => True) (fun _ => False) rfl rfl ?aP (fun _ hk => hk.elim) ?aF ?aO ?aB ?aS ?aL ?_; (case aP => exact rfl); (case aB => exact hB.out); (case aF => exact (fun _ _ => trivial)); (case aO => exact hR.out); (case aS => exact hB.out.size); (case aL => have := hl.out; omega); intro v124 w18 ho hb hg hat; have RO := Aside0.mk ho; have BO := Aside0.mk hb; clear ho hb hg hat)
              go_roundw
              case rel => exact ⟨i + 1, o ++ [y], by go_num, ⟨by omega⟩, HF2, RO, Go.Lib.hid (by rw [List.length_append, hl.out]; rfl), BO⟩
              case measure => simp [intOf]; omega
            · have hie : i = fi.length := by have := hi.out; omega
              have hF2 := hF.out
              rw [hie, Nat.sub_self] at hF2
              obtain rfl : out = o := by simpa [outL] using hF2.symm
              have hge3 : fi.length ≤ i := by omega
              have R3 := Aside0.mk hR.out
              have B3 := Aside0.mk hB.out
              clear hF hF2 hie
              go_wp2
              refine bodyPost_ret (results_tmp2 rfl _ _ _) rfl ?_
              have r := R3.out
              have bm := BM.out
              have bb := B3.out
              exact ⟨_, rfl, Kd.R_lower r bm.size, bm.trans (bb.mono bm.size)⟩
end Go.Proofs.YtbbpplnnegdenaaGreat.Nm
end
section
set_option linter.unusedVariables false
namespace Go.Proofs.YtbbpplnnegdenaaGreat.Cr
open Go Go.RowKit Go.Shelf Go.Proofs Go.Proofs.YtbbpplnnegdenaaGreatW.PrintWords Go.Proofs.YtbbpplnnegdenaaGreat.So Go.Proofs.YtbbpplnnegdenaaGreat.St
set_option maxHeartbeats 2000000 in
set_option maxRecDepth 100000 in
theorem new_calls (w : World) : Calls Tryz.prog 30 #[] w fun e w' => ∃ g, e = .returned (.pointer (some ⟨g, 0, none⟩)) ∧ w.heap.size ≤ g ∧ w'.heap[g]? = some (.cells #[.int .i64 0, .int .i64 0, .int .i64 0] 107 (0, 0)) ∧ Below w.heap.size w w' := by
  go_enter Tryz.func30, Tryz.ntmps30
  go_wp2
  go_ret
  exact ⟨w.heap.size, rfl, Nat.le_refl _, World.alloc_heap_new w _, (Below.refl _ w).alloc (Nat.le_refl _) _⟩
theorem set_grown (W : World) (g i : Nat) (v : Value) : W.grownBy (W.setCell ⟨g, i, none⟩ v) (some g) :=
  ⟨rfl, rfl, rfl, by simp [World.setCell], fun k _ hk => Below.heap_setCell _ _ _ _ (fun e => hk (by simp [e]))⟩
theorem set_same {W : World} {g i : Nat} {cs : Array Value} {T : TypeId} (h : W.heap[g]? = some (.cells cs T (0, 0))) (v : Value) : (W.setCell ⟨g, i, none⟩ v).heap[g]? = some (.cells (cs.setIfInBounds i v) T (0, 0)) := by
  simp [World.setCell, Array.getElem?_modify, h]
theorem add_run (w : World) (a : Addr) (x d : Int) (h : w.cell? a = some (.int .i64 x)) (hf : w.frozen? a = false) :
    (callFunc 96 #[.pointer (some a), .int .i64 d]).run Tryz.prog w = .ok (.value (.int .i64 (wrap64 (x + d)))) (w.setCell a (.int .i64 (wrap64 (x + d)))) := by
  rw [run_callFunc_extern (e := Go.Extern.Atomic.update (Op.intArith .add) .i64 true) Tryz.func96 (by kernel_rfl) (by kernel_rfl) (by rfl) (by rfl)]
  have e : Go.Extern.Atomic.update (Op.intArith .add) .i64 true #[.pointer (some a), .int .i64 d] = (do
      let a ← asAddr (.pointer (some a))
      let old ← Go.Extern.Atomic.read (.int .i64) a
      let new ← Op.intArith .add .i64 (← asInt old) (← asInt (.int .i64 d))
      store a new .atomic
      pure new) := rfl
  rw [e]
  have e2 : ∀ a, Go.Extern.Atomic.read (.int .i64) a = (do
      let v ← load a .atomic
      match Go.Extern.Atomic.T.int .i64, v with
      | .int k, .int k' _ => if k = k' then pure v else unsupported (.unsafePointer "atomic: a cell of another type")
      | .int .u64, .pointer (some _) => pure v
      | .ptr, .pointer _ => pure v
      | _, _ => unsupported (.unsafePointer "atomic: a cell of another type")) := fun a => rfl
  simp [e2, go_sem, h, hf]
  have hw : IntKind.i64.wrap (x + d) = wrap64 (x + d) := by
    unfold wrap64 IntKind.wrap
    simp only [show IntKind.i64.signed = true from rfl, show IntKind.i64.bits = 64 from rfl, Bool.true_and, decide_eq_true_eq, show (2 : Int) ^ 64 = 18446744073709551616 from rfl, show (2 : Int) ^ (64 - 1) = 9223372036854775808 from rfl]
    split <;> omega
  rw [hw]
  exact ⟨rfl, rfl⟩
set_option maxHeartbeats 2000000 in
set_option maxRecDepth 100000 in
theorem add_calls (w : World) (g i : Nat) (x d : Int) (h : w.cell? ⟨g, i, none⟩ = some (.int .i64 x)) (hf : w.frozen? ⟨g, i, none⟩ = false) :
    Calls Tryz.prog 79 #[.pointer (some ⟨g, i, none⟩), .int .i64 d] w fun e w' => e = .returned (.int .i64 (wrap64 (x + d))) ∧ w' = w.setCell ⟨g, i, none⟩ (.int .i64 (wrap64 (x + d))) := by
  have ha := add_run w ⟨g, i, none⟩ x d h hf
  go_enter Tryz.func79, Tryz.ntmps79
  go_wp2_with (fail)
  go_ret
  exact ⟨rfl, rfl⟩
set_option maxHeartbeats 4000000 in
set_option maxRecDepth 100000 in
theorem sort0_calls (w : World) (g : Nat) (x0 x1 x2 : Int) (A : Option Addr) (n c : Nat) (r : List Int) (hg : w.heap[g]? = some (.cells #[.int .i64 x0, .int .i64 x1, .int .i64 x2] 107 (0, 0)))
    (hS : Calls Tryz.prog 38 #[.slice A n c] w fun e w' => ∃ v, e = .returned (.tuple #[v, .int .i64 0]) ∧ Kd.R (Kd.int .i64) 3 w' w.heap.size (fun _ => True) v r ∧ Below w.heap.size w w') :
    Calls Tryz.prog 60 #[.pointer (some ⟨g, 0, none⟩), .int .i64 0, .slice A n c] w fun e w' => ∃ v, e = .returned (.tuple #[v, .int .i64 0]) ∧ Kd.R (Kd.int .i64) 3 w' w.heap.size (fun _ => True) v r ∧ w.grownBy w' (some g) ∧
      ∃ y0 y1 y2, w'.heap[g]? = some (.cells #[.int .i64 y0, .int .i64 y1, .int .i64 y2] 107 (0, 0)) := by
  have hgl : g < w.heap.size := blk_lt hg
  have HG := Go.Lib.hid hg
  clear hg
  go_enter Tryz.func60, Tryz.ntmps60
  have hix : (Instr.index 127 (.agg #[.func (.func 38) #[] #[], .func (.func 77) #[] #[], .func (.func 78) #[] #[]]) (.int .i64 0)).run Tryz.prog w = .ok (.func (.func 38) #[] #[]) w := rfl
  go_wp2_with (fail)
  (with_reducible refine hS.mono ?_)
  clear hS
  rintro e w1 ⟨v1, rfl, r1, b1⟩
  obtain ⟨A1, c1, rfl⟩ := Kd.R_slice r1
  have hg1 := (b1.block g hgl).trans HG.out
  have cA := add_calls w1 g 0 x0 1 (blk_cell hg1 0) (blk_frozen hg1 0)
  have R1 := Aside0.mk r1
  have B1 := Aside0.mk b1
  have HG1 := Go.Lib.hid hg1
  clear r1 b1 hg1
  go_wp2_with (fail)
  (with_reducible refine cA.mono ?_)
  clear cA
  rintro e w2 ⟨rfl, hw2⟩
  have hg2 : w2.heap[g]? = some (.cells (#[.int .i64 x0, .int .i64 x1, .int .i64 x2].setIfInBounds 0 (.int .i64 (wrap64 (x0 + 1)))) 107 (0, 0)) := by rw [hw2]; exact set_same HG1.out _
  have HG2 := Go.Lib.hid hg2
  have GR : Aside0 (w.grownBy w2 (some g)) := ⟨by rw [hw2]; exact grown_trans (grown_below B1.out (some g)) (set_grown w1 g 0 _) (fun b e => .inr (by rw [e]))⟩
  have RR : Aside0 (Kd.R (Kd.int .i64) 3 w2 w.heap.size (fun _ => True) (.slice A1 r.length c1) r) := ⟨by rw [hw2]; exact Kd.R_step (Kd.R_bound R1.out) (fun k hk _ => Below.heap_setCell w1 ⟨g, 0, none⟩ _ k (by have := hk.2.1; show k ≠ g; omega)) |> fun h => Kd.R_mono h (fun _ _ => trivial)⟩
  clear hw2 hg2
  go_wp2_with (fail)
  go_ret2
  exact ⟨_, rfl, RR.out, GR.out, _, _, _, HG2.out⟩
set_option maxHeartbeats 4000000 in
set_option maxRecDepth 100000 in
theorem sort1_calls (w : World) (g : Nat) (x0 x1 x2 : Int) (A : Option Addr) (n c : Nat) (r : List Int) (hg : w.heap[g]? = some (.cells #[.int .i64 x0, .int .i64 x1, .int .i64 x2] 107 (0, 0)))
    (hS : Calls Tryz.prog 77 #[.slice A n c] w fun e w' => ∃ v, e = .returned (.tuple #[v, .int .i64 0]) ∧ Kd.R (Kd.int .i64) 3 w' w.heap.size (fun _ => True) v r ∧ Below w.heap.size w w') :
    Calls Tryz.prog 60 #[.pointer (some ⟨g, 0, none⟩), .int .i64 1, .slice A n c] w fun e w' => ∃ v, e = .returned (.tuple #[v, .int .i64 0]) ∧ Kd.R (Kd.int .i64) 3 w' w.heap.size (fun _ => True) v r ∧ w.grownBy w' (some g) ∧
      ∃ y0 y1 y2, w'.heap[g]? = some (.cells #[.int .i64 y0, .int .i64 y1, .int .i64 y2] 107 (0, 0)) := by
  have hgl : g < w.heap.size := blk_lt hg
  have HG := Go.Lib.hid hg
  clear hg
  go_enter Tryz.func60, Tryz.ntmps60
  have hix : (Instr.index 127 (.agg #[.func (.func 38) #[] #[], .func (.func 77) #[] #[], .func (.func 78) #[] #[]]) (.int .i64 1)).run Tryz.prog w = .ok (.func (.func 77) #[] #[]) w := rfl
  go_wp2_with (fail)
  (with_reducible refine hS.mono ?_)
  clear hS
  rintro e w1 ⟨v1, rfl, r1, b1⟩
  obtain ⟨A1, c1, rfl⟩ := Kd.R_slice r1
  have hg1 := (b1.block g hgl).trans HG.out
  have cA := add_calls w1 g 1 x1 1 (blk_cell hg1 1) (blk_frozen hg1 1)
  have R1 := Aside0.mk r1
  have B1 := Aside0.mk b1
  have HG1 := Go.Lib.hid hg1
  clear r1 b1 hg1
  go_wp2_with (fail)
  (with_reducible refine cA.mono ?_)
  clear cA
  rintro e w2 ⟨rfl, hw2⟩
  have hg2 : w2.heap[g]? = some (.cells (#[.int .i64 x0, .int .i64 x1, .int .i64 x2].setIfInBounds 1 (.int .i64 (wrap64 (x1 + 1)))) 107 (0, 0)) := by rw [hw2]; exact set_same HG1.out _
  have HG2 := Go.Lib.hid hg2
  have GR : Aside0 (w.grownBy w2 (some g)) := ⟨by rw [hw2]; exact grown_trans (grown_below B1.out (some g)) (set_grown w1 g 1 _) (fun b e => .inr (by rw [e]))⟩
  have RR : Aside0 (Kd.R (Kd.int .i64) 3 w2 w.heap.size (fun _ => True) (.slice A1 r.length c1) r) := ⟨by rw [hw2]; exact Kd.R_step (Kd.R_bound R1.out) (fun k hk _ => Below.heap_setCell w1 ⟨g, 1, none⟩ _ k (by have := hk.2.1; show k ≠ g; omega)) |> fun h => Kd.R_mono h (fun _ _ => trivial)⟩
  clear hw2 hg2
  go_wp2_with (fail)
  go_ret2
  exact ⟨_, rfl, RR.out, GR.out, _, _, _, HG2.out⟩
set_option maxHeartbeats 4000000 in
set_option maxRecDepth 100000 in
theorem sort2_calls (w : World) (g : Nat) (x0 x1 x2 : Int) (A : Option Addr) (n c : Nat) (r : List Int) (hg : w.heap[g]? = some (.cells #[.int .i64 x0, .int .i64 x1, .int .i64 x2] 107 (0, 0)))
    (hS : Calls Tryz.prog 78 #[.slice A n c] w fun e w' => ∃ v, e = .returned (.tuple #[v, .int .i64 0]) ∧ Kd.R (Kd.int .i64) 3 w' w.heap.size (fun _ => True) v r ∧ Below w.heap.size w w') :
    Calls Tryz.prog 60 #[.pointer (some ⟨g, 0, none⟩), .int .i64 2, .slice A n c] w fun e w' => ∃ v, e = .returned (.tuple #[v, .int .i64 0]) ∧ Kd.R (Kd.int .i64) 3 w' w.heap.size (fun _ => True) v r ∧ w.grownBy w' (some g) ∧
      ∃ y0 y1 y2, w'.heap[g]? = some (.cells #[.int .i64 y0, .int .i64 y1, .int .i64 y2] 107 (0, 0)) := by
  have hgl : g < w.heap.size := blk_lt hg
  have HG := Go.Lib.hid hg
  clear hg
  go_enter Tryz.func60, Tryz.ntmps60
  have hix : (Instr.index 127 (.agg #[.func (.func 38) #[] #[], .func (.func 77) #[] #[], .func (.func 78) #[] #[]]) (.int .i64 2)).run Tryz.prog w = .ok (.func (.func 78) #[] #[]) w := rfl
  go_wp2_with (fail)
  (with_reducible refine hS.mono ?_)
  clear hS
  rintro e w1 ⟨v1, rfl, r1, b1⟩
  obtain ⟨A1, c1, rfl⟩ := Kd.R_slice r1
  have hg1 := (b1.block g hgl).trans HG.out
  have cA := add_calls w1 g 2 x2 1 (blk_cell hg1 2) (blk_frozen hg1 2)
  have R1 := Aside0.mk r1
  have B1 := Aside0.mk b1
  have HG1 := Go.Lib.hid hg1
  clear r1 b1 hg1
  go_wp2_with (fail)
  (with_reducible refine cA.mono ?_)
  clear cA
  rintro e w2 ⟨rfl, hw2⟩
  have hg2 : w2.heap[g]? = some (.cells (#[.int .i64 x0, .int .i64 x1, .int .i64 x2].setIfInBounds 2 (.int .i64 (wrap64 (x2 + 1)))) 107 (0, 0)) := by rw [hw2]; exact set_same HG1.out _
  have HG2 := Go.Lib.hid hg2
  have GR : Aside0 (w.grownBy w2 (some g)) := ⟨by rw [hw2]; exact grown_trans (grown_below B1.out (some g)) (set_grown w1 g 2 _) (fun b e => .inr (by rw [e]))⟩
  have RR : Aside0 (Kd.R (Kd.int .i64) 3 w2 w.heap.size (fun _ => True) (.slice A1 r.length c1) r) := ⟨by rw [hw2]; exact Kd.R_step (Kd.R_bound R1.out) (fun k hk _ => Below.heap_setCell w1 ⟨g, 2, none⟩ _ k (by have := hk.2.1; show k ≠ g; omega)) |> fun h => Kd.R_mono h (fun _ _ => trivial)⟩
  clear hw2 hg2
  go_wp2_with (fail)
  go_ret2
  exact ⟨_, rfl, RR.out, GR.out, _, _, _, HG2.out⟩
end Go.Proofs.YtbbpplnnegdenaaGreat.Cr
end
section
set_option linter.unusedVariables false
namespace Go.Proofs.YtbbpplnnegdenaaGreat.Rn
open Go Go.RowKit Go.Shelf Go.Proofs Go.Proofs.YtbbpplnnegdenaaGreatW.PrintWords Go.Proofs.YtbbpplnnegdenaaGreat.So Go.Proofs.YtbbpplnnegdenaaGreat.St Go.Proofs.YtbbpplnnegdenaaGreat.Cr
abbrev SortsTo (F : Nat) (s r : List Int) : Prop := ∀ W A c, s.length ≤ c → Kd.C (Kd.int .u8) W A s.length s → Calls Tryz.prog F #[.slice A s.length c] W fun e W' => ∃ v, e = .returned (.tuple #[v, .int .i64 0]) ∧ Kd.R (Kd.int .i64) 3 W' W.heap.size (fun _ => True) v r ∧ Below W.heap.size W W'
abbrev LcpTo (F : Nat) (s r x : List Int) : Prop := ∀ W A c B d, s.length ≤ c → r.length ≤ d → Kd.C (Kd.int .u8) W A s.length s → Kd.C (Kd.int .i64) W B r.length r → Calls Tryz.prog F #[.slice A s.length c, .slice B r.length d] W fun e W' => ∃ v b, e = .returned (.tuple #[v, .bool b]) ∧ Kd.R (Kd.int .i64) 3 W' W.heap.size (fun _ => True) v x ∧ Below W.heap.size W W'
abbrev SameTo (r : List Int) : Prop := ∀ W A c B d, r.length ≤ c → r.length ≤ d → Kd.C (Kd.int .i64) W A r.length r → Kd.C (Kd.int .i64) W B r.length r → Calls Tryz.prog 63 #[.slice A r.length c, .slice B r.length d] W fun e W' => e = .returned (.bool true) ∧ Drawn0 W W'
theorem load38 (W : World) (b : Nat) (x y z : Value) (h0 : W.cell? ⟨b, 0, none⟩ = some x) (h1 : W.cell? ⟨b, 1, none⟩ = some y) (h2 : W.cell? ⟨b, 2, none⟩ = some z) : (loadVar 62 ⟨b, 0, none⟩).run Tryz.prog W = .ok (.agg #[x, y, z]) W := by
  go_simp
theorem results_cell {P : Program} {fn : Func} {a u : Tmp} {T : TypeId} {w : World} {v : Value} {ad : Addr} (h : fn.results = #[.cell a T, .tmp u]) (tmps : Array Value) (ha : tmps.getD a undef = .pointer (some ad)) (hl : (loadVar T ad).run P w = .ok v w) :
    (results fn tmps).run P w = .ok (.tuple #[v, tmps.getD u undef]) w := by
  have ha' : tmps[a]?.getD undef = .pointer (some ad) := by simpa using ha
  simp [results, h, ha', hl, asAddr]
structure RI (w : World) (g i : Nat) (r : List Int) (W : World) : Prop where
  gr : w.grownBy W (some g)
  sz : w.heap.size + 2 ≤ W.heap.size
  cg : ∃ y0 y1 y2, W.heap[g]? = some (.cells #[.int .i64 y0, .int .i64 y1, .int .i64 y2] 107 (0, 0))
  res : W.heap[w.heap.size]? = some (.cells #[.slice none 0 0, .slice none 0 0, .bool false] 62 (0, 0))
  l : ∃ v0 v1 v2, W.heap[w.heap.size + 1]? = some (.cells #[v0, v1, v2] 108 (0, 0)) ∧ (0 < i → Kd.R (Kd.int .i64) 3 W (w.heap.size + 2) (fun k => w.heap.size + 2 ≤ k) v0 r) ∧ (1 < i → Kd.R (Kd.int .i64) 3 W (w.heap.size + 2) (fun k => w.heap.size + 2 ≤ k) v1 r) ∧ (2 < i → Kd.R (Kd.int .i64) 3 W (w.heap.size + 2) (fun k => w.heap.size + 2 ≤ k) v2 r)
set_option maxHeartbeats 4000000 in
set_option maxRecDepth 100000 in
theorem run_calls (w : World) (g : Nat) (x0 x1 x2 : Int) (A : Option Addr) (c : Nat) (s r x : List Int) (hg : w.heap[g]? = some (.cells #[.int .i64 x0, .int .i64 x1, .int .i64 x2] 107 (0, 0)))
    (hs : Kd.C (Kd.int .u8) w A s.length s) (hsc : s.length ≤ c) (hAg : ∀ ad, A = some ad → ad.block ≠ g)
    (h4 : SortsTo 38 s r) (h5 : SortsTo 77 s r) (h6 : SortsTo 78 s r) (h23 : LcpTo 61 s r x) (h24 : LcpTo 62 s r x) (hr : SameTo r) (hx : SameTo x)
    (h26 : ∀ W A c B d C e, s.length ≤ c → r.length ≤ d → x.length ≤ e → Kd.C (Kd.int .u8) W A s.length s → Kd.C (Kd.int .i64) W B r.length r → Kd.C (Kd.int .i64) W C x.length x → Calls Tryz.prog 64 #[.slice A s.length c, .slice B r.length d, .slice C x.length e] W fun e W' => e = .returned (.bool true) ∧ Below W.heap.size W W') :
    Calls Tryz.prog 31 #[.pointer (some ⟨g, 0, none⟩), .slice A s.length c] w fun e w' => ∃ v Au nu cu, e = .returned (.tuple #[.agg #[v, .slice Au nu cu, .bool true], .int .i64 0]) ∧ Kd.R (Kd.int .i64) 3 w' w.heap.size (fun _ => True) v r ∧ w.grownBy w' (some g) := by
  go_enter Tryz.func31, Tryz.ntmps31
  go_wp2_with (fail)
  have hgl : g < w.heap.size := blk_lt hg
  obtain ⟨W0, hW0⟩ : ∃ W0, (w.alloc (.cells #[.slice none 0 0, .slice none 0 0, .bool false] 62)).alloc (.cells #[.slice none 0 0, .slice none 0 0, .slice none 0 0] 108) = W0 := ⟨_, rfl⟩
  have I0 : RI w g 0 r W0 := by
    have hb : Below w.heap.size w W0 := by rw [← hW0]; exact (((Below.refl _ w).alloc (Nat.le_refl _) _).alloc (by simp) _)
    refine ⟨grown_below hb _, by rw [← hW0]; simp, ⟨_, _, _, (hb.block g hgl).trans hg⟩, ?_, ⟨.slice none 0 0, .slice none 0 0, .slice none 0 0, ?_, by omega, by omega, by omega⟩⟩
    · rw [← hW0]; exact (Below.heap_alloc _ _ _ (by simp)).trans (World.alloc_heap_new w _)
    · rw [← hW0]; have := World.alloc_heap_new (w.alloc (.cells #[.slice none 0 0, .slice none 0 0, .bool false] 62)) (.cells #[.slice none 0 0, .slice none 0 0, .slice none 0 0] 108); rwa [World.size_alloc] at this
  rw [hW0]
  have HS := Aside0.mk hs
  have II := Aside0.mk I0
  clear hg hs I0 hW0
  go_loopw [15] (fun v15 wr => ∃ i : Nat, v15 = .int .i64 i ∧ Aside0 (i ≤ 3) ∧ Aside0 (RI w g i r wr)) (fun v15 _ => 3 - (intOf v15).toNat)
  case atStart => exact ⟨0, rfl, ⟨by omega⟩, II⟩
  case round =>
    obtain ⟨i, rfl, hi, hI⟩ := hrel
    obtain ⟨gr, sz, ⟨y0, y1, y2, cg⟩, res, ⟨v0, v1, v2, hl, q0, q1, q2⟩⟩ := hI.out
    have hsW : Kd.C (Kd.int .u8) wr A s.length s := Kd.C_foot_ne (g := g) (fun h => h) HS.out (fun ad e _ => hAg ad e) wr ⟨gr.size, fun k hk hne _ => gr.block k hk (fun e => hne (by cases e; rfl))⟩
    have hi3 : i = 0 ∨ i = 1 ∨ i = 2 ∨ i = 3 := by have := hi.out; omega
    rcases hi3 with rfl | rfl | rfl | rfl
    · have cS := sort0_calls wr g y0 y1 y2 A s.length c r cg (h4 wr A c hsc hsW)
      have HG := Go.Lib.hid hl
      have HI := Aside0.mk (show w.grownBy wr (some g) from gr)
      have HRES := Go.Lib.hid res
      have HQ0 := Aside0.mk q0
      have HQ1 := Aside0.mk q1
      have HQ2 := Aside0.mk q2
      clear gr cg res hl q0 q1 q2 hsW hI II
      go_wp2_with (fail)
      (with_reducible refine cS.mono ?_)
      clear cS
      rintro e w2 ⟨v, rfl, rv, gv, ⟨z0, z1, z2, hc⟩⟩
      obtain ⟨Av, cv, rfl⟩ := Kd.R_slice rv
      have hl2 := (gv.block (w.heap.size + 1) (by omega) (fun e => by cases e; omega)).trans HG.out
      have hr2 := (gv.block w.heap.size (by omega) (fun e => by cases e; omega)).trans HRES.out
      have hlc := blk_cell hl2 0
      have hlf := blk_frozen hl2 0
      have nI : Aside0 (RI w g 1 r (w2.setCell ⟨w.heap.size + 1, 0, none⟩ (.slice Av r.length cv))) := by
        refine ⟨⟨?_, ?_, ⟨z0, z1, z2, ?_⟩, ?_, ⟨.slice Av r.length cv, v1, v2, set_same hl2 _, ?_, ?_, ?_⟩⟩⟩
        · exact grown_trans (grown_trans HI.out gv (fun b e => .inr (by rw [e]))) (set_grown w2 (w.heap.size + 1) 0 _) (fun b e => .inl (by cases e; omega))
        · have := gv.size; have := (set_grown w2 (w.heap.size + 1) 0 (.slice Av r.length cv)).size; omega
        · exact blk_far hc (by show g ≠ w.heap.size + 1; omega) _
        · exact blk_far hr2 (by show w.heap.size ≠ w.heap.size + 1; omega) _
        · exact fun _ => Kd.R_far (p := ⟨w.heap.size + 1, 0, none⟩) (Kd.R_mono (Kd.R_lower (Kd.R_bound rv) sz) (fun q hq => by have := hq.2.1; omega)) (fun q hq => by show q ≠ w.heap.size + 1; omega) _
        · exact fun h => absurd h (by omega)
        · exact fun h => absurd h (by omega)
      clear hl2 hr2 hc gv rv
      go_wp2_with (fail)
      go_roundw
      case rel => exact ⟨1, by go_num, ⟨by omega⟩, nI⟩
      case measure => simp [intOf]
    · have cS := sort1_calls wr g y0 y1 y2 A s.length c r cg (h5 wr A c hsc hsW)
      have HG := Go.Lib.hid hl
      have HI := Aside0.mk (show w.grownBy wr (some g) from gr)
      have HRES := Go.Lib.hid res
      have HQ0 := Aside0.mk q0
      have HQ1 := Aside0.mk q1
      have HQ2 := Aside0.mk q2
      clear gr cg res hl q0 q1 q2 hsW hI II
      go_wp2_with (fail)
      (with_reducible refine cS.mono ?_)
      clear cS
      rintro e w2 ⟨v, rfl, rv, gv, ⟨z0, z1, z2, hc⟩⟩
      obtain ⟨Av, cv, rfl⟩ := Kd.R_slice rv
      have hl2 := (gv.block (w.heap.size + 1) (by omega) (fun e => by cases e; omega)).trans HG.out
      have hr2 := (gv.block w.heap.size (by omega) (fun e => by cases e; omega)).trans HRES.out
      have hlc := blk_cell hl2 1
      have hlf := blk_frozen hl2 1
      have nI : Aside0 (RI w g 2 r (w2.setCell ⟨w.heap.size + 1, 1, none⟩ (.slice Av r.length cv))) := by
        refine ⟨⟨?_, ?_, ⟨z0, z1, z2, ?_⟩, ?_, ⟨v0, .slice Av r.length cv, v2, set_same hl2 _, ?_, ?_, ?_⟩⟩⟩
        · exact grown_trans (grown_trans HI.out gv (fun b e => .inr (by rw [e]))) (set_grown w2 (w.heap.size + 1) 1 _) (fun b e => .inl (by cases e; omega))
        · have := gv.size; have := (set_grown w2 (w.heap.size + 1) 1 (.slice Av r.length cv)).size; omega
        · exact blk_far hc (by show g ≠ w.heap.size + 1; omega) _
        · exact blk_far hr2 (by show w.heap.size ≠ w.heap.size + 1; omega) _
        · exact fun _ => Kd.R_far (p := ⟨w.heap.size + 1, 1, none⟩) (Kd.R_grown (HQ0.out (by omega)) gv (fun q hq e => by cases e; omega)) (fun q hq => by show q ≠ w.heap.size + 1; omega) _
        · exact fun _ => Kd.R_far (p := ⟨w.heap.size + 1, 1, none⟩) (Kd.R_mono (Kd.R_lower (Kd.R_bound rv) sz) (fun q hq => by have := hq.2.1; omega)) (fun q hq => by show q ≠ w.heap.size + 1; omega) _
        · exact fun h => absurd h (by omega)
      clear hl2 hr2 hc gv rv
      go_wp2_with (fail)
      go_roundw
      case rel => exact ⟨2, by go_num, ⟨by omega⟩, nI⟩
      case measure => simp [intOf]
    · have cS := sort2_calls wr g y0 y1 y2 A s.length c r cg (h6 wr A c hsc hsW)
      have HG := Go.Lib.hid hl
      have HI := Aside0.mk (show w.grownBy wr (some g) from gr)
      have HRES := Go.Lib.hid res
      have HQ0 := Aside0.mk q0
      have HQ1 := Aside0.mk q1
      have HQ2 := Aside0.mk q2
      clear gr cg res hl q0 q1 q2 hsW hI II
      go_wp2_with (fail)
      (with_reducible refine cS.mono ?_)
      clear cS
      rintro e w2 ⟨v, rfl, rv, gv, ⟨z0, z1, z2, hc⟩⟩
      obtain ⟨Av, cv, rfl⟩ := Kd.R_slice rv
      have hl2 := (gv.block (w.heap.size + 1) (by omega) (fun e => by cases e; omega)).trans HG.out
      have hr2 := (gv.block w.heap.size (by omega) (fun e => by cases e; omega)).trans HRES.out
      have hlc := blk_cell hl2 2
      have hlf := blk_frozen hl2 2
      have nI : Aside0 (RI w g 3 r (w2.setCell ⟨w.heap.size + 1, 2, none⟩ (.slice Av r.length cv))) := by
        refine ⟨⟨?_, ?_, ⟨z0, z1, z2, ?_⟩, ?_, ⟨v0, v1, .slice Av r.length cv, set_same hl2 _, ?_, ?_, ?_⟩⟩⟩
        · exact grown_trans (grown_trans HI.out gv (fun b e => .inr (by rw [e]))) (set_grown w2 (w.heap.size + 1) 2 _) (fun b e => .inl (by cases e; omega))
        · have := gv.size; have := (set_grown w2 (w.heap.size + 1) 2 (.slice Av r.length cv)).size; omega
        · exact blk_far hc (by show g ≠ w.heap.size + 1; omega) _
        · exact blk_far hr2 (by show w.heap.size ≠ w.heap.size + 1; omega) _
        · exact fun _ => Kd.R_far (p := ⟨w.heap.size + 1, 2, none⟩) (Kd.R_grown (HQ0.out (by omega)) gv (fun q hq e => by cases e; omega)) (fun q hq => by show q ≠ w.heap.size + 1; omega) _
        · exact fun _ => Kd.R_far (p := ⟨w.heap.size + 1, 2, none⟩) (Kd.R_grown (HQ1.out (by omega)) gv (fun q hq e => by cases e; omega)) (fun q hq => by show q ≠ w.heap.size + 1; omega) _
        · exact fun _ => Kd.R_far (p := ⟨w.heap.size + 1, 2, none⟩) (Kd.R_mono (Kd.R_lower (Kd.R_bound rv) sz) (fun q hq => by have := hq.2.1; omega)) (fun q hq => by show q ≠ w.heap.size + 1; omega) _
      clear hl2 hr2 hc gv rv
      go_wp2_with (fail)
      go_roundw
      case rel => exact ⟨3, by go_num, ⟨by omega⟩, nI⟩
      case measure => simp [intOf]
    · have Q0 := q0 (by omega)
      have Q1 := q1 (by omega)
      have Q2 := q2 (by omega)
      obtain ⟨A0, c0, rfl, hc0, C0⟩ := Kd.R_reads Q0
      obtain ⟨A1, c1, rfl, hc1, C1⟩ := Kd.R_reads Q1
      obtain ⟨A2, c2, rfl, hc2, C2⟩ := Kd.R_reads Q2
      have hlc := blk_cell hl 0
      have cK := h23 wr A c A0 c0 hsc hc0 hsW C0
      have HG := Go.Lib.hid hl
      have HRES := Go.Lib.hid res
      have HC0 := Aside0.mk C0
      have HC1 := Aside0.mk C1
      have HC2 := Aside0.mk C2
      have HSW := Aside0.mk hsW
      have HQ0 := Aside0.mk Q0
      have HGR := Aside0.mk (show w.grownBy wr (some g) from gr)
      clear gr cg res hl q0 q1 q2 hsW hI II Q0 Q1 Q2 C0 C1 C2
      go_wp2_with (fail)
      (with_reducible refine cK.mono ?_)
      clear cK
      rintro e w3 ⟨v3, b3, rfl, r3, k3⟩
      obtain ⟨A3, c3, rfl, hc3, C3⟩ := Kd.R_reads r3
      have hl3 := (k3.block (w.heap.size + 1) (by omega)).trans HG.out
      have hlc3 := blk_cell hl3 0
      have cP := h24 w3 A c A0 c0 hsc hc0 (Kd.C_below HSW.out k3) (Kd.C_below HC0.out k3)
      have K3 := Aside0.mk k3
      have CC3 := Aside0.mk C3
      clear hl3 k3 C3 r3 hlc
      go_wp2_with (fail)
      (with_reducible refine cP.mono ?_)
      clear cP
      rintro e w4 ⟨v4, b4, rfl, r4, k4⟩
      obtain ⟨A4, c4, rfl, hc4, C4⟩ := Kd.R_reads r4
      have K4 := Aside0.mk (K3.out.trans (k4.mono K3.out.size))
      have hl4 := (K4.out.block (w.heap.size + 1) (by omega)).trans HG.out
      have hlc40 := blk_cell hl4 0
      have hlc41 := blk_cell hl4 1
      have hlc42 := blk_cell hl4 2
      have cE := hr w4 A0 c0 A1 c1 hc0 hc1 (Kd.C_below HC0.out K4.out) (Kd.C_below HC1.out K4.out)
      have CC4 := Aside0.mk C4
      have CC34 := Aside0.mk (Kd.C_below CC3.out k4)
      clear hl4 k4 C4 r4 hlc3
      go_wp2_with (fail)
      (with_reducible refine cE.mono ?_)
      clear cE
      rintro e w5 ⟨rfl, ⟨m5, rfl⟩⟩
      have hE5 := hr (w4.drewN m5) A0 c0 A2 c2 hc0 hc2 (Kd.C_drewN (Kd.C_below HC0.out K4.out) m5) (Kd.C_drewN (Kd.C_below HC2.out K4.out) m5)
      have K5 := Aside0.mk (show Below wr.heap.size wr (w4.drewN m5) from pw_below_drewN K4.out m5)
      have C5a := Aside0.mk (Kd.C_drewN CC34.out m5)
      have C5b := Aside0.mk (Kd.C_drewN CC4.out m5)
      generalize w4.drewN m5 = w5 at *
      have hl5 := (K5.out.block (w.heap.size + 1) (by omega)).trans HG.out
      have hlc50 := blk_cell hl5 0
      have hlc52 := blk_cell hl5 2
      clear hl5 hlc40 hlc41 hlc42
      go_wp2_with (fail)
      (with_reducible refine hE5.mono ?_)
      clear hE5
      rintro e w6 ⟨rfl, ⟨m6, rfl⟩⟩
      have hE6 := hx (w5.drewN m6) A3 c3 A4 c4 hc3 hc4 (Kd.C_drewN C5a.out m6) (Kd.C_drewN C5b.out m6)
      have K6 := Aside0.mk (show Below wr.heap.size wr (w5.drewN m6) from pw_below_drewN K5.out m6)
      have C6a := Aside0.mk (Kd.C_drewN C5a.out m6)
      generalize w5.drewN m6 = w6 at *
      clear hlc50 hlc52
      go_wp2_with (fail)
      (with_reducible refine hE6.mono ?_)
      clear hE6
      rintro e w7 ⟨rfl, ⟨m7, rfl⟩⟩
      have HSW7 := Aside0.mk (Kd.C_drewN (Kd.C_below HSW.out K6.out) m7)
      have HC07 := Aside0.mk (Kd.C_drewN (Kd.C_below HC0.out K6.out) m7)
      have C7a := Aside0.mk (Kd.C_drewN C6a.out m7)
      have K7 := Aside0.mk (show Below wr.heap.size wr (w6.drewN m7) from pw_below_drewN K6.out m7)
      generalize w6.drewN m7 = w7 at *
      have hl7 := (K7.out.block (w.heap.size + 1) (by omega)).trans HG.out
      have hlc7 := blk_cell hl7 0
      have hr7 := (K7.out.block w.heap.size (by omega)).trans HRES.out
      have HL7 := Go.Lib.hid hl7
      have HR7 := Go.Lib.hid hr7
      have H26 := Aside0.mk h26
      clear hl7 hr7 h26
      go_upto_region 13 with (fail)
      have cC := Aside0.mk (H26.out w7.drew A c A0 c0 A3 c3 hsc hc0 hc3 (Kd.C_drew HSW7.out) (Kd.C_drew HC07.out) (Kd.C_drew C7a.out))
      have KK := Aside0.mk (show ∀ w8, Below w7.drew.heap.size w7.drew w8 → Below w7.heap.size w7 w8 from fun w8 h => (below_drew1 (Below.refl _ w7)).trans (h.mono (by simp)))
      go_region_with (go_at_call 64; go_loud (with_reducible refine cC.out.mono ?_; rintro e w8 ⟨rfl, k80⟩; have k8 := KK.out _ k80; clear k80; have hsz7 : w.heap.size + 1 < w7.heap.size := (by have := K7.out.size; omega); have hlc8 := blk_cell ((k8.block (w.heap.size + 1) hsz7).trans HL7.out) 0; have hr8 := (k8.block w.heap.size (show w.heap.size < w7.heap.size by omega)).trans HR7.out; have hrc0 := blk_cell hr8 0; have hrc1 := blk_cell hr8 1; have hrc2 := blk_cell hr8 2; have hrf0 := blk_frozen hr8 0; have hrf1 := blk_frozen hr8 1; have hrf2 := blk_frozen hr8 2; have HR8 := Go.Lib.hid hr8; have K8 := Aside0.mk k8; clear hr8 k8 hsz7))
      all_goals go_wp2_with (fail)
      all_goals (refine bodyPost_ret (results_cell (ad := ⟨w.heap.size, 0, none⟩) (v := .agg #[.slice A0 r.length c0, .slice A3 x.length c3, .bool true]) rfl _ rfl (load38 _ _ _ _ _ (by go_simp) (by go_simp) (by go_simp))) rfl ?_)
      all_goals (refine ⟨_, _, _, _, rfl, ?_, grown_trans (grown_trans (grown_trans (grown_trans HGR.out (grown_below (K7.out.trans (K8.out.mono K7.out.size)) none) (fun b e => by cases e)) (set_grown _ w.heap.size 0 _) (fun b e => .inl (by cases e; omega))) (set_grown _ w.heap.size 1 _) (fun b e => .inl (by cases e; omega))) (set_grown _ w.heap.size 2 _) (fun b e => .inl (by cases e; omega))⟩)
      all_goals (have QR := Kd.R_lower (base' := w.heap.size) (Kd.R_below HQ0.out (K7.out.trans (K8.out.mono K7.out.size))) (by omega))
      all_goals exact Kd.R_mono (Kd.R_far (p := ⟨w.heap.size, 2, none⟩) (Kd.R_far (p := ⟨w.heap.size, 1, none⟩) (Kd.R_far (p := ⟨w.heap.size, 0, none⟩) QR (fun q hq => by show q ≠ w.heap.size; omega) _) (fun q hq => by show q ≠ w.heap.size; omega) _) (fun q hq => by show q ≠ w.heap.size; omega) _) (fun _ _ => trivial)
end Go.Proofs.YtbbpplnnegdenaaGreat.Rn
end
section
set_option linter.unusedVariables false
set_option linter.unusedSimpArgs false
namespace Go.Proofs.YtbbpplnnegdenaaGreat.Mo
open Go Go.RowKit Go.Shelf Go.Proofs Go.Proofs.YtbbpplnnegdenaaGreatW.PrintWords Go.Proofs.YtbbpplnnegdenaaGreat.So Go.Proofs.YtbbpplnnegdenaaGreat.St
abbrev IRow (W : World) (b : Nat) (k : IntKind) (t : TypeId) (xs : List Int) : Prop := W.heap[b]? = some (.cells (xs.map (Value.int k)).toArray t (0, 0))
theorem IRow.cell {W : World} {b : Nat} {k : IntKind} {t : TypeId} {xs : List Int} (h : IRow W b k t xs) {i : Nat} (hi : i < xs.length) : W.cell? ⟨b, i, none⟩ = some (.int k (xs.getD i 0)) := by
  rw [blk_cell h i]
  simp [List.getD_eq_getElem?_getD, List.getElem?_eq_getElem hi]
theorem IRow.frozen {W : World} {b : Nat} {k : IntKind} {t : TypeId} {xs : List Int} (h : IRow W b k t xs) (i : Nat) : W.frozen? ⟨b, i, none⟩ = false := blk_frozen h i
theorem IRow.set {W : World} {b : Nat} {k : IntKind} {t : TypeId} {xs : List Int} (h : IRow W b k t xs) (i : Nat) (v : Int) : IRow (W.setCell ⟨b, i, none⟩ (.int k v)) b k t (xs.set i v) := by
  show (W.setCell ⟨b, i, none⟩ (.int k v)).heap[b]? = _
  have h' : W.heap[b]? = some (.cells (xs.map (Value.int k)).toArray t (0, 0)) := h
  simp [World.setCell, Array.getElem?_modify, h']
theorem IRow.far {W : World} {b : Nat} {k : IntKind} {t : TypeId} {xs : List Int} (h : IRow W b k t xs) {p : Addr} (hp : b ≠ p.block) (v : Value) : IRow (W.setCell p v) b k t xs := blk_far h hp v
structure Mdl (W : World) (g b : Nat) (cs : List Int) (tot : Int) : Prop where
  G : W.heap[g]? = some (.cells #[.slice (some ⟨b, 0, none⟩) cs.length cs.length, .int .i64 tot] 92 (0, 0))
  R : IRow W b .i64 3 cs
  ne : g ≠ b
structure Keep (ks : List Nat) (W W' : World) : Prop where
  os : W'.os = W.os
  tape : W'.tape = W.tape
  output : W'.output = W.output
  size : W.heap.size ≤ W'.heap.size
  block : ∀ k, k < W.heap.size → k ∉ ks → W'.heap[k]? = W.heap[k]?
theorem Keep.refl (ks : List Nat) (W : World) : Keep ks W W := ⟨rfl, rfl, rfl, Nat.le_refl _, fun _ _ _ => rfl⟩
theorem Keep.trans {ks : List Nat} {A B C : World} (h : Keep ks A B) (k : Keep ks B C) : Keep ks A C :=
  ⟨k.os.trans h.os, k.tape.trans h.tape, k.output.trans h.output, Nat.le_trans h.size k.size, fun x hx hn => (k.block x (Nat.lt_of_lt_of_le hx h.size) hn).trans (h.block x hx hn)⟩
theorem Keep.mono {ks ls : List Nat} {A B : World} (h : Keep ks A B) (hk : ∀ x ∈ ks, x ∈ ls) : Keep ls A B := ⟨h.os, h.tape, h.output, h.size, fun x hx hn => h.block x hx (fun k => hn (hk x k))⟩
theorem Keep.set {ks : List Nat} (W : World) {p : Addr} (hp : p.block ∈ ks) (v : Value) : Keep ks W (W.setCell p v) :=
  ⟨rfl, rfl, rfl, by simp [World.setCell], fun k _ hn => Below.heap_setCell _ _ _ _ (fun e => hn (by rw [e]; exact hp))⟩
theorem Keep.drew (ks : List Nat) (W : World) : Keep ks W W.drew := ⟨rfl, rfl, rfl, Nat.le_refl _, fun _ _ _ => rfl⟩
theorem Keep.drewN (ks : List Nat) (W : World) (n : Nat) : Keep ks W (W.drewN n) := ⟨rfl, rfl, rfl, Nat.le_refl _, fun _ _ _ => rfl⟩
theorem Keep.below {W W' : World} (h : Below W.heap.size W W') (ks : List Nat) : Keep ks W W' := ⟨h.os, h.tape, h.output, h.size, fun k hk _ => h.block k hk⟩
theorem Keep.toBelow {W W' : World} {n : Nat} {ks : List Nat} (h : Keep ks W W') (hn : n ≤ W.heap.size) (hk : ∀ k ∈ ks, n ≤ k) : Below n W W' :=
  ⟨h.os, h.tape, h.output, h.size, fun k hlt => h.block k (Nat.lt_of_lt_of_le hlt hn) (fun hm => by have := hk k hm; omega)⟩
theorem Mdl.keep {W W' : World} {g b : Nat} {cs : List Int} {tot : Int} (h : Mdl W g b cs tot) {ks : List Nat} (hk : Keep ks W W') (hg : g ∉ ks) (hb : b ∉ ks) : Mdl W' g b cs tot :=
  ⟨(hk.block g (blk_lt h.G) hg).trans h.G, (hk.block b (blk_lt h.R) hb).trans h.R, h.ne⟩
theorem Mdl.setCount {W : World} {g b : Nat} {cs : List Int} {tot : Int} (h : Mdl W g b cs tot) (i : Nat) (v : Int) : Mdl (W.setCell ⟨b, i, none⟩ (.int .i64 v)) g b (cs.set i v) tot :=
  ⟨by rw [List.length_set]; exact blk_far h.G h.ne _, h.R.set i v, h.ne⟩
theorem Mdl.setTot {W : World} {g b : Nat} {cs : List Int} {tot : Int} (h : Mdl W g b cs tot) (v : Int) : Mdl (W.setCell ⟨g, 1, none⟩ (.int .i64 v)) g b cs v := by
  refine ⟨?_, h.R.far (fun e => h.ne e.symm) _, h.ne⟩
  have h' := h.G
  simp [World.setCell, Array.getElem?_modify, h']
set_option maxHeartbeats 1000000 in
theorem total_calls (W : World) {g b : Nat} {cs : List Int} {tot : Int} (h : Mdl W g b cs tot) : Calls Tryz.prog 23 #[.pointer (some ⟨g, 0, none⟩)] W fun e W' => e = .returned (.int .i64 tot) ∧ W' = W := by
  have c1 : W.cell? ⟨g, 1, none⟩ = some (.int .i64 tot) := blk_cell h.G 1
  go_enter Tryz.func23, Tryz.ntmps23
  go_wp2_with (fail)
  go_ret
  exact ⟨rfl, rfl⟩
set_option maxHeartbeats 1000000 in
theorem is_calls (W : World) {g b : Nat} {cs : List Int} {tot : Int} (h : Mdl W g b cs tot) (sym : Int) : Calls Tryz.prog 50 #[.pointer (some ⟨g, 0, none⟩), .int .i64 sym] W fun e W' => e = .returned (.bool (decide (0 ≤ sym ∧ sym < cs.length))) ∧ W' = W := by
  have c0 : W.cell? ⟨g, 0, none⟩ = some (.slice (some ⟨b, 0, none⟩) cs.length cs.length) := blk_cell h.G 0
  by_cases h0 : 0 ≤ sym
  · by_cases h1 : sym < cs.length
    · rw [decide_eq_true ⟨h0, h1⟩]
      go_enter Tryz.func50, Tryz.ntmps50
      go_wp2_with (fail)
      go_ret
      exact ⟨rfl, rfl⟩
    · rw [decide_eq_false (fun k => h1 k.2)]
      go_enter Tryz.func50, Tryz.ntmps50
      go_wp2_with (fail)
      go_ret
      exact ⟨rfl, rfl⟩
  · rw [decide_eq_false (fun k => h0 k.1)]
    go_enter Tryz.func50, Tryz.ntmps50
    go_wp2_with (fail)
    go_ret
    exact ⟨rfl, rfl⟩
theorem take_sum {cs : List Int} {i : Nat} (h : i < cs.length) : (cs.take (i + 1)).sum = (cs.take i).sum + cs.getD i 0 := by
  rw [List.take_succ_eq_append_getElem h, List.sum_append, List.getD_eq_getElem?_getD, List.getElem?_eq_getElem h]; simp
set_option maxHeartbeats 2000000 in
theorem span_calls (W : World) {g b : Nat} {cs : List Int} {tot : Int} (h : Mdl W g b cs tot) (sym : Nat) (hs : sym < cs.length) (hl : cs.length ≤ 1000) (hb : ∀ i, i ≤ cs.length → 0 ≤ (cs.take i).sum ∧ (cs.take i).sum ≤ 1000000) :
    Calls Tryz.prog 21 #[.pointer (some ⟨g, 0, none⟩), .int .i64 sym] W fun e W' => e = .returned (.tuple #[.int .i64 (cs.take sym).sum, .int .i64 (cs.getD sym 0), .bool true]) ∧ W' = W.drew := by
  have c0 : W.cell? ⟨g, 0, none⟩ = some (.slice (some ⟨b, 0, none⟩) cs.length cs.length) := blk_cell h.G 0
  have ci := is_calls W h sym
  rw [decide_eq_true (show 0 ≤ (sym : Int) ∧ (sym : Int) < cs.length from ⟨by omega, by omega⟩)] at ci
  have HR := Aside0.mk h.R
  have HBS := Aside0.mk hb
  clear h hb
  go_enter Tryz.func21, Tryz.ntmps21
  go_wp2_with (fail)
  (with_reducible refine ci.mono ?_)
  clear ci
  rintro e w1 ⟨rfl, rfl⟩
  go_wp2_with (fail)
  go_loopw [4, 20] (fun v4 v20 wr => ∃ i : Nat, v4 = .int .i64 (cs.take i).sum ∧ v20 = .int .i64 i ∧ Aside0 (i ≤ sym) ∧ Aside0 (wr = w1)) (fun v4 v20 _ => sym - (intOf v20).toNat)
  case atStart => exact ⟨0, by simp, rfl, ⟨by omega⟩, ⟨rfl⟩⟩
  case round =>
    obtain ⟨i, rfl, rfl, hi, hw⟩ := hrel
    obtain rfl := hw.out
    have hile := hi.out
    by_cases hlt : i < sym
    · have cI := IRow.cell HR.out (i := i) (by omega)
      have hts := take_sum (cs := cs) (i := i) (by omega)
      have hb1 := HBS.out (i + 1) (by omega)
      obtain ⟨x, hx⟩ : ∃ x, cs.getD i 0 = x := ⟨_, rfl⟩
      rw [hx] at cI hts
      have hwr : wrap64 ((cs.take i).sum + x) = (cs.take (i + 1)).sum := by rw [← hts]; unfold wrap64; omega
      have HX := Aside0.mk hx
      clear hx
      have HTS := Aside0.mk hts
      have HB1 := Aside0.mk hb1
      clear hts hb1
      go_wp2_with (fail)
      go_roundw
      case rel => exact ⟨i + 1, by first | rfl | (rw [hwr]) | simp [hwr], by go_num, ⟨by omega⟩, ⟨by first | rfl | trivial⟩⟩
      case measure => simp [intOf]; omega
    · obtain rfl : i = sym := by omega
      have cI := IRow.cell HR.out (i := i) hs
      obtain ⟨x, hx⟩ : ∃ x, cs.getD i 0 = x := ⟨_, rfl⟩
      rw [hx] at cI
      have HX := Aside0.mk hx
      clear hx
      go_wp2_with (fail)
      go_region
      all_goals (go_wp2_with (fail))
      all_goals go_ret3
      all_goals exact ⟨by rw [HX.out]; rfl, rfl⟩
set_option maxHeartbeats 2000000 in
theorem find_calls (W : World) {g b : Nat} {cs : List Int} {tot : Int} (h : Mdl W g b cs tot) (v : Int) (k : Nat) (h0 : 0 ≤ v) (h1 : v < tot) (hk : k < cs.length) (hl : cs.length ≤ 1000) (hb : ∀ i, i ≤ cs.length → 0 ≤ (cs.take i).sum ∧ (cs.take i).sum ≤ 1000000)
    (hm : ∀ i, i ≤ k → (cs.take i).sum ≤ v) (hv : v < (cs.take (k + 1)).sum) (hvb : v ≤ 1000000) :
    Calls Tryz.prog 58 #[.pointer (some ⟨g, 0, none⟩), .int .i64 v] W fun e W' => e = .returned (.tuple #[.int .i64 k, .bool true]) ∧ W' = W := by
  have c0 : W.cell? ⟨g, 0, none⟩ = some (.slice (some ⟨b, 0, none⟩) cs.length cs.length) := blk_cell h.G 0
  have cT := total_calls W h
  have HR := Aside0.mk h.R
  have HBS := Aside0.mk hb
  have HM := Aside0.mk hm
  have HV := Aside0.mk hv
  clear h hb hm hv
  go_enter Tryz.func58, Tryz.ntmps58
  go_wp2_with (fail)
  (with_reducible refine cT.mono ?_)
  clear cT
  rintro e w1 ⟨rfl, rfl⟩
  go_wp2_with (fail)
  go_loopw [1, 4] (fun v1 v4 wr => ∃ i : Nat, v1 = .int .i64 (v - (cs.take i).sum) ∧ v4 = .int .i64 i ∧ Aside0 (i ≤ k) ∧ Aside0 (wr = w1)) (fun v1 v4 _ => k - (intOf v4).toNat)
  case atStart => exact ⟨0, by simp, rfl, ⟨by omega⟩, ⟨rfl⟩⟩
  case round =>
    obtain ⟨i, rfl, rfl, hi, hw⟩ := hrel
    obtain rfl := hw.out
    have hile := hi.out
    have cI := IRow.cell HR.out (i := i) (by omega)
    have hts := take_sum (cs := cs) (i := i) (by omega)
    have hb0 := HBS.out i (by omega)
    have hb1 := HBS.out (i + 1) (by omega)
    obtain ⟨x, hx⟩ : ∃ x, cs.getD i 0 = x := ⟨_, rfl⟩
    rw [hx] at cI hts
    have HX := Aside0.mk hx
    clear hx
    by_cases hlt : i < k
    · have hge := HM.out (i + 1) (by omega)
      have hge2 : x ≤ v - (cs.take i).sum := by omega
      have hwr : wrap64 (v - (cs.take i).sum - x) = v - (cs.take (i + 1)).sum := by rw [hts]; unfold wrap64; omega
      have HTS := Aside0.mk hts
      have HB1 := Aside0.mk hb1
      have HB0 := Aside0.mk hb0
      have HG := Aside0.mk hge
      clear hts hb1 hb0 hge
      go_wp2_with (fail)
      go_roundw
      case rel => exact ⟨i + 1, by first | rfl | (rw [hwr]) | simp [hwr], by go_num, ⟨by omega⟩, ⟨by first | rfl | trivial⟩⟩
      case measure => simp [intOf]; omega
    · obtain rfl : i = k := by omega
      have hlt2 := HV.out
      have hge2 : v - (cs.take i).sum < x := by omega
      have HTS := Aside0.mk hts
      have HB1 := Aside0.mk hb1
      have HB0 := Aside0.mk hb0
      clear hts hb1 hb0 hlt2
      go_wp2_with (fail)
      go_ret2
      exact ⟨rfl, rfl⟩
def mixL (f : Int → Int) (xs : List Int) (i : Nat) : List Int := (xs.take i).map f ++ xs.drop i
theorem mix_length (f : Int → Int) (xs : List Int) (i : Nat) : (mixL f xs i).length = xs.length := by
  unfold mixL; rw [List.length_append, List.length_map, List.length_take, List.length_drop]; omega
theorem mix_get {f : Int → Int} {xs : List Int} {i : Nat} (h : i < xs.length) : (mixL f xs i).getD i 0 = xs.getD i 0 := by
  unfold mixL
  simp only [List.getD_eq_getElem?_getD]
  rw [List.getElem?_append_right (by rw [List.length_map, List.length_take]; omega), List.length_map, List.length_take, List.getElem?_drop]
  congr 2; omega
theorem mix_set {f : Int → Int} {xs : List Int} {i : Nat} (h : i < xs.length) : (mixL f xs i).set i (f (xs.getD i 0)) = mixL f xs (i + 1) := by
  unfold mixL
  have hl : ((xs.take i).map f).length = i := by rw [List.length_map, List.length_take]; omega
  rw [List.set_append_right _ _ (by omega), hl, Nat.sub_self, List.drop_eq_getElem_cons h, List.set_cons_zero, List.take_succ_eq_append_getElem h, List.map_append, List.append_assoc]
  simp [List.getD_eq_getElem?_getD, List.getElem?_eq_getElem h]
theorem mix_all (f : Int → Int) (xs : List Int) : mixL f xs xs.length = xs.map f := by unfold mixL; simp
theorem mix_zero (f : Int → Int) (xs : List Int) : mixL f xs 0 = xs := by unfold mixL; simp
theorem mix_sum {f : Int → Int} {xs : List Int} {i : Nat} (h : i < xs.length) : ((xs.map f).take (i + 1)).sum = ((xs.map f).take i).sum + f (xs.getD i 0) := by
  rw [take_sum (by rw [List.length_map]; exact h)]
  simp [List.getD_eq_getElem?_getD, List.getElem?_eq_getElem h]
def hf (n : Int) : Int := (n + 1) / 2
def sawF (cs : List Int) (tot : Int) (sym : Nat) : List Int × Int :=
  if tot + 32 > 65504 then ((cs.set sym (cs.getD sym 0 + 32)).map hf, ((cs.set sym (cs.getD sym 0 + 32)).map hf).sum) else (cs.set sym (cs.getD sym 0 + 32), tot + 32)
set_option maxHeartbeats 4000000 in
theorem saw_calls (W : World) {g b : Nat} {cs : List Int} {tot : Int} (h : Mdl W g b cs tot) (sym : Nat) (hs : sym < cs.length) (hl : cs.length ≤ 1000) (hc : ∀ x ∈ cs, 0 ≤ x ∧ x ≤ 100000) (ht : 0 ≤ tot ∧ tot ≤ 100000) :
    Calls Tryz.prog 53 #[.pointer (some ⟨g, 0, none⟩), .int .i64 sym] W fun e W' => e = .returned (.bool true) ∧ Mdl W' g b (sawF cs tot sym).1 (sawF cs tot sym).2 ∧ Keep [g, b] W W' := by
  have c0 : W.cell? ⟨g, 0, none⟩ = some (.slice (some ⟨b, 0, none⟩) cs.length cs.length) := blk_cell h.G 0
  have c1 : W.cell? ⟨g, 1, none⟩ = some (.int .i64 tot) := blk_cell h.G 1
  have f1 : W.frozen? ⟨g, 1, none⟩ = false := blk_frozen h.G 1
  have cI := IRow.cell h.R hs
  have fI := IRow.frozen h.R sym
  have ci := is_calls W h sym
  have hne := h.ne
  have hne' : b ≠ g := fun e => hne e.symm
  rw [decide_eq_true (show 0 ≤ (sym : Int) ∧ (sym : Int) < cs.length from ⟨by omega, by omega⟩)] at ci
  have hx := hc (cs.getD sym 0) (by simp [List.getD_eq_getElem?_getD, hs])
  have H := Aside0.mk h
  clear h
  obtain ⟨x, hxe⟩ : ∃ x, cs.getD sym 0 = x := ⟨_, rfl⟩
  rw [hxe] at cI hx
  have HXE := Aside0.mk hxe
  have hw1 : wrap64 (x + 32) = x + 32 := by unfold wrap64; omega
  have HX := Aside0.mk hx
  have HC := Aside0.mk hc
  clear hx hc
  unfold sawF
  rw [hxe]
  clear hxe
  by_cases hbig : tot + 32 > 65504
  · rw [if_pos hbig]
    obtain ⟨xs, hxs⟩ : ∃ xs, cs.set sym (x + 32) = xs := ⟨_, rfl⟩
    rw [hxs]
    have HXS := Aside0.mk hxs
    clear hxs
    go_enter Tryz.func53, Tryz.ntmps53
    go_wp2_with (fail)
    (with_reducible refine ci.mono ?_)
    clear ci
    rintro e w1 ⟨rfl, rfl⟩
    go_wp2_with (fail)
    have M0 := Aside0.mk (((H.out.setCount sym (x + 32)).setTot (tot + 32)).setTot 0)
    have K0 := Aside0.mk (((Keep.set (ks := [g, b]) w1 (p := ⟨b, sym, none⟩) (by simp) (.int .i64 (x + 32))).trans (Keep.set _ (p := ⟨g, 1, none⟩) (by simp) (.int .i64 (tot + 32)))).trans (Keep.set _ (p := ⟨g, 1, none⟩) (by simp) (.int .i64 0)))
    have hxs := HXS.out
    have hxl : xs.length = cs.length := by rw [← hxs, List.length_set]
    have hxc : ∀ y ∈ xs, 0 ≤ y ∧ y ≤ 200000 := by
      intro y hy
      rw [← hxs] at hy
      rcases List.mem_or_eq_of_mem_set hy with hy | hy
      · have := HC.out y hy; omega
      · have := HX.out; omega
    rw [hxs] at M0
    obtain ⟨w2, hw2⟩ : ∃ w2, ((w1.setCell ⟨b, sym, none⟩ (.int .i64 (x + 32))).setCell ⟨g, 1, none⟩ (.int .i64 (tot + 32))).setCell ⟨g, 1, none⟩ (.int .i64 0) = w2 := ⟨_, rfl⟩
    rw [hw2] at M0 K0 ⊢
    have HXC := Aside0.mk hxc
    have HXL := Go.Lib.hid hxl
    clear hw2 hxs hxc hxl
    go_loopw [40] (fun v40 wr => ∃ i : Nat, v40 = .int .i64 i ∧ Aside0 (i ≤ cs.length) ∧ Aside0 (Mdl wr g b (mixL hf xs i) (((xs.map hf).take i).sum)) ∧ Aside0 (Keep [g, b] w1 wr) ∧ Aside0 (0 ≤ ((xs.map hf).take i).sum ∧ ((xs.map hf).take i).sum ≤ 200000 * i)) (fun v40 _ => cs.length - (intOf v40).toNat)
    case atStart => exact ⟨0, rfl, ⟨by omega⟩, ⟨by rw [mix_zero]; simpa using M0.out⟩, K0, ⟨by simp⟩⟩
    case round =>
      obtain ⟨i, rfl, hi, hM, hK, hS⟩ := hrel
      have hile := hi.out
      have hml : (mixL hf xs i).length = cs.length := by rw [mix_length, HXL.out]
      have d0 : wr.cell? ⟨g, 0, none⟩ = some (.slice (some ⟨b, 0, none⟩) cs.length cs.length) := by rw [← hml]; exact blk_cell hM.out.G 0
      have d1 : wr.cell? ⟨g, 1, none⟩ = some (.int .i64 (((xs.map hf).take i).sum)) := blk_cell hM.out.G 1
      have e1 : wr.frozen? ⟨g, 1, none⟩ = false := blk_frozen hM.out.G 1
      have HML := Go.Lib.hid hml
      clear hml
      by_cases hlt : i < cs.length
      · have cJ := IRow.cell hM.out.R (i := i) (by rw [HML.out]; exact hlt)
        have fJ := IRow.frozen hM.out.R i
        rw [mix_get (by rw [HXL.out]; exact hlt)] at cJ
        have hy := HXC.out (xs.getD i 0) (by rw [List.getD_eq_getElem?_getD, List.getElem?_eq_getElem (by rw [HXL.out]; exact hlt)]; exact List.getElem_mem _)
        have hms := mix_set (f := hf) (xs := xs) (i := i) (by rw [HXL.out]; exact hlt)
        have hsm := mix_sum (f := hf) (xs := xs) (i := i) (by rw [HXL.out]; exact hlt)
        have hs2 := hS.out
        obtain ⟨y, hye⟩ : ∃ y, xs.getD i 0 = y := ⟨_, rfl⟩
        rw [hye] at cJ hy hms hsm
        obtain ⟨z, hze⟩ : ∃ z, hf y = z := ⟨_, rfl⟩
        have hz : 0 ≤ z ∧ z ≤ 200000 := by rw [← hze]; unfold hf; omega
        rw [hze] at hms hsm
        have hw3 : wrap64 (y + 1) = y + 1 := by unfold wrap64; omega
        have hw4 : wrap64 ((y + 1).tdiv 2) = z := by rw [← hze]; unfold hf wrap64; rw [Int.tdiv_eq_ediv_of_nonneg (by omega)]; omega
        have hw5 : wrap64 (((xs.map hf).take i).sum + z) = ((xs.map hf).take (i + 1)).sum := by rw [hsm]; unfold wrap64; omega
        have hw5w : IntKind.i64.wrap (((xs.map hf).take i).sum + z) = ((xs.map hf).take (i + 1)).sum := by rw [IntKind.wrap_i64]; unfold wrap64 at hw5; exact hw5
        have HZ := Aside0.mk hz
        have HMS := Aside0.mk hms
        have HSM := Aside0.mk hsm
        have HY := Aside0.mk hy
        have HS2 := Aside0.mk hs2
        clear hz hms hsm hy hye hze hs2
        go_wp2_with (fail)
        go_region
        go_wp2_with (fail)
        go_roundw
        case rel =>
          refine ⟨i + 1, by go_num, ⟨by omega⟩, ⟨?_⟩, ⟨?_⟩, ⟨?_⟩⟩
          · have m1 := (hM.out.setCount i z).setTot (wrap64 (((xs.map hf).take i).sum + z))
            rw [HMS.out] at m1
            have m2 := m1.keep (Keep.drew [] _) (by simp) (by simp)
            rw [hw5] at m2
            exact m2
          · exact ((hK.out.trans (Keep.set _ (p := ⟨b, i, none⟩) (by simp) _)).trans (Keep.set _ (p := ⟨g, 1, none⟩) (by simp) _)).trans (Keep.drew _ _)
          · have := HSM.out
            have := HZ.out
            have := HS2.out
            rw [HSM.out]; omega
        case measure => simp [intOf]; omega
      · obtain rfl : i = cs.length := by omega
        go_wp2_with (fail)
        go_ret
        refine ⟨rfl, ?_, hK.out⟩
        have h1 := hM.out
        rw [← HXL.out, mix_all, List.take_of_length_le (by rw [List.length_map]; exact Nat.le_refl _)] at h1
        exact h1
  · rw [if_neg hbig]
    go_enter Tryz.func53, Tryz.ntmps53
    go_wp2_with (fail)
    (with_reducible refine ci.mono ?_)
    clear ci
    rintro e w1 ⟨rfl, rfl⟩
    go_wp2_with (fail)
    go_ret
    exact ⟨rfl, (H.out.setCount sym (x + 32)).setTot (tot + 32), (Keep.set (ks := [g, b]) w1 (p := ⟨b, sym, none⟩) (by simp) (.int .i64 (x + 32))).trans (Keep.set _ (p := ⟨g, 1, none⟩) (by simp) (.int .i64 (tot + 32)))⟩
theorem info3 : (Tryz.prog.info? 3).map (fun i => (i.zero, i.size, i.bytes)) = some (some (.int .i64 0), 1, 8) := by kernel_rfl
set_option maxHeartbeats 4000000 in
set_option maxRecDepth 100000 in
theorem new_calls (W : World) (n : Nat) (h1 : 1 ≤ n) (h2 : n ≤ 1000) :
    Calls Tryz.prog 45 #[.int .i64 n] W fun e W' => ∃ g b, e = .returned (.pointer (some ⟨g, 0, none⟩)) ∧ Mdl W' g b (List.replicate n 1) n ∧ W.heap.size ≤ g ∧ W.heap.size ≤ b ∧ Keep [] W W' := by
  obtain ⟨W1, hmk, hrow, hb⟩ := Re.made W n (by omega)
  have HROW := Go.Lib.hid hrow
  have HB := Aside0.mk hb
  clear hrow hb
  go_enter Tryz.func45, Tryz.ntmps45
  go_wp2_with (fail)
  have hgl : W.heap.size < W1.heap.size := blk_lt HROW.out
  have M0 : Aside0 (Mdl (W1.alloc (.cells #[.slice (some ⟨W.heap.size, 0, none⟩) n n, .int .i64 n] 92)) W1.heap.size W.heap.size (mixL (fun _ => 1) (List.replicate n 0) 0) n) := ⟨by
    rw [mix_zero]
    refine ⟨by rw [List.length_replicate]; exact World.alloc_heap_new W1 _, ?_, by omega⟩
    show (W1.alloc _).heap[W.heap.size]? = _
    rw [Below.heap_alloc _ _ _ hgl, HROW.out]
    simp [Re.fill]⟩
  have K0 : Aside0 (Keep [] W (W1.alloc (.cells #[.slice (some ⟨W.heap.size, 0, none⟩) n n, .int .i64 n] 92))) := ⟨Keep.below (HB.out.trans ((Below.refl _ W1).alloc HB.out.size _)) []⟩
  obtain ⟨w2, hw2⟩ : ∃ w2, W1.alloc (.cells #[.slice (some ⟨W.heap.size, 0, none⟩) n n, .int .i64 n] 92) = w2 := ⟨_, rfl⟩
  rw [hw2] at M0 K0 ⊢
  obtain ⟨g, hg⟩ : ∃ g, W1.heap.size = g := ⟨_, rfl⟩
  rw [hg] at M0 hgl ⊢
  have HG0 := Aside0.mk hgl
  clear hw2 hg hgl HROW HB hmk
  go_loopw [21] (fun v21 wr => ∃ i : Nat, v21 = .int .i64 i ∧ Aside0 (i ≤ n) ∧ Aside0 (Mdl wr g W.heap.size (mixL (fun _ => 1) (List.replicate n 0) i) n) ∧ Aside0 (Keep [] W wr)) (fun v21 _ => n - (intOf v21).toNat)
  case atStart => exact ⟨0, rfl, ⟨by omega⟩, M0, K0⟩
  case round =>
    obtain ⟨i, rfl, hi, hM, hK⟩ := hrel
    have hile := hi.out
    have hml : (mixL (fun _ => 1) (List.replicate n (0 : Int)) i).length = n := by rw [mix_length, List.length_replicate]
    have d0 : wr.cell? ⟨g, 0, none⟩ = some (.slice (some ⟨W.heap.size, 0, none⟩) n n) := by rw [← hml]; exact blk_cell hM.out.G 0
    have HML := Go.Lib.hid hml
    clear hml
    by_cases hlt : i < n
    · have cJ := IRow.cell hM.out.R (i := i) (by rw [HML.out]; exact hlt)
      have fJ := IRow.frozen hM.out.R i
      have hms := mix_set (f := fun _ => 1) (xs := List.replicate n (0 : Int)) (i := i) (by rw [List.length_replicate]; exact hlt)
      obtain ⟨y, hye⟩ : ∃ y, (mixL (fun _ => 1) (List.replicate n (0 : Int)) i).getD i 0 = y := ⟨_, rfl⟩
      rw [hye] at cJ
      have HMS := Aside0.mk hms
      clear hms hye
      go_wp2_with (fail)
      go_roundw
      case rel =>
        refine ⟨i + 1, by go_num, ⟨by omega⟩, ⟨?_⟩, ⟨?_⟩⟩
        · have m1 := hM.out.setCount i 1
          rw [HMS.out] at m1
          exact m1
        · have k1 := hK.out
          exact ⟨k1.os, k1.tape, k1.output, by have := k1.size; simpa [World.setCell] using this, fun k hk hn => (Below.heap_setCell _ _ _ _ (by show k ≠ W.heap.size; omega)).trans (k1.block k hk hn)⟩
      case measure => simp [intOf]; omega
    · obtain rfl : i = n := by omega
      go_wp2_with (fail)
      go_ret
      refine ⟨g, W.heap.size, rfl, ?_, ?_, Nat.le_refl _, hK.out⟩
      · have h1 := hM.out
        have e : mixL (fun _ => 1) (List.replicate i (0 : Int)) i = List.replicate i 1 := by
          have := mix_all (fun _ => (1 : Int)) (List.replicate i (0 : Int))
          rw [List.length_replicate] at this
          rw [this]; simp
        rw [e] at h1
        exact h1
      · have := HG0.out; omega
end Go.Proofs.YtbbpplnnegdenaaGreat.Mo
end
section
set_option linter.unusedVariables false
set_option linter.unusedSimpArgs false
namespace Go.Proofs.YtbbpplnnegdenaaGreat.Mp
open Go Go.RowKit Go.Shelf Go.Proofs Go.Proofs.YtbbpplnnegdenaaGreatW.PrintWords Go.Proofs.YtbbpplnnegdenaaGreat.So Go.Proofs.YtbbpplnnegdenaaGreat.St Go.Proofs.YtbbpplnnegdenaaGreat.Mo
structure Mds (W : World) (gm : Nat) (gs bs : Nat → Nat) (ms : Nat → List Int × Int) (cl ord : Int) : Prop where
  G : W.heap[gm]? = some (.cells #[.pointer (some ⟨gs 0, 0, none⟩), .pointer (some ⟨gs 1, 0, none⟩), .pointer (some ⟨gs 2, 0, none⟩), .int .i64 cl, .int .i64 ord] 83 (0, 0))
  M : ∀ i, i < 3 → Mdl W (gs i) (bs i) (ms i).1 (ms i).2
  d1 : ∀ i, i < 3 → gm ≠ gs i ∧ gm ≠ bs i
  d2 : ∀ i j, i < 3 → j < 3 → i ≠ j → gs i ≠ gs j ∧ bs i ≠ bs j ∧ gs i ≠ bs j
theorem Mds.keep {W W' : World} {gm : Nat} {gs bs : Nat → Nat} {ms : Nat → List Int × Int} {cl ord : Int} (h : Mds W gm gs bs ms cl ord) {ks : List Nat} (hk : Keep ks W W') (hm : gm ∉ ks) (hg : ∀ i, i < 3 → gs i ∉ ks ∧ bs i ∉ ks) : Mds W' gm gs bs ms cl ord :=
  ⟨(hk.block gm (blk_lt h.G) hm).trans h.G, fun i hi => (h.M i hi).keep hk (hg i hi).1 (hg i hi).2, h.d1, h.d2⟩
def askF (cl ord : Int) : Nat := (cl * ord).toNat
set_option maxHeartbeats 2000000 in
theorem now_calls (W : World) {gm : Nat} {gs bs : Nat → Nat} {ms : Nat → List Int × Int} {cl ord : Int} (h : Mds W gm gs bs ms cl ord) (hc : cl = 0 ∨ cl = 1 ∨ cl = 2) (ho : ord = 0 ∨ ord = 1) :
    Calls Tryz.prog 20 #[.pointer (some ⟨gm, 0, none⟩)] W fun e W' => e = .returned (.pointer (some ⟨gs (askF cl ord), 0, none⟩)) ∧ W' = W.drew := by
  have c0 : W.cell? ⟨gm, 0, none⟩ = some (.pointer (some ⟨gs 0, 0, none⟩)) := blk_cell h.G 0
  have c1 : W.cell? ⟨gm, 1, none⟩ = some (.pointer (some ⟨gs 1, 0, none⟩)) := blk_cell h.G 1
  have c2 : W.cell? ⟨gm, 2, none⟩ = some (.pointer (some ⟨gs 2, 0, none⟩)) := blk_cell h.G 2
  have c3 : W.cell? ⟨gm, 3, none⟩ = some (.int .i64 cl) := blk_cell h.G 3
  have c4 : W.cell? ⟨gm, 4, none⟩ = some (.int .i64 ord) := blk_cell h.G 4
  clear h
  rcases ho with rfl | rfl
  · have e : askF cl 0 = 0 := by unfold askF; simp
    rw [e]
    have hm : wrap64 (cl * 0) = 0 := by rw [Int.mul_zero]; unfold wrap64; decide
    have hm2 : IntKind.i64.wrap (cl * 0) = 0 := by rw [Int.mul_zero]; decide
    go_enter Tryz.func20, Tryz.ntmps20
    go_wp2_with (fail)
    go_region
    go_wp2_with (fail)
    go_ret
    exact ⟨rfl, rfl⟩
  · rcases hc with rfl | rfl | rfl
    all_goals (go_enter Tryz.func20, Tryz.ntmps20)
    all_goals (go_wp2_with (fail))
    all_goals go_region
    all_goals (go_wp2_with (fail))
    all_goals go_ret
    all_goals exact ⟨rfl, rfl⟩
def clsF (sym : Int) : Int := if sym < 2 then 0 else if sym < 6 then 1 else 2
theorem cls_calls (W : World) (sym : Int) : Calls Tryz.prog 54 #[.int .i64 sym] W fun e W' => e = .returned (.int .i64 (clsF sym)) ∧ W' = W := by
  unfold clsF
  by_cases h1 : sym < 2
  · rw [if_pos h1]
    go_enter Tryz.func54, Tryz.ntmps54
    go_wp2_with (fail)
    go_ret
    exact ⟨rfl, rfl⟩
  · rw [if_neg h1]
    by_cases h2 : sym < 6
    · rw [if_pos h2]
      go_enter Tryz.func54, Tryz.ntmps54
      go_wp2_with (fail)
      go_ret
      exact ⟨rfl, rfl⟩
    · rw [if_neg h2]
      go_enter Tryz.func54, Tryz.ntmps54
      go_wp2_with (fail)
      go_ret
      exact ⟨rfl, rfl⟩
def sawM (ms : Nat → List Int × Int) (k sym : Nat) : Nat → List Int × Int := fun i => if i = k then sawF (ms k).1 (ms k).2 sym else ms i
set_option maxHeartbeats 4000000 in
theorem saw_calls (W : World) {gm : Nat} {gs bs : Nat → Nat} {ms : Nat → List Int × Int} {cl ord : Int} (h : Mds W gm gs bs ms cl ord) (hc : cl = 0 ∨ cl = 1 ∨ cl = 2) (ho : ord = 0 ∨ ord = 1) (sym : Nat)
    (hs : sym < (ms (askF cl ord)).1.length) (hl : (ms (askF cl ord)).1.length ≤ 1000) (hb : ∀ x ∈ (ms (askF cl ord)).1, 0 ≤ x ∧ x ≤ 100000) (ht : 0 ≤ (ms (askF cl ord)).2 ∧ (ms (askF cl ord)).2 ≤ 100000) (ha : askF cl ord < 3) :
    Calls Tryz.prog 24 #[.pointer (some ⟨gm, 0, none⟩), .int .i64 sym] W fun e W' => e = .returned (.tuple #[]) ∧ Mds W' gm gs bs (sawM ms (askF cl ord) sym) (clsF sym) ord ∧ Keep [gm, gs (askF cl ord), bs (askF cl ord)] W W' := by
  have cn := now_calls W h hc ho
  have H := Aside0.mk h
  have HB := Aside0.mk hb
  generalize hk : askF cl ord = k at *
  have hg1 := (h.d1 k ha).1
  have hb1 := (h.d1 k ha).2
  clear h hb
  go_enter Tryz.func24, Tryz.ntmps24
  go_wp2_with (fail)
  (with_reducible refine cn.mono ?_)
  clear cn
  rintro e w1 ⟨rfl, hw1⟩
  have H1 := H.out.keep (hw1 ▸ Keep.drew [] W : Keep [] W w1) (by simp) (by simp)
  have cS := Mo.saw_calls w1 (H1.M k ha) sym hs hl HB.out ht
  have HH := Aside0.mk H1
  have K1 := Aside0.mk (show Keep [] W w1 from hw1 ▸ Keep.drew [] W)
  clear hw1 H1 H
  go_wp2_with (fail)
  (with_reducible refine cS.mono ?_)
  clear cS
  rintro e w2 ⟨rfl, hM2, hK2⟩
  have cC := cls_calls w2 sym
  have hG2 : w2.heap[gm]? = _ := (hK2.block gm (blk_lt HH.out.G) (by simp [hg1, hb1])).trans HH.out.G
  have c3 : w2.cell? ⟨gm, 3, none⟩ = some (.int .i64 cl) := blk_cell hG2 3
  have f3 : w2.frozen? ⟨gm, 3, none⟩ = false := blk_frozen hG2 3
  have M2 := Aside0.mk hM2
  have K2 := Aside0.mk hK2
  have G2 := Go.Lib.hid hG2
  clear hM2 hK2 hG2
  go_wp2_with (fail)
  (with_reducible refine cC.mono ?_)
  clear cC
  rintro e w3 ⟨rfl, rfl⟩
  go_wp2_with (fail)
  go_end0
  refine ⟨rfl, ⟨?_, fun i hi => ?_, HH.out.d1, HH.out.d2⟩, ?_⟩
  · have h' := G2.out
    simp [World.setCell, Array.getElem?_modify, h']
  · have hd := HH.out.d1 i hi
    by_cases e : i = k
    · subst e
      have m1 := M2.out.keep (Keep.set (ks := [gm]) w3 (p := ⟨gm, 3, none⟩) (by simp) (.int .i64 (clsF sym))) (by simp only [List.mem_singleton]; exact fun e => hd.1 e.symm) (by simp only [List.mem_singleton]; exact fun e => hd.2 e.symm)
      have e : sawM ms i sym i = sawF (ms i).1 (ms i).2 sym := if_pos rfl
      rw [e]; exact m1
    · have h2 := HH.out.d2 i k hi ha e
      have h3 := HH.out.d2 k i ha hi (fun h => e h.symm)
      have m1 := ((HH.out.M i hi).keep K2.out (by simp only [List.mem_cons, List.mem_singleton, List.not_mem_nil, or_false, not_or]; exact ⟨h2.1, h2.2.2⟩) (by simp only [List.mem_cons, List.mem_singleton, List.not_mem_nil, or_false, not_or]; exact ⟨fun e => h3.2.2 e.symm, h2.2.1⟩)).keep (Keep.set (ks := [gm]) w3 (p := ⟨gm, 3, none⟩) (by simp) (.int .i64 (clsF sym))) (by simp only [List.mem_singleton]; exact fun e => hd.1 e.symm) (by simp only [List.mem_singleton]; exact fun e => hd.2 e.symm)
      have e' : sawM ms k sym i = ms i := if_neg e
      rw [e']; exact m1
  · exact ((K1.out.mono (by simp)).trans (K2.out.mono (by simp))).trans (Keep.set _ (p := ⟨gm, 3, none⟩) (by simp) _)
def newM : Nat → List Int × Int := fun _ => (List.replicate 258 1, 258)
structure MdI (W : World) (gm : Nat) (ord : Int) (i : Nat) (gs bs : Nat → Nat) (W' : World) : Prop where
  G : W'.heap[gm]? = some (.cells #[if 0 < i then .pointer (some ⟨gs 0, 0, none⟩) else .pointer none, if 1 < i then .pointer (some ⟨gs 1, 0, none⟩) else .pointer none, if 2 < i then .pointer (some ⟨gs 2, 0, none⟩) else .pointer none, .int .i64 0, .int .i64 ord] 83 (0, 0))
  M : ∀ j, j < i → Mdl W' (gs j) (bs j) (newM j).1 (newM j).2
  d1 : ∀ j, j < i → gm ≠ gs j ∧ gm ≠ bs j ∧ gs j < W'.heap.size ∧ bs j < W'.heap.size ∧ W.heap.size ≤ gs j ∧ W.heap.size ≤ bs j
  d2 : ∀ j k, j < i → k < i → j ≠ k → gs j ≠ gs k ∧ bs j ≠ bs k ∧ gs j ≠ bs k
  K : Keep [] W W'
  b : W.heap.size ≤ gm
theorem MdI.step {W W8 wr : World} {gm : Nat} {ord : Int} {i : Nat} {gs bs : Nat → Nat} (h : MdI W gm ord i gs bs wr) (hi : i < 3) {g b : Nat} (hM : Mdl W8 g b (newM i).1 (newM i).2) (hK : Keep [] wr W8) (hg : wr.heap.size ≤ g) (hb : wr.heap.size ≤ b) :
    MdI W gm ord (i + 1) (fun j => if j = i then g else gs j) (fun j => if j = i then b else bs j) (W8.setCell ⟨gm, i, none⟩ (.pointer (some ⟨g, 0, none⟩))) := by
  have hgm := blk_lt h.G
  have hG8 := (hK.block gm hgm (by simp)).trans h.G
  have hgl := blk_lt hM.G
  have hbl := blk_lt hM.R
  have hsz : (W8.setCell ⟨gm, i, none⟩ (.pointer (some ⟨g, 0, none⟩))).heap.size = W8.heap.size := by simp [World.setCell]
  have hKs := hK.size
  have hWs := h.K.size
  have kS : Keep [gm] W8 (W8.setCell ⟨gm, i, none⟩ (.pointer (some ⟨g, 0, none⟩))) := Keep.set W8 (p := ⟨gm, i, none⟩) (by simp) _
  refine ⟨?_, fun j hj => ?_, fun j hj => ?_, fun j k hj hk hne => ?_, ?_, h.b⟩
  · have hi3 : i = 0 ∨ i = 1 ∨ i = 2 := by omega
    rcases hi3 with rfl | rfl | rfl
    all_goals simp [World.setCell, Array.getElem?_modify, hG8]
  · by_cases e : j = i
    · subst e
      simp only [if_true]
      exact hM.keep kS (by simp only [List.mem_singleton]; omega) (by simp only [List.mem_singleton]; omega)
    · simp only [if_neg e]
      have hd := h.d1 j (by omega)
      exact ((h.M j (by omega)).keep hK (by simp) (by simp)).keep kS (by simp only [List.mem_singleton]; exact fun e => hd.1 e.symm) (by simp only [List.mem_singleton]; exact fun e => hd.2.1 e.symm)
  · by_cases e : j = i
    · subst e
      simp only [if_true, hsz]
      exact ⟨by omega, by omega, hgl, hbl, by omega, by omega⟩
    · simp only [if_neg e, hsz]
      have hd := h.d1 j (by omega)
      exact ⟨hd.1, hd.2.1, by omega, by omega, hd.2.2.2.2.1, hd.2.2.2.2.2⟩
  · by_cases e : j = i
    · have e2 : ¬ k = i := fun e2 => hne (by rw [e, e2])
      have hd := h.d1 k (by omega)
      simp only [if_pos e, if_neg e2]
      exact ⟨by omega, by omega, by omega⟩
    · have hd := h.d1 j (by omega)
      by_cases e2 : k = i
      · simp only [if_neg e, if_pos e2]
        exact ⟨by omega, by omega, by omega⟩
      · simp only [if_neg e, if_neg e2]
        exact h.d2 j k (by omega) (by omega) hne
  · have k1 := h.K.trans (hK.mono (by simp))
    exact ⟨k1.os, k1.tape, k1.output, by rw [hsz]; exact k1.size, fun k hk hn => (kS.block k (Nat.lt_of_lt_of_le hk k1.size) (by simp only [List.mem_singleton]; have := h.b; omega)).trans (k1.block k hk hn)⟩
set_option maxHeartbeats 4000000 in
theorem made_calls (W : World) (ord : Int) : Calls Tryz.prog 16 #[.int .i64 ord] W fun e W' => ∃ gm gs bs, e = .returned (.pointer (some ⟨gm, 0, none⟩)) ∧ Mds W' gm gs bs newM 0 ord ∧ Keep [] W W' ∧ W.heap.size ≤ gm ∧ ∀ i, i < 3 → W.heap.size ≤ gs i ∧ W.heap.size ≤ bs i := by
  go_enter Tryz.func16, Tryz.ntmps16
  go_wp2_with (fail)
  have I0 : Aside0 (MdI W W.heap.size ord 0 (fun _ => 0) (fun _ => 0) (W.alloc (.cells #[.pointer none, .pointer none, .pointer none, .int .i64 0, .int .i64 ord] 83))) :=
    ⟨World.alloc_heap_new W _, fun j hj => by omega, fun j hj => by omega, fun j k hj => by omega, Keep.below ((Below.refl _ W).alloc (Nat.le_refl _) _) [], Nat.le_refl _⟩
  obtain ⟨gm, hgm⟩ : ∃ gm, W.heap.size = gm := ⟨_, rfl⟩
  obtain ⟨w1, hw1⟩ : ∃ w1, W.alloc (.cells #[.pointer none, .pointer none, .pointer none, .int .i64 0, .int .i64 ord] 83) = w1 := ⟨_, rfl⟩
  rw [hw1] at I0 ⊢
  rw [hgm] at I0 ⊢
  clear hw1 hgm
  go_loopw [8] (fun v8 wr => ∃ (i : Nat) (gs bs : Nat → Nat), v8 = .int .i64 i ∧ Aside0 (i ≤ 3) ∧ Aside0 (MdI W gm ord i gs bs wr)) (fun v8 _ => 3 - (intOf v8).toNat)
  case atStart => exact ⟨0, _, _, rfl, ⟨by omega⟩, I0⟩
  case round =>
    obtain ⟨i, gs, bs, rfl, hi, hI⟩ := hrel
    have hi3 : i < 3 ∨ i = 3 := by have := hi.out; omega
    rcases hi3 with hlt | rfl
    · have cN := Aside0.mk (show Calls Tryz.prog 45 #[.int .i64 258] wr.drew (fun e W' => ∃ g b, e = .returned (.pointer (some ⟨g, 0, none⟩)) ∧ Mdl W' g b (newM i).1 (newM i).2 ∧ wr.heap.size ≤ g ∧ wr.heap.size ≤ b ∧ Keep [] wr W') from (Mo.new_calls wr.drew 258 (by omega) (by omega)).mono (fun e W' ⟨g, b, h1, h2, h3, h4, h5⟩ => ⟨g, b, h1, h2, by simpa using h3, by simpa using h4, (Keep.drew [] wr).trans h5⟩))
      have hSt := Aside0.mk (fun (W8 : World) (g b : Nat) (hM : Mdl W8 g b (newM i).1 (newM i).2) (hK : Keep [] wr W8) (hg : wr.heap.size ≤ g) (hb : wr.heap.size ≤ b) => hI.out.step hlt hM hK hg hb)
      have hC := Aside0.mk (show ∀ W8, Keep [] wr W8 → W8.cell? ⟨gm, i, none⟩ = some (.pointer none) ∧ W8.frozen? ⟨gm, i, none⟩ = false from fun W8 hK => by
        have hG8 := (hK.block gm (blk_lt hI.out.G) (by simp)).trans hI.out.G
        refine ⟨?_, blk_frozen hG8 i⟩
        rw [blk_cell hG8 i]
        have hi3 : i = 0 ∨ i = 1 ∨ i = 2 := by omega
        rcases hi3 with rfl | rfl | rfl <;> rfl)
      go_wp2_with (fail)
      go_region_with (go_at_call 45; (with_reducible refine cN.out.mono ?_; rintro e w8 ⟨g, b, rfl, hM, hg, hb, hK⟩; obtain ⟨hc8, hf8⟩ := hC.out w8 hK; have nI := Aside0.mk (hSt.out w8 g b hM hK hg hb); clear hM hK hg hb))
      go_wp2_with (fail)
      go_roundw
      case rel => exact ⟨i + 1, _, _, by go_num, ⟨by omega⟩, nI⟩
      case measure => simp [intOf]; omega
    · go_wp2_with (fail)
      go_ret
      have h := hI.out
      exact ⟨gm, rfl, gs, bs, ⟨h.G, h.M, fun i hi => ⟨(h.d1 i hi).1, (h.d1 i hi).2.1⟩, h.d2⟩, h.K, h.b, fun i hi => (h.d1 i hi).2.2.2.2⟩
end Go.Proofs.YtbbpplnnegdenaaGreat.Mp
end
section
set_option linter.unusedVariables false
set_option linter.unusedSimpArgs false
namespace Go.Proofs.YtbbpplnnegdenaaGreat.Wr
open Go Go.RowKit Go.Shelf Go.Proofs Go.Proofs.YtbbpplnnegdenaaGreatW.PrintWords Go.Proofs.YtbbpplnnegdenaaGreat.So Go.Proofs.YtbbpplnnegdenaaGreat.St Go.Proofs.YtbbpplnnegdenaaGreat.Mo
structure Wtr (W : World) (gw B0 : Nat) (bs : List Int) (n r : Int) : Prop where
 G : ∃ v, W.heap[gw]? = some (.cells #[v, .int .u64 n, .int .u64 r] 87 (0, 0)) ∧ Kd.R (Kd.int .u8) 5 W B0 (fun k => B0 ≤ k) v bs
 lt : gw < B0
 hb : B0 ≤ W.heap.size
structure KeepW (gw B0 : Nat) (W W' : World) : Prop where
 os : W'.os = W.os
 tape : W'.tape = W.tape
 output : W'.output = W.output
 size : W.heap.size ≤ W'.heap.size
 block : ∀ k, k < B0 → k ≠ gw → W'.heap[k]? = W.heap[k]?
theorem KeepW.refl (gw B0 : Nat) (W : World) : KeepW gw B0 W W := ⟨rfl, rfl, rfl, Nat.le_refl _, fun _ _ _ => rfl⟩
theorem KeepW.trans {gw B0 : Nat} {A B C : World} (h : KeepW gw B0 A B) (k : KeepW gw B0 B C) : KeepW gw B0 A C :=
 ⟨k.os.trans h.os, k.tape.trans h.tape, k.output.trans h.output, Nat.le_trans h.size k.size, fun x hx hn => (k.block x hx hn).trans (h.block x hx hn)⟩
theorem KeepW.drew (gw B0 : Nat) (W : World) : KeepW gw B0 W W.drew := ⟨rfl, rfl, rfl, Nat.le_refl _, fun _ _ _ => rfl⟩
theorem KeepW.drewN (gw B0 : Nat) (W : World) (n : Nat) : KeepW gw B0 W (W.drewN n) := ⟨rfl, rfl, rfl, Nat.le_refl _, fun _ _ _ => rfl⟩
theorem KeepW.set {gw B0 : Nat} (W : World) {p : Addr} (hp : p.block = gw ∨ B0 ≤ p.block) (v : Value) : KeepW gw B0 W (W.setCell p v) :=
 ⟨rfl, rfl, rfl, by simp [World.setCell], fun k hk hn => Below.heap_setCell _ _ _ _ (fun e => by rcases hp with h | h; exact hn (by rw [e]; exact h); omega)⟩
theorem KeepW.below {gw B0 : Nat} {W W' : World} (h : Below B0 W W') : KeepW gw B0 W W' := ⟨h.os, h.tape, h.output, h.size, fun k hk _ => h.block k hk⟩
theorem Wtr.keep {W W' : World} {gw B0 : Nat} {bs : List Int} {n r : Int} (h : Wtr W gw B0 bs n r) {ks : List Nat} (hk : Keep ks W W') (hg : gw ∉ ks) (hl : ∀ k ∈ ks, k < B0) : Wtr W' gw B0 bs n r := by
 obtain ⟨⟨v, hG, hR⟩, lt, hb⟩ := h
 exact ⟨⟨v, (hk.block gw (by omega) hg).trans hG, Kd.R_step hR (fun k ho hlt => hk.block k hlt (fun hm => by have := hl k hm; omega))⟩, lt, Nat.le_trans hb hk.size⟩
theorem Wtr.setN {W : World} {gw B0 : Nat} {bs : List Int} {n r : Int} (h : Wtr W gw B0 bs n r) (n' : Int) : Wtr (W.setCell ⟨gw, 1, none⟩ (.int .u64 n')) gw B0 bs n' r := by
 obtain ⟨⟨v, hG, hR⟩, lt, hb⟩ := h
 exact ⟨⟨v, by simp [World.setCell, Array.getElem?_modify, hG], Kd.R_far (p := ⟨gw, 1, none⟩) hR (fun k hk => by show k ≠ gw; omega) _⟩, lt, by simpa [World.setCell] using hb⟩
theorem Wtr.setR {W : World} {gw B0 : Nat} {bs : List Int} {n r : Int} (h : Wtr W gw B0 bs n r) (r' : Int) : Wtr (W.setCell ⟨gw, 2, none⟩ (.int .u64 r')) gw B0 bs n r' := by
 obtain ⟨⟨v, hG, hR⟩, lt, hb⟩ := h
 exact ⟨⟨v, by simp [World.setCell, Array.getElem?_modify, hG], Kd.R_far (p := ⟨gw, 2, none⟩) hR (fun k hk => by show k ≠ gw; omega) _⟩, lt, by simpa [World.setCell] using hb⟩
set_option maxHeartbeats 2000000 in
theorem span_calls (W : World) (low size total : Int) (h0 : total ≤ 65536) (h1 : 0 ≤ low) (h2 : 1 ≤ size) (h3 : low + size ≤ total) : Calls Tryz.prog 51 #[.int .i64 low, .int .i64 size, .int .i64 total] W fun e W' => e = .returned (.bool true) ∧ W' = W := by
 have h4 : size ≤ total - low := by omega
 go_enter Tryz.func51, Tryz.ntmps51
 go_wp2_with (fail)
 go_ret
 exact ⟨rfl, rfl⟩
set_option maxHeartbeats 2000000 in
theorem new_calls (W : World) : Calls Tryz.prog 17 #[] W fun e W' => e = .returned (.pointer (some ⟨W.heap.size, 0, none⟩)) ∧ W'.heap[W.heap.size]? = some (.cells #[.slice none 0 0, .int .u64 0, .int .u64 4294967295] 87 (0, 0)) ∧ Keep [] W W' ∧ W.heap.size < W'.heap.size := by
 go_enter Tryz.func17, Tryz.ntmps17
 go_wp2_with (fail)
 go_ret
 exact ⟨rfl, World.alloc_heap_new W _, Keep.below ((Below.refl _ W).alloc (Nat.le_refl _) _) [], by simp⟩
def carR : List Int → List Int
 | [] => []
 | x :: xs => if (x + 1) % 256 = 0 then 0 :: carR xs else (x + 1) % 256 :: xs
def carF (bs : List Int) : List Int := (carR bs.reverse).reverse
theorem carR_length (l : List Int) : (carR l).length = l.length := by
 induction l with
 | nil => rfl
 | cons x xs ih => unfold carR; split <;> simp [ih]
theorem carF_length (l : List Int) : (carF l).length = l.length := by unfold carF; rw [List.length_reverse, carR_length, List.length_reverse]
theorem carF_snoc (l : List Int) (x : Int) : carF (l ++ [x]) = if (x + 1) % 256 = 0 then carF l ++ [0] else l ++ [(x + 1) % 256] := by
 unfold carF
 rw [List.reverse_append]
 simp only [List.reverse_cons, List.reverse_nil, List.nil_append, List.singleton_append, List.cons_append]
 rw [carR]
 split <;> simp
theorem take_snoc {bs : List Int} {i : Nat} (h : i < bs.length) : bs.take (i + 1) = bs.take i ++ [bs.getD i 0] := by
 rw [List.take_succ_eq_append_getElem h, List.getD_eq_getElem?_getD, List.getElem?_eq_getElem h]; rfl
theorem set_mid {bs : List Int} {i : Nat} (h : i < bs.length) (k : Nat) (y : Int) : (bs.take (i + 1) ++ List.replicate k 0).set i y = bs.take i ++ [y] ++ List.replicate k 0 := by
 have hl : (bs.take i).length = i := by rw [List.length_take]; omega
 rw [take_snoc h, List.append_assoc, List.set_append_right _ _ (by omega), hl, Nat.sub_self, List.append_assoc]; rfl
set_option maxHeartbeats 4000000 in
theorem carries_calls (W : World) {gw B0 : Nat} {bs : List Int} {n r : Int} (h : Wtr W gw B0 bs n r) (hby : ∀ x ∈ bs, 0 ≤ x ∧ x < 256) (hlen : bs.length ≤ 17592186044416) :
  Calls Tryz.prog 52 #[.pointer (some ⟨gw, 0, none⟩)] W fun e W' => e = .returned (.tuple #[]) ∧ Wtr W' gw B0 (carF bs) n r ∧ KeepW gw B0 W W' := by
 obtain ⟨⟨v, hG, hR⟩, lt, hb⟩ := h
 obtain ⟨A, c, rfl⟩ := Kd.R_slice hR
 have c0 : W.cell? ⟨gw, 0, none⟩ = some (.slice A bs.length c) := blk_cell hG 0
 have HG := Go.Lib.hid hG
 have HR := Aside0.mk hR
 have HBY := Aside0.mk hby
 clear hG hR hby
 go_enter Tryz.func52, Tryz.ntmps52
 go_wp2_with (fail)
 go_loopw [2] (fun v2 wr => ∃ j : Nat, v2 = .int .i64 ((j : Int) - 1) ∧ Aside0 (j ≤ bs.length) ∧ Aside0 (wr.heap[gw]? = W.heap[gw]?) ∧ Aside0 (Kd.R (Kd.int .u8) 5 wr B0 (fun k => B0 ≤ k) (.slice A bs.length c) (bs.take j ++ List.replicate (bs.length - j) 0)) ∧ Aside0 (carF bs = carF (bs.take j) ++ List.replicate (bs.length - j) 0) ∧ Aside0 (KeepW gw B0 W wr)) (fun v2 _ => (intOf v2 + 1).toNat)
 case atStart => exact ⟨bs.length, by go_num, ⟨by omega⟩, ⟨rfl⟩, ⟨by simpa using HR.out⟩, ⟨by simp⟩, ⟨KeepW.refl _ _ _⟩⟩
 case round =>
  obtain ⟨j, rfl, hj, hg, hR, hC, hK⟩ := hrel
  have d0 : wr.cell? ⟨gw, 0, none⟩ = some (.slice A bs.length c) := blk_cell (hg.out.trans HG.out) 0
  rcases Nat.eq_zero_or_pos j with rfl | hpos
  ·go_wp2_with (fail)
   go_end0
   refine ⟨rfl, ⟨⟨_, hg.out.trans HG.out, ?_⟩, lt, Nat.le_trans hb hK.out.size⟩, hK.out⟩
   have h1 := hR.out
   have h2 := hC.out
   rw [List.take_zero, show carF [] = [] from rfl] at h2
   rw [h2]; exact h1
  ·obtain ⟨i, rfl⟩ : ∃ i, j = i + 1 := ⟨j - 1, by omega⟩
   have hil : i < bs.length := by have := hj.out; omega
   obtain ⟨g, rfl, hgB⟩ : ∃ g, A = some ⟨g, 0, none⟩ ∧ B0 ≤ g := by
    obtain ⟨inner, _, ho⟩ := Kd.R_own HR.out
    rcases ho with ho | ⟨g, cap, cur, ho, hg, _⟩
    ·exfalso; injection ho.1; omega
    ·injection ho with h1; exact ⟨g, h1, hg⟩
   have hc := Kd.R_celln (d := 0) (h1 := fun _ => rfl) (enc := Value.int .u8) hR.out i (by omega) (by omega)
   have hrd : rdOf 0 (bs.take (i + 1) ++ List.replicate (bs.length - (i + 1)) 0) i = bs.getD i 0 := by
    unfold rdOf
    rw [Int.toNat_natCast, List.getD_eq_getElem?_getD, List.getElem?_append_left (by rw [List.length_take]; omega), List.getElem?_take_of_lt (by omega), ← List.getD_eq_getElem?_getD]
   rw [hrd, Int.toNat_natCast] at hc
   obtain ⟨cI, fI⟩ := hc
   have hp := fun y : Int => Kd.R_putn (h1 := fun _ => rfl) (enc := Value.int .u8) hR.out i y
   have hx := HBY.out (bs.getD i 0) (by simp [List.getD_eq_getElem?_getD, hil])
   obtain ⟨x, hxe⟩ : ∃ x, bs.getD i 0 = x := ⟨_, rfl⟩
   rw [hxe] at cI hx
   have HP := Aside0.mk hp
   have HXE := Aside0.mk hxe
   clear hp hxe hrd
   have hsm := set_mid hil (bs.length - (i + 1))
   have hsn := take_snoc hil
   have hC' := hC.out
   rw [HXE.out] at hsn
   rw [hsn, carF_snoc] at hC'
   have HSM := Aside0.mk hsm
   have HC' := Aside0.mk hC'
   clear hsm hsn hC'
   have hgg : gw ≠ g := by omega
   by_cases h255 : (x + 1) % 256 = 0
   ·have hw : IntKind.u8.wrap (x + 1) = 0 := by rw [IntKind.wrap_u8]; exact h255
    go_wp2_with (fail)
    refine ⟨⟨i, rfl, ⟨by omega⟩, ⟨(Below.heap_setCell _ _ _ _ hgg).trans hg.out⟩, ⟨?_⟩, ⟨?_⟩, ⟨hK.out.trans (KeepW.set _ (.inr hgB) _)⟩⟩, by simp [intOf]⟩
    ·have h1 := HP.out 0
     rw [Int.toNat_natCast, HSM.out] at h1
     rw [show bs.length - i = bs.length - (i + 1) + 1 by omega, List.replicate_succ]
     rw [List.append_assoc] at h1
     exact h1
    ·have h1 := HC'.out
     rw [if_pos h255] at h1
     rw [show bs.length - i = bs.length - (i + 1) + 1 by omega, List.replicate_succ, h1]
     simp
   ·have hw : IntKind.u8.wrap (x + 1) = x + 1 := by rw [IntKind.wrap_u8]; omega
    have hne : x + 1 ≠ 0 := by omega
    go_wp2_with (fail)
    refine bodyPost_ret (results_none rfl _ _ _) rfl ?_
    refine ⟨rfl, ⟨⟨_, (Below.heap_setCell _ _ _ _ hgg).trans (hg.out.trans HG.out), ?_⟩, lt, Nat.le_trans hb (by simpa [World.setCell] using hK.out.size)⟩, hK.out.trans (KeepW.set _ (.inr hgB) _)⟩
    have h1 := HP.out (x + 1)
    have h2 := HC'.out
    rw [if_neg h255, show (x + 1) % 256 = x + 1 by omega] at h2
    rw [Int.toNat_natCast, HSM.out] at h1
    rw [h2]; exact h1
theorem info5 : (Tryz.prog.info? 5).map (fun i => (i.zero, i.size, i.bytes)) = some (some (.int .u8 0), 1, 1) := by kernel_rfl
def shW : Nat → List Int → Int → Int → List Int × Int × Int
 | 0, bs, n, r => (bs, n, r)
 | k + 1, bs, n, r => if r < 16777216 then shW k (bs ++ [n / 16777216]) (n * 256 % 4294967296) (r * 256) else (bs, n, r)
def putF (s : List Int × Int × Int) (low size total : Int) : List Int × Int × Int :=
 if s.2.1 + s.2.2 / total * low < 4294967296 then shW 3 s.1 (s.2.1 + s.2.2 / total * low) (s.2.2 / total * size)
 else shW 3 (carF s.1) (s.2.1 + s.2.2 / total * low - 4294967296) (s.2.2 / total * size)
theorem Wtr.cell1 {W : World} {gw B0 : Nat} {bs : List Int} {n r : Int} (h : Wtr W gw B0 bs n r) : W.cell? ⟨gw, 1, none⟩ = some (.int .u64 n) := by
 obtain ⟨⟨v, hG, hR⟩, lt, hb⟩ := h; exact blk_cell hG 1
theorem Wtr.cell2 {W : World} {gw B0 : Nat} {bs : List Int} {n r : Int} (h : Wtr W gw B0 bs n r) : W.cell? ⟨gw, 2, none⟩ = some (.int .u64 r) := by
 obtain ⟨⟨v, hG, hR⟩, lt, hb⟩ := h; exact blk_cell hG 2
theorem Wtr.froz {W : World} {gw B0 : Nat} {bs : List Int} {n r : Int} (h : Wtr W gw B0 bs n r) (i : Nat) : W.frozen? ⟨gw, i, none⟩ = false := by
 obtain ⟨⟨v, hG, hR⟩, lt, hb⟩ := h; exact blk_frozen hG i
theorem Wtr.shift {wr w5 : World} {gw B0 : Nat} {bs : List Int} {n r : Int} {v v5 : Value} (hlt : gw < B0) (hb : B0 ≤ wr.heap.size) (nG : w5.heap[gw]? = some (.cells #[v, .int .u64 n, .int .u64 r] 87 (0, 0))) (nR : Kd.R (Kd.int .u8) 5 w5 B0 (fun k => B0 ≤ k) v5 bs) (nB : Below B0 wr w5) (n' r' : Int) :
  Wtr (((w5.setCell ⟨gw, 0, none⟩ v5).setCell ⟨gw, 1, none⟩ (.int .u64 n')).setCell ⟨gw, 2, none⟩ (.int .u64 r')) gw B0 bs n' r' ∧ KeepW gw B0 wr (((w5.setCell ⟨gw, 0, none⟩ v5).setCell ⟨gw, 1, none⟩ (.int .u64 n')).setCell ⟨gw, 2, none⟩ (.int .u64 r')) := by
 have h0 : Wtr (w5.setCell ⟨gw, 0, none⟩ v5) gw B0 bs n r := ⟨⟨v5, by simp [World.setCell, Array.getElem?_modify, nG], Kd.R_far (p := ⟨gw, 0, none⟩) nR (fun k hk => by show k ≠ gw; omega) _⟩, hlt, by simpa [World.setCell] using Nat.le_trans hb nB.size⟩
 exact ⟨(h0.setN n').setR r', (((KeepW.below nB).trans (KeepW.set _ (p := ⟨gw, 0, none⟩) (.inl rfl) _)).trans (KeepW.set _ (p := ⟨gw, 1, none⟩) (.inl rfl) _)).trans (KeepW.set _ (p := ⟨gw, 2, none⟩) (.inl rfl) _)⟩
set_option maxHeartbeats 4000000 in
theorem put_calls (W : World) {gw B0 : Nat} {bs : List Int} {n r : Int} (h : Wtr W gw B0 bs n r) (hby : ∀ x ∈ bs, 0 ≤ x ∧ x < 256) (hlen : bs.length ≤ 8796093022208) (hn : 0 ≤ n ∧ n < 4294967296) (hr : 16777216 ≤ r ∧ r < 4294967296)
  (low size total : Int) (h0 : total ≤ 65536) (h1 : 0 ≤ low) (h2 : 1 ≤ size) (h3 : low + size ≤ total) :
  Calls Tryz.prog 22 #[.pointer (some ⟨gw, 0, none⟩), .int .i64 low, .int .i64 size, .int .i64 total] W fun e W' => e = .returned (.bool true) ∧ Wtr W' gw B0 (putF (bs, n, r) low size total).1 (putF (bs, n, r) low size total).2.1 (putF (bs, n, r) low size total).2.2 ∧ KeepW gw B0 W W' := by
 have cS := span_calls W low size total h0 h1 h2 h3
 unfold putF
 dsimp only
 obtain ⟨q, hq⟩ : ∃ q, r / total = q := ⟨_, rfl⟩
 rw [hq]
 have hqt : q * total ≤ r := by rw [← hq]; exact Int.ediv_mul_le r (by omega)
 have hq1 : 256 ≤ q := by
  rw [← hq]
  exact Int.le_ediv_of_mul_le (by omega) (by omega)
 have hsum : q * low + q * size ≤ r := by
  rw [← Int.mul_add]; exact Int.le_trans (Int.mul_le_mul_of_nonneg_left h3 (by omega)) hqt
 have hl0 : 0 ≤ q * low := Int.mul_nonneg (by omega) h1
 have hs0 : 256 ≤ q * size := Int.le_trans (by omega) (Int.mul_le_mul_of_nonneg_left h2 (by omega))
 obtain ⟨ql, hql⟩ : ∃ x, q * low = x := ⟨_, rfl⟩
 obtain ⟨qs, hqs⟩ : ∃ x, q * size = x := ⟨_, rfl⟩
 rw [hql] at hl0 hsum ⊢
 rw [hqs] at hs0 hsum ⊢
 have hw1 : IntKind.u64.wrap (q * low) = ql := by rw [hql, IntKind.wrap_u64]; omega
 have hw2 : IntKind.u64.wrap (q * size) = qs := by rw [hqs, IntKind.wrap_u64]; omega
 have hw3 : IntKind.u64.wrap (n + ql) = n + ql := by rw [IntKind.wrap_u64]; omega
 clear hqt
 have H := Aside0.mk h
 have HLT := Aside0.mk h.lt
 have HQS := Aside0.mk hs0
 have c1 := h.cell1
 have c2 := h.cell2
 have f1 := h.froz 1
 have f2 := h.froz 2
 clear h
 have HBY := Aside0.mk hby
 clear hby
 by_cases hov : n + ql < 4294967296
 ·rw [if_pos hov]
  have hd : (n + ql) / 4294967296 = 0 := by omega
  obtain ⟨m, hm⟩ : ∃ m, n + ql = m := ⟨_, rfl⟩
  have hm0 : 0 ≤ m ∧ m < 4294967296 := by omega
  rw [hm]
  rw [hm] at hd hw3
  obtain ⟨b1, hb1⟩ : ∃ b1, b1 = bs := ⟨bs, rfl⟩
  rw [← hb1]
  have HBL : Aside0 (b1.length = bs.length) := ⟨by rw [hb1]⟩
  have HB1 := Aside0.mk hb1
  clear hov hb1
  go_enter Tryz.func22, Tryz.ntmps22
  go_wp2_with (fail)
  (with_reducible refine cS.mono ?_)
  clear cS
  rintro e w1 ⟨rfl, rfl⟩
  go_wp2_with (fail)
  have H2 := Aside0.mk (((H.out.setN m).setR qs))
  have K2 := Aside0.mk ((KeepW.set (gw := gw) (B0 := B0) w1 (p := ⟨gw, 1, none⟩) (.inl rfl) (.int .u64 m)).trans (KeepW.set _ (p := ⟨gw, 2, none⟩) (.inl rfl) (.int .u64 qs)))
  obtain ⟨w2, hw2⟩ : ∃ w2, (w1.setCell ⟨gw, 1, none⟩ (.int .u64 m)).setCell ⟨gw, 2, none⟩ (.int .u64 qs) = w2 := ⟨_, rfl⟩
  rw [hw2] at H2 K2 ⊢
  rw [← HB1.out] at H2
  have HQ2 : Aside0 (qs ≤ 4294967295) := ⟨by omega⟩
  clear hw2 c1 c2 f1 f2 hw1 hw3 hd hq hql hqs hsum H HB1 hm
  go_loopw [] (fun wr => ∃ (j : Nat) (bs' : List Int) (n' r' : Int), Aside0 (j ≤ 2) ∧ Aside0 (Wtr wr gw B0 bs' n' r') ∧ Aside0 (0 ≤ n' ∧ n' < 4294967296) ∧ Aside0 (256 ^ (j + 1) ≤ r' ∧ r' < 4294967296) ∧ Aside0 (shW (3 - j) bs' n' r' = shW 3 b1 m qs) ∧ Aside0 (bs'.length ≤ b1.length + j) ∧ Aside0 (KeepW gw B0 w1 wr)) (fun wr => (4294967296 - intOf ((wr.cell? ⟨gw, 2, none⟩).getD undef)).toNat)
  case atStart => exact ⟨0, b1, m, qs, ⟨by omega⟩, H2, ⟨hm0⟩, ⟨by have := HQS.out; have := HQ2.out; omega⟩, ⟨rfl⟩, ⟨by omega⟩, K2⟩
  case round =>
   obtain ⟨j, bs', n', r', hj, hH, hN, hR, hS, hL, hK⟩ := hrel
   have c1 := hH.out.cell1
   have c2 := hH.out.cell2
   have f1 := hH.out.froz 1
   have f2 := hH.out.froz 2
   by_cases hlt : r' < 16777216
   ·obtain ⟨⟨v, hG, hRw⟩, hlt0, hb⟩ := hH.out
    obtain ⟨A, c, rfl⟩ := Kd.R_slice hRw
    have c0 : wr.cell? ⟨gw, 0, none⟩ = some (.slice A bs'.length c) := blk_cell hG 0
    have HG := Go.Lib.hid hG
    have HRW := Aside0.mk hRw
    have HB := Aside0.mk hb
    have hR' := hR.out
    have hj2 : j < 2 := by
     rcases Nat.lt_or_ge j 2 with h | h
     ·exact h
     ·exfalso
      have : j = 2 := by have := hj.out; omega
      subst this
      have := hR'.1; omega
    have HR0 : Aside0 (256 ^ (j + 1 + 1) ≤ r' * 256 ∧ r' * 256 < 4294967296 ∧ 0 < r') := ⟨by
     have hp : (0 : Int) < 256 ^ (j + 1) := Int.pow_pos (by decide)
     rw [Int.pow_succ]; omega⟩
    have HJ := Aside0.mk hj2
    clear hR'
    have HLN : Aside0 (bs'.length + 1 ≤ 140737488355328) := ⟨by have := hL.out; have := hj.out; have := HBL.out; omega⟩
    have hws : IntKind.u64.wrap (n' * 256) = n' * 256 := by rw [IntKind.wrap_u64]; have := hN.out; omega
    have hwr : IntKind.u64.wrap (r' * 256) = r' * 256 := by rw [IntKind.wrap_u64]; have := HR0.out; omega
    have hwn : IntKind.u8.wrap (n' / 16777216) = n' / 16777216 := by rw [IntKind.wrap_u8]; have := hN.out; omega
    have hwa : bits .and .u64 (n' * 256) 4294967295 = n' * 256 % 4294967296 := and_low32 _ (by have := hN.out; omega) (by have := hN.out; omega)
    have hgs : gw < wr.heap.size := by omega
    clear hG hRw hb hj2
    go_wp2_with (fail)
    go_region_law (
     refine Kd.R_append_step (W := wr.drew) (Kd.int .u8) (w0 := wr) B0 rfl (.tmp 75) (.tmp 82) 22 5 (.int .u8 0) 1 rfl Tryz.underlying22 info5 rfl (by decide) (by decide) (.slice A bs'.length c) bs' (n' / 16777216) [.int .u8 (n' / 16777216)] (fun k => B0 ≤ k) (fun _ => False) rfl rfl rfl (fun _ hk => hk.elim) (fun k hk => Nat.le_trans HB.out hk) (Kd.R_drew HRW.out) (Below.drew (Below.refl _ _)) HB.out (by rw [Nat.mul_one]; exact HLN.out) ?_
     intro v1 w5 hR5 hB5 _ _
     obtain ⟨A5, c5, rfl⟩ := Kd.R_slice hR5
     have nG := Aside0.mk (show w5.heap[gw]? = some (.cells #[.slice A bs'.length c, .int .u64 n', .int .u64 r'] 87 (0, 0)) from (hB5.block gw HLT.out).trans HG.out)
     have d0 : w5.cell? ⟨gw, 0, none⟩ = some (.slice A bs'.length c) := blk_cell nG.out 0
     have e0 : w5.frozen? ⟨gw, 0, none⟩ = false := blk_frozen nG.out 0
     have d1 : w5.cell? ⟨gw, 1, none⟩ = some (.int .u64 n') := blk_cell nG.out 1
     have d2 : w5.cell? ⟨gw, 2, none⟩ = some (.int .u64 r') := blk_cell nG.out 2
     have e1 : w5.frozen? ⟨gw, 1, none⟩ = false := blk_frozen nG.out 1
     have e2 : w5.frozen? ⟨gw, 2, none⟩ = false := blk_frozen nG.out 2
     have nF := Aside0.mk (Wtr.shift HLT.out HB.out nG.out hR5 hB5 (n' * 256 % 4294967296) (r' * 256))
     clear hR5 hB5)
    all_goals (go_wp2_with (fail))
    all_goals (
     have hF := nF.out
     rw [List.length_append, List.length_singleton] at hF
     refine ⟨⟨j + 1, bs' ++ [n' / 16777216], n' * 256 % 4294967296, r' * 256, ⟨HJ.out⟩, ⟨hF.1⟩, ⟨by omega⟩, ⟨⟨HR0.out.1, HR0.out.2.1⟩⟩, ⟨?_⟩, ⟨?_⟩, ⟨hK.out.trans hF.2⟩⟩, ?_⟩
     ·rw [← hS.out]
      have hj2 := HJ.out
      obtain ⟨t, ht⟩ : ∃ t, 3 - j = t + 1 := ⟨2 - j, by omega⟩
      rw [ht, shW, if_pos hlt, show 3 - (j + 1) = t by omega]
     ·rw [List.length_append, List.length_singleton]; have := hL.out; omega
     ·rw [hF.1.cell2, c2]
      have := HR0.out
      simp [intOf]; omega)
   ·go_wp2_with (fail)
    go_ret
    refine ⟨rfl, ?_, hK.out⟩
    have h1 := hS.out
    have e : shW (3 - j) bs' n' r' = (bs', n', r') := by
     obtain ⟨t, ht⟩ : ∃ t, 3 - j = t + 1 := ⟨2 - j, by have := hj.out; omega⟩
     rw [ht, shW, if_neg (by omega)]
    rw [← h1, e]; exact hH.out
 ·rw [if_neg hov]
  have hd : 0 < (n + ql) / 4294967296 := by omega
  have hd' : (n + ql) / 4294967296 ≠ 0 := by omega
  have hmk : bits .and .u64 (n + ql) 4294967295 = n + ql - 4294967296 := by rw [and_low32 _ (by omega) (by omega)]; omega
  obtain ⟨m, hm⟩ : ∃ m, n + ql - 4294967296 = m := ⟨_, rfl⟩
  have hm0 : 0 ≤ m ∧ m < 4294967296 := by omega
  rw [hm] at hmk ⊢
  obtain ⟨b1, hb1⟩ : ∃ b1, carF bs = b1 := ⟨_, rfl⟩
  rw [hb1]
  have HBL : Aside0 (b1.length = bs.length) := ⟨by rw [← hb1, carF_length]⟩
  have cC := carries_calls ((W.setCell ⟨gw, 1, none⟩ (.int .u64 (n + ql))).setCell ⟨gw, 1, none⟩ (.int .u64 m)) ((H.out.setN (n + ql)).setN m) HBY.out (by omega)
  rw [hb1] at cC
  clear hm hb1 hov
  go_enter Tryz.func22, Tryz.ntmps22
  go_wp2_with (fail)
  (with_reducible refine cS.mono ?_)
  clear cS
  rintro e w1 ⟨rfl, rfl⟩
  go_wp2_with (fail)
  (with_reducible refine cC.mono ?_)
  clear cC
  rintro e w3 ⟨rfl, H3, K3⟩
  have K3' := Aside0.mk (((KeepW.set (gw := gw) (B0 := B0) w1 (p := ⟨gw, 1, none⟩) (.inl rfl) (.int .u64 (n + ql))).trans (KeepW.set _ (p := ⟨gw, 1, none⟩) (.inl rfl) (.int .u64 m))).trans K3)
  have d1 := H3.cell1
  have d2 := H3.cell2
  have e1 := H3.froz 1
  have e2 := H3.froz 2
  have H3' := Aside0.mk H3
  clear H3 K3 c1 c2 f1 f2
  go_wp2_with (fail)
  have H2 := Aside0.mk (H3'.out.setR qs)
  have K2 := Aside0.mk (K3'.out.trans (KeepW.set _ (p := ⟨gw, 2, none⟩) (.inl rfl) (.int .u64 qs)))
  obtain ⟨w2, hw2⟩ : ∃ w2, w3.setCell ⟨gw, 2, none⟩ (.int .u64 qs) = w2 := ⟨_, rfl⟩
  rw [hw2] at H2 K2 ⊢
  have HQ2 : Aside0 (qs ≤ 4294967295) := ⟨by omega⟩
  clear hw2 d1 d2 e1 e2 hw1 hw3 hd hd' hmk hq hql hqs hsum H H3' K3'
  go_loopw [] (fun wr => ∃ (j : Nat) (bs' : List Int) (n' r' : Int), Aside0 (j ≤ 2) ∧ Aside0 (Wtr wr gw B0 bs' n' r') ∧ Aside0 (0 ≤ n' ∧ n' < 4294967296) ∧ Aside0 (256 ^ (j + 1) ≤ r' ∧ r' < 4294967296) ∧ Aside0 (shW (3 - j) bs' n' r' = shW 3 b1 m qs) ∧ Aside0 (bs'.length ≤ b1.length + j) ∧ Aside0 (KeepW gw B0 w1 wr)) (fun wr => (4294967296 - intOf ((wr.cell? ⟨gw, 2, none⟩).getD undef)).toNat)
  case atStart => exact ⟨0, b1, m, qs, ⟨by omega⟩, H2, ⟨hm0⟩, ⟨by have := HQS.out; have := HQ2.out; omega⟩, ⟨rfl⟩, ⟨by omega⟩, K2⟩
  case round =>
   obtain ⟨j, bs', n', r', hj, hH, hN, hR, hS, hL, hK⟩ := hrel
   have c1 := hH.out.cell1
   have c2 := hH.out.cell2
   have f1 := hH.out.froz 1
   have f2 := hH.out.froz 2
   by_cases hlt : r' < 16777216
   ·obtain ⟨⟨v, hG, hRw⟩, hlt0, hb⟩ := hH.out
    obtain ⟨A, c, rfl⟩ := Kd.R_slice hRw
    have c0 : wr.cell? ⟨gw, 0, none⟩ = some (.slice A bs'.length c) := blk_cell hG 0
    have HG := Go.Lib.hid hG
    have HRW := Aside0.mk hRw
    have HB := Aside0.mk hb
    have hR' := hR.out
    have hj2 : j < 2 := by
     rcases Nat.lt_or_ge j 2 with h | h
     ·exact h
     ·exfalso
      have : j = 2 := by have := hj.out; omega
      subst this
      have := hR'.1; omega
    have HR0 : Aside0 (256 ^ (j + 1 + 1) ≤ r' * 256 ∧ r' * 256 < 4294967296 ∧ 0 < r') := ⟨by
     have hp : (0 : Int) < 256 ^ (j + 1) := Int.pow_pos (by decide)
     rw [Int.pow_succ]; omega⟩
    have HJ := Aside0.mk hj2
    clear hR'
    have HLN : Aside0 (bs'.length + 1 ≤ 140737488355328) := ⟨by have := hL.out; have := hj.out; have := HBL.out; omega⟩
    have hws : IntKind.u64.wrap (n' * 256) = n' * 256 := by rw [IntKind.wrap_u64]; have := hN.out; omega
    have hwr : IntKind.u64.wrap (r' * 256) = r' * 256 := by rw [IntKind.wrap_u64]; have := HR0.out; omega
    have hwn : IntKind.u8.wrap (n' / 16777216) = n' / 16777216 := by rw [IntKind.wrap_u8]; have := hN.out; omega
    have hwa : bits .and .u64 (n' * 256) 4294967295 = n' * 256 % 4294967296 := and_low32 _ (by have := hN.out; omega) (by have := hN.out; omega)
    have hgs : gw < wr.heap.size := by omega
    clear hG hRw hb hj2
    go_wp2_with (fail)
    go_region_law (
     refine Kd.R_append_step (W := wr.drew) (Kd.int .u8) (w0 := wr) B0 rfl (.tmp 75) (.tmp 82) 22 5 (.int .u8 0) 1 rfl Tryz.underlying22 info5 rfl (by decide) (by decide) (.slice A bs'.length c) bs' (n' / 16777216) [.int .u8 (n' / 16777216)] (fun k => B0 ≤ k) (fun _ => False) rfl rfl rfl (fun _ hk => hk.elim) (fun k hk => Nat.le_trans HB.out hk) (Kd.R_drew HRW.out) (Below.drew (Below.refl _ _)) HB.out (by rw [Nat.mul_one]; exact HLN.out) ?_
     intro v1 w5 hR5 hB5 _ _
     obtain ⟨A5, c5, rfl⟩ := Kd.R_slice hR5
     have nG := Aside0.mk (show w5.heap[gw]? = some (.cells #[.slice A bs'.length c, .int .u64 n', .int .u64 r'] 87 (0, 0)) from (hB5.block gw HLT.out).trans HG.out)
     have d0 : w5.cell? ⟨gw, 0, none⟩ = some (.slice A bs'.length c) := blk_cell nG.out 0
     have e0 : w5.frozen? ⟨gw, 0, none⟩ = false := blk_frozen nG.out 0
     have d1 : w5.cell? ⟨gw, 1, none⟩ = some (.int .u64 n') := blk_cell nG.out 1
     have d2 : w5.cell? ⟨gw, 2, none⟩ = some (.int .u64 r') := blk_cell nG.out 2
     have e1 : w5.frozen? ⟨gw, 1, none⟩ = false := blk_frozen nG.out 1
     have e2 : w5.frozen? ⟨gw, 2, none⟩ = false := blk_frozen nG.out 2
     have nF := Aside0.mk (Wtr.shift HLT.out HB.out nG.out hR5 hB5 (n' * 256 % 4294967296) (r' * 256))
     clear hR5 hB5)
    all_goals (go_wp2_with (fail))
    all_goals (
     have hF := nF.out
     rw [List.length_append, List.length_singleton] at hF
     refine ⟨⟨j + 1, bs' ++ [n' / 16777216], n' * 256 % 4294967296, r' * 256, ⟨HJ.out⟩, ⟨hF.1⟩, ⟨by omega⟩, ⟨⟨HR0.out.1, HR0.out.2.1⟩⟩, ⟨?_⟩, ⟨?_⟩, ⟨hK.out.trans hF.2⟩⟩, ?_⟩
     ·rw [← hS.out]
      have hj2 := HJ.out
      obtain ⟨t, ht⟩ : ∃ t, 3 - j = t + 1 := ⟨2 - j, by omega⟩
      rw [ht, shW, if_pos hlt, show 3 - (j + 1) = t by omega]
     ·rw [List.length_append, List.length_singleton]; have := hL.out; omega
     ·rw [hF.1.cell2, c2]
      have := HR0.out
      simp [intOf]; omega)
   ·go_wp2_with (fail)
    go_ret
    refine ⟨rfl, ?_, hK.out⟩
    have h1 := hS.out
    have e : shW (3 - j) bs' n' r' = (bs', n', r') := by
     obtain ⟨t, ht⟩ : ∃ t, 3 - j = t + 1 := ⟨2 - j, by have := hj.out; omega⟩
     rw [ht, shW, if_neg (by omega)]
    rw [← h1, e]; exact hH.out
end Go.Proofs.YtbbpplnnegdenaaGreat.Wr
end
section
set_option linter.unusedVariables false
set_option linter.unusedSimpArgs false
namespace Go.Proofs.YtbbpplnnegdenaaGreat.We
open Go Go.RowKit Go.Shelf Go.Proofs Go.Proofs.YtbbpplnnegdenaaGreatW.PrintWords Go.Proofs.YtbbpplnnegdenaaGreat.So Go.Proofs.YtbbpplnnegdenaaGreat.St Go.Proofs.YtbbpplnnegdenaaGreat.Mo Go.Proofs.YtbbpplnnegdenaaGreat.Wr
set_option maxHeartbeats 2000000 in
theorem clone_calls (W : World) (A : Option Addr) (n c : Nat) (xs : List Int) (h : Kd.C (Kd.int .u8) W A n xs) (hn : n ≤ 140737488355328) :
  Calls Tryz.prog 55 #[.slice A n c] W fun e W' => ∃ v, e = .returned v ∧ Kd.R (Kd.int .u8) 5 W' W.heap.size (fun _ => True) v xs ∧ Below W.heap.size W W' := by
 have q22 : ∀ (w : World) (a : Option Addr) (n c n' c' : Nat), (binOp .eql 22 (.slice a n c) (.slice none n' c')).run Tryz.prog w = .ok (.bool a.isNone) w := fun w a n c n' c' => Lib.run_eql_slice_nil w _ _ a n c n' c' Tryz.underlying22
 rcases A with _ | a
 ·have hx : xs = [] := by
   have h1 := h.1
   rcases Nat.eq_zero_or_pos n with h0 | h0
   ·exact List.eq_nil_of_length_eq_zero (by omega)
   ·obtain ⟨ad, e, _⟩ := h.2.2 h0
    cases e
  subst hx
  clear h
  go_enter Tryz.func55, Tryz.ntmps55
  go_wp2_with (fail)
  go_ret
  exact ⟨_, rfl, Kd.R_nil _ _ _ _ _, Below.refl _ _⟩
 ·have H := Aside0.mk h
  clear h
  go_enter Tryz.func55, Tryz.ntmps55
  go_wp2_with (at_builtin; refine Kd.R_append_rows (Kd.int .u8) (w0 := W) W.heap.size rfl (.tmp 5) (.tmp 6) 22 5 (.int .u8 0) 1 rfl Tryz.underlying22 info5 rfl (by decide) (by decide) (.slice (some ⟨W.heap.size, 0, none⟩) 0 0) [] xs (some a) n c (fun _ => True) (fun _ => False) rfl rfl ?aO ?aR (fun _ _ h => h) (fun _ h => h.elim) (fun _ _ => trivial) ?aB ?aS (by simpa using hn) ?_)
  case aO => exact Kd.R_of_own (enc := Value.int .u8) (h1 := fun _ => rfl) (World.ownsRow_made W #[] 0 (Nat.le_refl _) (Nat.zero_le _) rfl) (fun _ _ => trivial)
  case aR => exact Kd.C_below H.out ((Below.refl _ W).alloc (Nat.le_refl _) _)
  case aB => exact (Below.refl _ W).alloc (Nat.le_refl _) _
  case aS => simp
  intro v1 w1 hR hB _ _
  go_wp2_with (fail)
  go_ret
  exact ⟨_, rfl, by simpa using hR, hB⟩
def endF (bs : List Int) (n : Int) : List Int := bs ++ [n / 16777216, n / 65536 % 256, n / 256 % 256, n % 256]
def dig (n : Int) : List Int := [n / 16777216, n / 65536 % 256, n / 256 % 256, n % 256]
set_option maxHeartbeats 4000000 in
theorem end_calls (W : World) {gw B0 : Nat} {bs : List Int} {n r : Int} (h : Wtr W gw B0 bs n r) (hlen : bs.length ≤ 17592186044416) (hn : 0 ≤ n ∧ n < 4294967296) :
  Calls Tryz.prog 25 #[.pointer (some ⟨gw, 0, none⟩)] W fun e W' => ∃ v, e = .returned v ∧ Kd.R (Kd.int .u8) 5 W' W.heap.size (fun _ => True) v (endF bs n) ∧ Below W.heap.size W W' := by
 obtain ⟨⟨v, hG, hR⟩, hlt0, hb⟩ := h
 obtain ⟨A, c, rfl, hc, hC⟩ := Kd.R_reads hR
 have cC := clone_calls W A bs.length c bs hC (by omega)
 have c0 : W.cell? ⟨gw, 0, none⟩ = some (.slice A bs.length c) := blk_cell hG 0
 have HG := Go.Lib.hid hG
 have HGL := Aside0.mk (show gw < W.heap.size by omega)
 clear hG hR hC hb
 show Calls _ _ _ _ fun e W' => ∃ v, e = .returned v ∧ Kd.R (Kd.int .u8) 5 W' W.heap.size (fun _ => True) v (bs ++ (dig n).take 4) ∧ Below W.heap.size W W'
 go_enter Tryz.func25, Tryz.ntmps25
 go_wp2_with (fail)
 (with_reducible refine cC.mono ?_)
 clear cC
 rintro e w1 ⟨v1, rfl, hR1, hB1⟩
 have R1 := Aside0.mk hR1
 have B1 := Aside0.mk hB1
 clear hR1 hB1
 go_wp2_with (fail)
 go_loopw [3, 12] (fun v3 v12 wr => ∃ i : Nat, v12 = .int .i64 i ∧ Aside0 (i ≤ 4) ∧ Aside0 (Kd.R (Kd.int .u8) 5 wr W.heap.size (fun _ => True) v3 (bs ++ (dig n).take i)) ∧ Aside0 (Below W.heap.size W wr)) (fun v3 v12 _ => 4 - (intOf v12).toNat)
 case atStart => exact ⟨0, rfl, ⟨by omega⟩, ⟨by simpa using R1.out⟩, B1⟩
 case round =>
  obtain ⟨i, rfl, hi, hR, hB⟩ := hrel
  have c1 : wr.cell? ⟨gw, 1, none⟩ = some (.int .u64 n) := blk_cell ((hB.out.block gw HGL.out).trans HG.out) 1
  have hi4 : i = 0 ∨ i = 1 ∨ i = 2 ∨ i = 3 ∨ i = 4 := by have := hi.out; omega
  have hD := Aside0.mk hB.out.size
  obtain ⟨l, hl⟩ : ∃ l, bs ++ (dig n).take i = l := ⟨_, rfl⟩
  have HL : Aside0 (l.length + 1 ≤ 140737488355328) := ⟨by
   have h4 : ((dig n).take i).length ≤ 4 := by rw [List.length_take]; exact Nat.min_le_right _ _
   rw [← hl, List.length_append]; omega⟩
  rw [hl] at hR
  obtain ⟨Ai, ci, rfl⟩ := Kd.R_slice hR.out
  have HLE := Aside0.mk hl
  clear hl
  rcases hi4 with rfl | rfl | rfl | rfl | rfl
  ·have hw : IntKind.u8.wrap (n / 16777216) = n / 16777216 := by rw [IntKind.wrap_u8] <;> omega
   go_wp2_with (at_builtin; refine Kd.R_append (Kd.int .u8) (W := wr) (w0 := W) W.heap.size rfl (.tmp 15) (.tmp 26) 22 5 (.int .u8 0) 1 rfl Tryz.underlying22 info5 rfl (by decide) (by decide) _ _ (n / 16777216) [.int .u8 (n / 16777216)] (fun _ => True) (fun _ => False) rfl rfl rfl (fun _ hk => hk.elim) (fun _ _ => trivial) hR.out hB.out hD.out (by rw [Nat.mul_one]; exact HL.out) ?_)
   intro v5 w5 hR5 hB5 _ _
   have nR := Aside0.mk hR5
   have nB := Aside0.mk hB5
   clear hR5 hB5
   go_wp2_with (fail)
   go_roundw
   case rel => exact ⟨1, by go_num, ⟨by omega⟩, ⟨by have h5 := nR.out; rw [← HLE.out] at h5; simpa [dig] using h5⟩, nB⟩
   case measure => simp [intOf]
  ·have hw : IntKind.u8.wrap (n / 65536) = n / 65536 % 256 := by rw [IntKind.wrap_u8] <;> omega
   go_wp2_with (at_builtin; refine Kd.R_append (Kd.int .u8) (W := wr) (w0 := W) W.heap.size rfl (.tmp 15) (.tmp 26) 22 5 (.int .u8 0) 1 rfl Tryz.underlying22 info5 rfl (by decide) (by decide) _ _ (n / 65536 % 256) [.int .u8 (n / 65536 % 256)] (fun _ => True) (fun _ => False) rfl rfl rfl (fun _ hk => hk.elim) (fun _ _ => trivial) hR.out hB.out hD.out (by rw [Nat.mul_one]; exact HL.out) ?_)
   intro v5 w5 hR5 hB5 _ _
   have nR := Aside0.mk hR5
   have nB := Aside0.mk hB5
   clear hR5 hB5
   go_wp2_with (fail)
   go_roundw
   case rel => exact ⟨2, by go_num, ⟨by omega⟩, ⟨by have h5 := nR.out; rw [← HLE.out] at h5; simpa [dig] using h5⟩, nB⟩
   case measure => simp [intOf]
  ·have hw : IntKind.u8.wrap (n / 256) = n / 256 % 256 := by rw [IntKind.wrap_u8] <;> omega
   go_wp2_with (at_builtin; refine Kd.R_append (Kd.int .u8) (W := wr) (w0 := W) W.heap.size rfl (.tmp 15) (.tmp 26) 22 5 (.int .u8 0) 1 rfl Tryz.underlying22 info5 rfl (by decide) (by decide) _ _ (n / 256 % 256) [.int .u8 (n / 256 % 256)] (fun _ => True) (fun _ => False) rfl rfl rfl (fun _ hk => hk.elim) (fun _ _ => trivial) hR.out hB.out hD.out (by rw [Nat.mul_one]; exact HL.out) ?_)
   intro v5 w5 hR5 hB5 _ _
   have nR := Aside0.mk hR5
   have nB := Aside0.mk hB5
   clear hR5 hB5
   go_wp2_with (fail)
   go_roundw
   case rel => exact ⟨3, by go_num, ⟨by omega⟩, ⟨by have h5 := nR.out; rw [← HLE.out] at h5; simpa [dig] using h5⟩, nB⟩
   case measure => simp [intOf]
  ·have hw : IntKind.u8.wrap (n) = n % 256 := by rw [IntKind.wrap_u8] <;> omega
   go_wp2_with (at_builtin; refine Kd.R_append (Kd.int .u8) (W := wr) (w0 := W) W.heap.size rfl (.tmp 15) (.tmp 26) 22 5 (.int .u8 0) 1 rfl Tryz.underlying22 info5 rfl (by decide) (by decide) _ _ (n % 256) [.int .u8 (n % 256)] (fun _ => True) (fun _ => False) rfl rfl rfl (fun _ hk => hk.elim) (fun _ _ => trivial) hR.out hB.out hD.out (by rw [Nat.mul_one]; exact HL.out) ?_)
   intro v5 w5 hR5 hB5 _ _
   have nR := Aside0.mk hR5
   have nB := Aside0.mk hB5
   clear hR5 hB5
   go_wp2_with (fail)
   go_roundw
   case rel => exact ⟨4, by go_num, ⟨by omega⟩, ⟨by have h5 := nR.out; rw [← HLE.out] at h5; simpa [dig] using h5⟩, nB⟩
   case measure => simp [intOf]
  ·go_wp2_with (fail)
   go_ret
   exact ⟨_, rfl, by rw [HLE.out]; exact hR.out, hB.out⟩
end Go.Proofs.YtbbpplnnegdenaaGreat.We
end
section
set_option linter.unusedVariables false
set_option linter.unusedSimpArgs false
namespace Go.Proofs.YtbbpplnnegdenaaGreat.Rd
open Go Go.RowKit Go.Shelf Go.Proofs Go.Proofs.YtbbpplnnegdenaaGreatW.PrintWords Go.Proofs.YtbbpplnnegdenaaGreat.So Go.Proofs.YtbbpplnnegdenaaGreat.St Go.Proofs.YtbbpplnnegdenaaGreat.Mo Go.Proofs.YtbbpplnnegdenaaGreat.Wr Go.Proofs.YtbbpplnnegdenaaGreat.We
structure Rdr (W : World) (gr B1 : Nat) (xs : List Int) (used : Nat) (c r : Int) : Prop where
  G : ∃ v base, W.heap[gr]? = some (.cells #[v, .int .i64 used, .int .u64 c, .int .u64 r] 126 (0, 0)) ∧ Kd.R (Kd.int .u8) 5 W base (fun k => k < B1 ∧ k ≠ gr) v xs
  lt : gr < B1
  hb : B1 ≤ W.heap.size
theorem Rdr.keep {W W' : World} {gr B1 : Nat} {xs : List Int} {used : Nat} {c r : Int} (h : Rdr W gr B1 xs used c r) {ks : List Nat} (hk : Keep ks W W') (hl : ∀ k ∈ ks, B1 ≤ k) : Rdr W' gr B1 xs used c r := by
  obtain ⟨⟨v, base, hG, hR⟩, lt, hb⟩ := h
  have hn : ∀ k, k < B1 → k ∉ ks := fun k hk hm => by have := hl k hm; omega
  exact ⟨⟨v, base, (hk.block gr (by omega) (hn gr lt)).trans hG, Kd.R_step hR (fun k ho hlt => hk.block k hlt (hn k ho.1))⟩, lt, Nat.le_trans hb hk.size⟩
theorem Rdr.far {W : World} {gr B1 : Nat} {xs : List Int} {v : Value} {base : Nat} (hR : Kd.R (Kd.int .u8) 5 W base (fun k => k < B1 ∧ k ≠ gr) v xs) (i : Nat) (u : Value) : Kd.R (Kd.int .u8) 5 (W.setCell ⟨gr, i, none⟩ u) base (fun k => k < B1 ∧ k ≠ gr) v xs :=
  Kd.R_far (p := ⟨gr, i, none⟩) hR (fun k hk => hk.2) _
theorem Rdr.setU {W : World} {gr B1 : Nat} {xs : List Int} {used : Nat} {c r : Int} (h : Rdr W gr B1 xs used c r) (u' : Nat) : Rdr (W.setCell ⟨gr, 1, none⟩ (.int .i64 u')) gr B1 xs u' c r := by
  obtain ⟨⟨v, base, hG, hR⟩, lt, hb⟩ := h
  exact ⟨⟨v, base, by simp [World.setCell, Array.getElem?_modify, hG], Rdr.far hR _ _⟩, lt, by simpa [World.setCell] using hb⟩
theorem Rdr.setC {W : World} {gr B1 : Nat} {xs : List Int} {used : Nat} {c r : Int} (h : Rdr W gr B1 xs used c r) (c' : Int) : Rdr (W.setCell ⟨gr, 2, none⟩ (.int .u64 c')) gr B1 xs used c' r := by
  obtain ⟨⟨v, base, hG, hR⟩, lt, hb⟩ := h
  exact ⟨⟨v, base, by simp [World.setCell, Array.getElem?_modify, hG], Rdr.far hR _ _⟩, lt, by simpa [World.setCell] using hb⟩
theorem Rdr.setR {W : World} {gr B1 : Nat} {xs : List Int} {used : Nat} {c r : Int} (h : Rdr W gr B1 xs used c r) (r' : Int) : Rdr (W.setCell ⟨gr, 3, none⟩ (.int .u64 r')) gr B1 xs used c r' := by
  obtain ⟨⟨v, base, hG, hR⟩, lt, hb⟩ := h
  exact ⟨⟨v, base, by simp [World.setCell, Array.getElem?_modify, hG], Rdr.far hR _ _⟩, lt, by simpa [World.setCell] using hb⟩
theorem Rdr.cell1 {W : World} {gr B1 : Nat} {xs : List Int} {used : Nat} {c r : Int} (h : Rdr W gr B1 xs used c r) : W.cell? ⟨gr, 1, none⟩ = some (.int .i64 used) := by
  obtain ⟨⟨v, base, hG, hR⟩, lt, hb⟩ := h; exact blk_cell hG 1
theorem Rdr.cell2 {W : World} {gr B1 : Nat} {xs : List Int} {used : Nat} {c r : Int} (h : Rdr W gr B1 xs used c r) : W.cell? ⟨gr, 2, none⟩ = some (.int .u64 c) := by
  obtain ⟨⟨v, base, hG, hR⟩, lt, hb⟩ := h; exact blk_cell hG 2
theorem Rdr.cell3 {W : World} {gr B1 : Nat} {xs : List Int} {used : Nat} {c r : Int} (h : Rdr W gr B1 xs used c r) : W.cell? ⟨gr, 3, none⟩ = some (.int .u64 r) := by
  obtain ⟨⟨v, base, hG, hR⟩, lt, hb⟩ := h; exact blk_cell hG 3
theorem Rdr.froz {W : World} {gr B1 : Nat} {xs : List Int} {used : Nat} {c r : Int} (h : Rdr W gr B1 xs used c r) (i : Nat) : W.frozen? ⟨gr, i, none⟩ = false := by
  obtain ⟨⟨v, base, hG, hR⟩, lt, hb⟩ := h; exact blk_frozen hG i
theorem or_byte (c x : Int) (h0 : 0 ≤ c) (h1 : c < 4294967296) (h2 : 0 ≤ x) (h3 : x < 256) : bits .or .u64 (c * 256) x = c * 256 + x := by
  obtain ⟨C, rfl⟩ := Int.eq_ofNat_of_zero_le h0
  obtain ⟨X, rfl⟩ := Int.eq_ofNat_of_zero_le h2
  have hX : X < 2 ^ 8 := by omega
  have h : C * 256 + X = C * 256 ||| X := by
    have h := Nat.two_pow_add_eq_or_of_lt hX C
    rw [show 2 ^ 8 * C = C * 256 by omega] at h; exact h
  have e1 : BitVec.ofInt 64 ((C : Int) * 256) = BitVec.ofNat 64 (C * 256) := by
    rw [show ((C : Int) * 256) = ((C * 256 : Nat) : Int) from rfl, BitVec.ofInt_natCast]
  show IntKind.u64.wrap ((BitVec.ofInt 64 ((C : Int) * 256) ||| BitVec.ofInt 64 (X : Int)).toNat : Int) = _
  rw [e1, BitVec.ofInt_natCast, BitVec.toNat_or, BitVec.toNat_ofNat, BitVec.toNat_ofNat, Nat.mod_eq_of_lt (by omega), Nat.mod_eq_of_lt (by omega), ← h, IntKind.wrap_u64]
  omega
set_option maxHeartbeats 4000000 in
theorem reads_miss (W : World) {gr B1 : Nat} {xs : List Int} {used : Nat} {c r : Int} (h : Rdr W gr B1 xs used c r) (hu : xs.length ≤ used) :
    Calls Tryz.prog 76 #[.pointer (some ⟨gr, 0, none⟩)] W fun e W' => e = .returned (.bool false) ∧ Rdr W' gr B1 xs used c r ∧ Keep [gr] W W' := by
  obtain ⟨⟨v, base, hG, hR⟩, lt, hb⟩ := h
  obtain ⟨A, cap, rfl, hc, hC⟩ := Kd.R_reads hR
  have c0 : W.cell? ⟨gr, 0, none⟩ = some (.slice A xs.length cap) := blk_cell hG 0
  have c1 : W.cell? ⟨gr, 1, none⟩ = some (.int .i64 used) := blk_cell hG 1
  have h := Aside0.mk (show Rdr W gr B1 xs used c r from ⟨⟨_, base, hG, hR⟩, lt, hb⟩)
  clear hG hR hC
  go_enter Tryz.func76, Tryz.ntmps76
  go_wp2_with (fail)
  go_region
  all_goals (go_wp2_with (fail))
  all_goals go_ret
  all_goals exact ⟨rfl, h.out.keep (Keep.drew [] W) (by simp), Keep.drew _ W⟩
set_option maxHeartbeats 4000000 in
theorem reads_hit (W : World) {gr B1 : Nat} {xs : List Int} {used : Nat} {c r : Int} (h : Rdr W gr B1 xs used c r) (hu : used < xs.length) (hl : xs.length ≤ 17592186044416) (hc : 0 ≤ c ∧ c < 4294967296) (hby : ∀ x ∈ xs, 0 ≤ x ∧ x < 256) :
    Calls Tryz.prog 76 #[.pointer (some ⟨gr, 0, none⟩)] W fun e W' => e = .returned (.bool true) ∧ Rdr W' gr B1 xs (used + 1) (c * 256 + xs.getD used 0) r ∧ Keep [gr] W W' := by
  have hx := hby (xs.getD used 0) (by simp [List.getD_eq_getElem?_getD, hu])
  clear hby
  obtain ⟨x, hxe⟩ : ∃ x, xs.getD used 0 = x := ⟨_, rfl⟩
  have h := Aside0.mk h
  obtain ⟨⟨v, base, hG, hR⟩, lt, hb⟩ := h.out
  obtain ⟨A, cap, rfl, hcp, hC⟩ := Kd.R_reads hR
  have c0 : W.cell? ⟨gr, 0, none⟩ = some (.slice A xs.length cap) := blk_cell hG 0
  have c1 : W.cell? ⟨gr, 1, none⟩ = some (.int .i64 used) := blk_cell hG 1
  have c2 := h.out.cell2
  have f1 := h.out.froz 1
  have f2 := h.out.froz 2
  obtain ⟨ad, rfl, hcI⟩ := Kd.at_int hC used (by omega) (by omega)
  rw [Int.toNat_natCast] at hcI
  have hrd : rd xs used = x := by rw [← hxe]; unfold rd; rw [Int.toNat_natCast]
  rw [hrd] at hcI
  rw [hxe] at hx ⊢
  have hws : IntKind.u64.wrap (c * 256) = c * 256 := by rw [IntKind.wrap_u64]; omega
  have hor := or_byte c x hc.1 hc.2 hx.1 hx.2
  clear hG hR hC hrd hxe
  go_enter Tryz.func76, Tryz.ntmps76
  go_wp2_with (fail)
  go_region
  all_goals (go_wp2_with (fail))
  all_goals go_region
  all_goals (go_wp2_with (fail))
  all_goals go_ret
  all_goals refine ⟨rfl, ?_, ?_⟩
  · exact ((h.out.keep (ks := []) (W' := W.drew.drew) ((Keep.drew [] W).trans (Keep.drew [] _)) (by simp)).setC (c * 256 + x)).setU (used + 1)
  · exact (((Keep.drew [gr] W).trans (Keep.drew [gr] _)).trans (Keep.set _ (p := ⟨gr, 2, none⟩) (by simp) _)).trans (Keep.set _ (p := ⟨gr, 1, none⟩) (by simp) _)
theorem _root_.Go.Proofs.YtbbpplnnegdenaaGreat.Mo.Keep.freshR {ks ls : List Nat} {A B C : World} (h : Keep ks A B) (k : Keep ls B C) (hl : ∀ x ∈ ls, A.heap.size ≤ x) : Keep ks A C :=
  ⟨k.os.trans h.os, k.tape.trans h.tape, k.output.trans h.output, Nat.le_trans h.size k.size, fun x hx hn => (k.block x (Nat.lt_of_lt_of_le hx h.size) (fun hm => by have := hl x hm; omega)).trans (h.block x hx hn)⟩
def numB (xs : List Int) : Int := xs.foldl (fun a x => a * 256 + x) 0
theorem numB_snoc (xs : List Int) (x : Int) : numB (xs ++ [x]) = numB xs * 256 + x := by unfold numB; rw [List.foldl_append]; rfl
theorem numB_bound (xs : List Int) (h : ∀ x ∈ xs, 0 ≤ x ∧ x < 256) : 0 ≤ numB xs ∧ numB xs < 256 ^ xs.length := by
  suffices hs : ∀ k, k ≤ xs.length → 0 ≤ numB (xs.take k) ∧ numB (xs.take k) < 256 ^ k by
    have := hs xs.length (Nat.le_refl _); rwa [List.take_length] at this
  intro k
  induction k with
  | zero => intro _; exact ⟨by simp [numB], by simp [numB]⟩
  | succ k ih =>
    intro hk
    have h1 := ih (by omega)
    have h2 := h (xs.getD k 0) (by simp [List.getD_eq_getElem?_getD, show k < xs.length by omega])
    rw [take_snoc (by omega), numB_snoc, Int.pow_succ]
    omega
set_option maxHeartbeats 4000000 in
theorem new_miss (W : World) (A : Option Addr) (n c : Nat) (hn : n < 4) : Calls Tryz.prog 56 #[.slice A n c] W fun e W' => e = .returned (.tuple #[.pointer none, .bool false]) ∧ W' = W := by
  go_enter Tryz.func56, Tryz.ntmps56
  go_wp2_with (fail)
  go_ret2
  exact ⟨rfl, rfl⟩
set_option maxHeartbeats 4000000 in
theorem new_hit (W : World) (A : Option Addr) (cp : Nat) (xs : List Int) (h : Kd.C (Kd.int .u8) W A xs.length xs) (h4 : 4 ≤ xs.length) (hl : xs.length ≤ 17592186044416) (hby : ∀ x ∈ xs, 0 ≤ x ∧ x < 256) :
    Calls Tryz.prog 56 #[.slice A xs.length cp] W fun e W' => ∃ gr B1, e = .returned (.tuple #[.pointer (some ⟨gr, 0, none⟩), .bool true]) ∧ Rdr W' gr B1 xs 4 (numB (xs.take 4)) 4294967295 ∧ Keep [] W W' ∧ W.heap.size ≤ gr := by
  have cC := clone_calls W A xs.length cp xs h (by omega)
  have H := Aside0.mk h
  have HBY := Aside0.mk hby
  clear h hby
  go_enter Tryz.func56, Tryz.ntmps56
  go_wp2_with (fail)
  (with_reducible refine cC.mono ?_)
  clear cC
  rintro e w1 ⟨v, rfl, hR, hB⟩
  obtain ⟨A1, c1, rfl⟩ := Kd.R_slice hR
  obtain ⟨gr, hgr⟩ : ∃ gr, w1.heap.size = gr := ⟨_, rfl⟩
  obtain ⟨w2, hw2⟩ : ∃ w2, w1.alloc (.cells #[.slice A1 xs.length c1, .int .i64 0, .int .u64 0, .int .u64 4294967295] 126) = w2 := ⟨_, rfl⟩
  have R0 := Aside0.mk (show Rdr w2 gr (gr + 1) xs 0 0 4294967295 from ⟨⟨_, W.heap.size, by rw [← hgr, ← hw2]; exact World.alloc_heap_new w1 _, by
    rw [← hw2]
    exact Kd.R_mono (Kd.R_step (w1 := w1.alloc (.cells #[.slice A1 xs.length c1, .int .i64 0, .int .u64 0, .int .u64 4294967295] 126)) (Kd.R_bound hR) (fun k hk hlt => Below.heap_alloc _ _ _ hlt)) (fun k hk => ⟨by have := hk.2.2.1; omega, by have := hk.2.2.1; omega⟩)⟩, by omega, by rw [← hw2]; simp; omega⟩)
  have K0 : Aside0 (Keep [] W w2) := ⟨by rw [← hw2]; exact Keep.below (hB.alloc hB.size _) []⟩
  have hsz := hB.size
  clear hR hB
  go_wp2_with (fail)
  have hgW : W.heap.size ≤ gr := by rw [← hgr]; exact hsz
  clear hw2 hgr
  go_loopw [12] (fun v12 wr => ∃ i : Nat, v12 = .int .i64 i ∧ Aside0 (i ≤ 4) ∧ Aside0 (Rdr wr gr (gr + 1) xs i (numB (xs.take i)) 4294967295) ∧ Aside0 (Keep [] W wr)) (fun v12 _ => 4 - (intOf v12).toNat)
  case atStart => exact ⟨0, rfl, ⟨by omega⟩, R0, K0⟩
  case round =>
    obtain ⟨i, rfl, hi, hR, hK⟩ := hrel
    have hi4 : i ≤ 4 := hi.out
    by_cases hlt : i < 4
    · have hnb := numB_bound (xs.take i) (fun x hx => HBY.out x (List.mem_of_mem_take hx))
      have hnl : numB (xs.take i) < 4294967296 := by
        have h1 := hnb.2
        rw [List.length_take, Nat.min_eq_left (by omega)] at h1
        have : i = 0 ∨ i = 1 ∨ i = 2 ∨ i = 3 := by omega
        rcases this with rfl | rfl | rfl | rfl <;> omega
      have cR := reads_hit wr hR.out (by omega) hl ⟨hnb.1, hnl⟩ HBY.out
      rw [← numB_snoc, ← take_snoc (by omega)] at cR
      clear hnb hnl
      go_wp2_with (fail)
      (with_reducible refine cR.mono ?_)
      clear cR
      rintro e w3 ⟨rfl, hR3, hK3⟩
      have R3 := Aside0.mk hR3
      have K3 := Aside0.mk hK3
      clear hR3 hK3
      go_wp2_with (fail)
      go_roundw
      case rel => exact ⟨i + 1, by go_num, ⟨by omega⟩, R3, ⟨hK.out.freshR K3.out (by simp only [List.mem_singleton]; rintro k rfl; exact hgW)⟩⟩
      case measure => simp [intOf]; omega
    · obtain rfl : i = 4 := by omega
      go_wp2_with (fail)
      go_ret2
      exact ⟨gr, gr + 1, rfl, hR.out, hK.out, hgW⟩
def findQ (c r total : Int) : Int := c / (r / total)
set_option maxHeartbeats 4000000 in
theorem find_calls (W : World) {gr B1 : Nat} {xs : List Int} {used : Nat} {c r : Int} (h : Rdr W gr B1 xs used c r) (hc : 0 ≤ c ∧ c < 4294967296) (hr : 16777216 ≤ r ∧ r < 4294967296) (total : Int) (h0 : 1 ≤ total) (h1 : total ≤ 65536) :
    Calls Tryz.prog 57 #[.pointer (some ⟨gr, 0, none⟩), .int .i64 total] W fun e W' => e = .returned (.tuple #[.int .i64 (if findQ c r total < total then findQ c r total else 0), .bool (decide (findQ c r total < total))]) ∧ W' = W := by
  have c2 := h.cell2
  have c3 := h.cell3
  unfold findQ
  obtain ⟨q, hq⟩ : ∃ q, r / total = q := ⟨_, rfl⟩
  rw [hq]
  have hq1 : 256 ≤ q := by
    rw [← hq]
    exact Int.le_ediv_of_mul_le (by omega) (by omega)
  obtain ⟨d, hd⟩ : ∃ d, c / q = d := ⟨_, rfl⟩
  rw [hd]
  have hd0 : 0 ≤ d := by rw [← hd]; exact Int.ediv_nonneg hc.1 (by omega)
  have hd1 : d < 4294967296 := by
    rw [← hd]
    exact Int.lt_of_le_of_lt (Int.ediv_le_self _ hc.1) hc.2
  clear h
  have hwd : wrap64 d = d := by unfold wrap64; omega
  have hqb : (q == 0) = false := by rw [beq_eq_false_iff_ne]; omega
  have ht1 : ¬ total < 1 := by omega
  have ht2 : ¬ 65536 < total := by omega
  by_cases hlt : d < total
  · rw [if_pos hlt, decide_eq_true hlt]
    have hlt2 : ¬ total ≤ d := by omega
    go_enter Tryz.func57, Tryz.ntmps57
    go_wp2_with (fail)
    go_ret2
    exact ⟨rfl, rfl⟩
  · rw [if_neg hlt, decide_eq_false hlt]
    have hlt2 : total ≤ d := by omega
    go_enter Tryz.func57, Tryz.ntmps57
    go_wp2_with (fail)
    go_ret2
    exact ⟨rfl, rfl⟩
def rdW (xs : List Int) : Nat → Nat → Int → Int → Option (Nat × Int × Int)
  | 0, u, c, r => some (u, c, r)
  | k + 1, u, c, r => if r < 16777216 then (if u < xs.length then rdW xs k (u + 1) (c * 256 + xs.getD u 0) (r * 256) else none) else some (u, c, r)
def takeF (xs : List Int) (s : Nat × Int × Int) (low size total : Int) : Option (Nat × Int × Int) :=
  if s.2.1 < s.2.2 / total * low ∨ s.2.2 / total * (low + size) ≤ s.2.1 then none else rdW xs 3 s.1 (s.2.1 - s.2.2 / total * low) (s.2.2 / total * size)
set_option maxHeartbeats 4000000 in
theorem take_calls (W : World) {gr B1 : Nat} {xs : List Int} {used : Nat} {c r : Int} (h : Rdr W gr B1 xs used c r) (hl : xs.length ≤ 17592186044416) (hby : ∀ x ∈ xs, 0 ≤ x ∧ x < 256) (hc : 0 ≤ c ∧ c < 4294967296) (hr : 16777216 ≤ r ∧ r < 4294967296)
    (low size total : Int) (h0 : total ≤ 65536) (h1 : 0 ≤ low) (h2 : 1 ≤ size) (h3 : low + size ≤ total) :
    Calls Tryz.prog 59 #[.pointer (some ⟨gr, 0, none⟩), .int .i64 low, .int .i64 size, .int .i64 total] W fun e W' => e = .returned (.bool (takeF xs (used, c, r) low size total).isSome) ∧ Keep [gr] W W' ∧ ∀ s, takeF xs (used, c, r) low size total = some s → Rdr W' gr B1 xs s.1 s.2.1 s.2.2 := by
  have cS := span_calls W low size total h0 h1 h2 h3
  unfold takeF
  dsimp only
  obtain ⟨q, hq⟩ : ∃ q, r / total = q := ⟨_, rfl⟩
  rw [hq]
  have hqt : q * total ≤ r := by rw [← hq]; exact Int.ediv_mul_le r (by omega)
  have hq1 : 256 ≤ q := by
    rw [← hq]
    exact Int.le_ediv_of_mul_le (by omega) (by omega)
  have hadd : q * (low + size) = q * low + q * size := Int.mul_add _ _ _
  have hsum : q * low + q * size ≤ r := by
    rw [← Int.mul_add]; exact Int.le_trans (Int.mul_le_mul_of_nonneg_left h3 (by omega)) hqt
  have hl0 : 0 ≤ q * low := Int.mul_nonneg (by omega) h1
  have hs0 : 256 ≤ q * size := Int.le_trans (by omega) (Int.mul_le_mul_of_nonneg_left h2 (by omega))
  obtain ⟨ql, hql⟩ : ∃ x, q * low = x := ⟨_, rfl⟩
  obtain ⟨qs, hqs⟩ : ∃ x, q * size = x := ⟨_, rfl⟩
  obtain ⟨qe, hqe⟩ : ∃ x, q * (low + size) = x := ⟨_, rfl⟩
  rw [hqe] at hadd ⊢
  rw [hql] at hl0 hsum hadd ⊢
  rw [hqs] at hs0 hsum hadd ⊢
  have hw1 : IntKind.u64.wrap (q * low) = ql := by rw [hql, IntKind.wrap_u64]; omega
  have hw2 : IntKind.u64.wrap (q * size) = qs := by rw [hqs, IntKind.wrap_u64]; omega
  have hw4 : wrap64 (low + size) = low + size := by unfold wrap64; omega
  have hw3 : IntKind.u64.wrap (q * (low + size)) = qe := by rw [hqe, IntKind.wrap_u64]; omega
  clear hqt
  have H := Aside0.mk h
  have HQS := Aside0.mk hs0
  have c2 := h.cell2
  have c3 := h.cell3
  have f2 := h.froz 2
  have f3 := h.froz 3
  clear h
  have HBY := Aside0.mk hby
  clear hby
  by_cases hlo : c < ql
  · rw [if_pos (Or.inl hlo)]
    go_enter Tryz.func59, Tryz.ntmps59
    go_wp2_with (fail)
    (with_reducible refine cS.mono ?_)
    clear cS
    rintro e w1 ⟨rfl, rfl⟩
    go_wp2_with (fail)
    go_ret
    exact ⟨rfl, Keep.refl _ _, fun s hs => by cases hs⟩
  · by_cases hhi : qe ≤ c
    · rw [if_pos (Or.inr hhi)]
      go_enter Tryz.func59, Tryz.ntmps59
      go_wp2_with (fail)
      (with_reducible refine cS.mono ?_)
      clear cS
      rintro e w1 ⟨rfl, rfl⟩
      go_wp2_with (fail)
      go_ret
      exact ⟨rfl, Keep.refl _ _, fun s hs => by cases hs⟩
    · rw [if_neg (by omega)]
      have hwc : IntKind.u64.wrap (c - ql) = c - ql := by rw [IntKind.wrap_u64]; omega
      obtain ⟨m, hm⟩ : ∃ m, c - ql = m := ⟨_, rfl⟩
      rw [hm] at hwc ⊢
      have hm0 : 0 ≤ m ∧ m < qs := by omega
      obtain ⟨T, hT⟩ : ∃ T, rdW xs 3 used m qs = T := ⟨_, rfl⟩
      rw [hT]
      have HT := Aside0.mk hT
      clear hT
      go_enter Tryz.func59, Tryz.ntmps59
      go_wp2_with (fail)
      (with_reducible refine cS.mono ?_)
      clear cS
      rintro e w1 ⟨rfl, rfl⟩
      go_wp2_with (fail)
      have H2 := Aside0.mk ((H.out.setC m).setR qs)
      have K2 := Aside0.mk ((Keep.set (ks := [gr]) w1 (p := ⟨gr, 2, none⟩) (by simp) (.int .u64 m)).trans (Keep.set _ (p := ⟨gr, 3, none⟩) (by simp) (.int .u64 qs)))
      obtain ⟨w2, hw2⟩ : ∃ w2, (w1.setCell ⟨gr, 2, none⟩ (.int .u64 m)).setCell ⟨gr, 3, none⟩ (.int .u64 qs) = w2 := ⟨_, rfl⟩
      rw [hw2] at H2 K2 ⊢
      have HQ2 : Aside0 (qs ≤ 4294967295) := ⟨by omega⟩
      clear hw2 c2 c3 f2 f3 hw1 hw3 hw4 hq hql hqs hqe hadd hsum H hm hwc hlo hhi hl0
      go_loopw [] (fun wr => ∃ (j u' : Nat) (c' r' : Int), Aside0 (j ≤ 2) ∧ Aside0 (Rdr wr gr B1 xs u' c' r') ∧ Aside0 (0 ≤ c' ∧ c' < r') ∧ Aside0 (256 ^ (j + 1) ≤ r' ∧ r' < 4294967296) ∧ Aside0 (rdW xs (3 - j) u' c' r' = T) ∧ Aside0 (Keep [gr] w1 wr)) (fun wr => (4294967296 - intOf ((wr.cell? ⟨gr, 3, none⟩).getD undef)).toNat)
      case atStart => exact ⟨0, used, m, qs, ⟨by omega⟩, H2, ⟨hm0⟩, ⟨by have := HQS.out; have := HQ2.out; omega⟩, HT, K2⟩
      case round =>
        obtain ⟨j, u', c', r', hj, hH, hN, hR, hS, hK⟩ := hrel
        have c3 := hH.out.cell3
        have f3 := hH.out.froz 3
        by_cases hlt : r' < 16777216
        · have hR' := hR.out
          have hj2 : j < 2 := by
            rcases Nat.lt_or_ge j 2 with h | h
            · exact h
            · exfalso
              have : j = 2 := by have := hj.out; omega
              subst this
              have := hR'.1; omega
          have hS' := hS.out
          obtain ⟨t, ht⟩ : ∃ t, 3 - j = t + 1 := ⟨2 - j, by omega⟩
          rw [ht, rdW, if_pos hlt] at hS'
          have HR0 : Aside0 (256 ^ (j + 1 + 1) ≤ r' * 256 ∧ r' * 256 < 4294967296 ∧ 0 < r') := ⟨by
            have hp : (0 : Int) < 256 ^ (j + 1) := Int.pow_pos (by decide)
            rw [Int.pow_succ]; omega⟩
          have HJ := Aside0.mk hj2
          have HT2 : Aside0 (3 - (j + 1) = t) := ⟨by omega⟩
          clear hR' ht hj2
          have hwr : IntKind.u64.wrap (r' * 256) = r' * 256 := by rw [IntKind.wrap_u64]; have := HR0.out; omega
          by_cases hu : u' < xs.length
          · have cR := reads_hit wr hH.out hu hl (by have := hN.out; omega) HBY.out
            rw [if_pos hu] at hS'
            have HS' := Aside0.mk hS'
            have hx := HBY.out (xs.getD u' 0) (by simp [List.getD_eq_getElem?_getD, hu])
            obtain ⟨x, hxe⟩ : ∃ x, xs.getD u' 0 = x := ⟨_, rfl⟩
            rw [hxe] at cR hx HS'
            have HX := Aside0.mk hx
            clear hS' hx hxe
            go_wp2_with (fail)
            (with_reducible refine cR.mono ?_)
            clear cR
            rintro e w3 ⟨rfl, hR3, hK3⟩
            have R3 := Aside0.mk hR3
            have K3 := Aside0.mk hK3
            have d3 := hR3.cell3
            have e3 := hR3.froz 3
            clear hR3 hK3
            go_wp2_with (fail)
            have hF := R3.out.setR (r' * 256)
            refine ⟨⟨j + 1, u' + 1, c' * 256 + x, r' * 256, ⟨HJ.out⟩, ⟨hF⟩, ⟨by have := hN.out; have := HX.out; omega⟩, ⟨⟨HR0.out.1, HR0.out.2.1⟩⟩, ⟨by rw [HT2.out]; exact HS'.out⟩, ⟨(hK.out.trans K3.out).trans (Keep.set _ (p := ⟨gr, 3, none⟩) (by simp) _)⟩⟩, ?_⟩
            rw [hF.cell3, c3]
            have := HR0.out
            simp [intOf]; omega
          · have cR := reads_miss wr hH.out (by omega)
            rw [if_neg hu] at hS'
            have HS' := Aside0.mk hS'
            clear hS'
            go_wp2_with (fail)
            (with_reducible refine cR.mono ?_)
            clear cR
            rintro e w3 ⟨rfl, hR3, hK3⟩
            have K3 := Aside0.mk hK3
            clear hR3 hK3
            go_wp2_with (fail)
            go_ret
            exact ⟨by rw [← HS'.out]; rfl, hK.out.trans K3.out, fun s hs => by have e := HS'.out.trans hs; cases e⟩
        · have hS' := hS.out
          obtain ⟨t, ht⟩ : ∃ t, 3 - j = t + 1 := ⟨2 - j, by have := hj.out; omega⟩
          rw [ht, rdW, if_neg hlt] at hS'
          have HS' := Aside0.mk hS'
          clear hS' ht
          go_wp2_with (fail)
          go_ret
          refine ⟨by rw [← HS'.out]; rfl, hK.out, fun a b d hs => ?_⟩
          have e := HS'.out.trans hs
          injection e with e
          injection e with e1 e
          injection e with e2 e3
          subst e1 e2 e3
          exact hH.out
end Go.Proofs.YtbbpplnnegdenaaGreat.Rd
end
section
set_option linter.unusedVariables false
set_option linter.unusedSimpArgs false
namespace Go.Proofs.YtbbpplnnegdenaaGreat.Fr
open Go Go.RowKit Go.Shelf Go.Proofs Go.Proofs.YtbbpplnnegdenaaGreatW.PrintWords Go.Proofs.YtbbpplnnegdenaaGreat.So Go.Proofs.YtbbpplnnegdenaaGreat.St Go.Proofs.YtbbpplnnegdenaaGreat.Mo
theorem step_copy_keep {P : Program} {ops : Array Oper} {o : Oper} {a : Act} {w : World} {K : Act → World → Prop} {Q : Exit → Act → World → Prop} {E : Prop} (hgd : o.guard = none) (d s : Operand) (dT sT : TypeId)
    (ho : o.op = .call { callee := .builtin .copy, args := #[d, s], argTypes := #[dT, sT] }) (elem : TypeId) (hu : P.underlying dT = some (.slice elem)) (hsz : (P.info? elem).map (·.size) = some 1)
    (dp sp : Option Addr) (dLen dCap sLen sCap : Nat) (hd : a.eval d = .slice dp dLen dCap) (hs : a.eval s = .slice sp sLen sCap)
    (g off : Nat) (cur : List Value) (t : TypeId) (hg : w.heap[g]? = some (.cells cur.toArray t (0, 0))) (cs : List Value) (hn : cs.length = Nat.min sLen dLen)
    (hpos : 0 < cs.length → dp = some ⟨g, off, none⟩ ∧ ∃ ad, sp = some ad ∧ ∀ j v, cs[j]? = some v → w.cell? (ad.add j) = some v)
    (hfit : off + cs.length ≤ cur.length) (h1 : ∀ v ∈ cs, v.oneCell' = true)
    (h : ∀ w', w'.heap[g]? = some (.cells (splice cur off cs).toArray t (0, 0)) → Keep [g] w w' → K (a.put o.dst (goInt cs.length)) w') :
    if Region.wanted o (yielded ops a.tmps) = true then Oper.wp P o a w K Q else E := by
  have hw : Region.wanted o (yielded ops a.tmps) = true := by simp [Region.wanted, hgd]
  rw [if_pos hw]
  by_cases h0 : cs.length = 0
  · obtain rfl : cs = [] := List.eq_nil_of_length_eq_zero h0
    have hrun := run_copy_none (P := P) w dT sT o.type elem dp sp dLen dCap sLen sCap hu hsz (by simpa using hn.symm)
    unfold Oper.wp
    simp [execOp, ho, resolve, invoke, builtin, hd, hs, hrun, Result.andThen]
    exact h w (by simpa [splice] using hg) (Keep.refl _ _)
  · obtain ⟨rfl, ad, rfl, hsrc⟩ := hpos (by omega)
    have hrun := run_copy_row (P := P) w dT sT o.type elem g off dLen dCap ad sLen sCap cur.toArray t cs hu hsz hg hn hsrc (by simpa using hfit) h1
    unfold Oper.wp
    simp [execOp, ho, resolve, invoke, builtin, hd, hs, hrun, Result.andThen]
    exact h _ (by simpa [splice] using setRow_heap w g _ _ t _ hg) ⟨rfl, rfl, rfl, by simp, fun k _ hk => setRow_other w g k _ (by simpa using hk)⟩
theorem _root_.Go.Proofs.YtbbpplnnegdenaaGreat.Mo.Keep.fresh {ks ls : List Nat} {A B C : World} (h : Keep ks A B) (k : Keep ls B C) (hl : ∀ x ∈ ls, A.heap.size ≤ x) : Keep ks A C :=
  ⟨k.os.trans h.os, k.tape.trans h.tape, k.output.trans h.output, Nat.le_trans h.size k.size, fun x hx hn => (k.block x (Nat.lt_of_lt_of_le hx h.size) (fun hm => by have := hl x hm; omega)).trans (h.block x hx hn)⟩
theorem one5 : (Tryz.prog.info? 5).map (·.size) = some 1 := by kernel_rfl
def toFront (xs : List Int) (i : Nat) : List Int := xs.getD i 0 :: (xs.take i ++ xs.drop (i + 1))
theorem splice_front {xs : List Int} {i : Nat} (h0 : 0 < xs.length) (hi : i ≤ xs.length) : splice (xs.map (Value.int .u8)) 1 ((xs.take i).map (Value.int .u8)) = (xs.getD 0 0 :: (xs.take i ++ xs.drop (i + 1))).map (Value.int .u8) := by
  unfold splice
  rw [List.length_map, List.length_take, Nat.min_eq_left hi, ← List.map_take, ← List.map_drop, ← List.map_append, ← List.map_append, Nat.add_comm 1 i]
  congr 1
  cases xs with
  | nil => simp at h0
  | cons y ys => simp
set_option maxHeartbeats 4000000 in
theorem moves_calls (W : World) {g : Nat} {xs : List Int} (h : IRow W g .u8 5 xs) (hl : xs.length = 256) (i : Nat) (hi : i < 256) :
    Calls Tryz.prog 49 #[.slice (some ⟨g, 0, none⟩) 256 256, .int .i64 i] W fun e W' => e = .returned (.tuple #[]) ∧ IRow W' g .u8 5 (toFront xs i) ∧ Keep [g] W W' := by
  have cI := IRow.cell h (i := i) (by omega)
  obtain ⟨x, hx⟩ : ∃ x, xs.getD i 0 = x := ⟨_, rfl⟩
  rw [hx] at cI
  have H := Aside0.mk h
  have HX := Aside0.mk hx
  have HL := Go.Lib.hid hl
  have HI := Aside0.mk hi
  have hi2 : (i : Int) ≤ 256 := by omega
  have HC : Aside0 (∀ j v, ((xs.take i).map (Value.int .u8))[j]? = some v → W.drew.cell? ((⟨g, 0, none⟩ : Addr).add j) = some v) := ⟨by
    intro j v hj
    have hji : j < i := by
      have := (List.getElem?_eq_some_iff.1 hj).1
      rw [List.length_map, List.length_take] at this; omega
    have hc := IRow.cell h (i := j) (by omega)
    rw [List.getElem?_map, List.getElem?_take_of_lt hji] at hj
    rw [add_plain]
    show W.cell? _ = _
    rw [hc]
    rw [List.getElem?_eq_getElem (show j < xs.length by omega)] at hj
    rw [List.getD_eq_getElem?_getD, List.getElem?_eq_getElem (show j < xs.length by omega)]
    exact hj⟩
  clear h hx hl
  go_enter Tryz.func49, Tryz.ntmps49
  go_wp2_with (fail)
  go_region_law (
    refine step_copy_keep rfl (.tmp 10) (.tmp 13) 22 22 rfl 5 Tryz.underlying22 one5 (some ⟨g, 1, none⟩) (some ⟨g, 0, none⟩) 255 255 i 256 rfl rfl g 1 (xs.map (Value.int .u8)) 5 H.out ((xs.take i).map (Value.int .u8)) (by rw [List.length_map, List.length_take, HL.out]; have := HI.out; show _ = min i 255; omega) (fun _ => ⟨rfl, _, rfl, HC.out⟩) (by rw [List.length_map, List.length_map, List.length_take, HL.out]; have := HI.out; omega) (by intro v hv; obtain ⟨y, _, rfl⟩ := List.mem_map.1 hv; rfl) ?_
    intro w5 hg5 hk5
    have G5 := Aside0.mk (show IRow w5 g .u8 5 (xs.getD 0 0 :: (xs.take i ++ xs.drop (i + 1))) from hg5.trans (by rw [splice_front (by have := HL.out; omega) (by have := HI.out; have := HL.out; omega)]))
    have f5 : w5.frozen? ⟨g, 0, none⟩ = false := blk_frozen hg5 0
    have c5 : w5.cell? ⟨g, 0, none⟩ = some (.int .u8 (xs.getD 0 0)) := IRow.cell (i := 0) G5.out (by simp)
    have K5 := Aside0.mk hk5
    clear hg5 hk5)
  all_goals (go_wp2_with (fail))
  go_end0
  refine ⟨rfl, ?_, ((Keep.drew _ W).trans K5.out).trans (Keep.set _ (p := ⟨g, 0, none⟩) (by simp) _)⟩
  have h5 := G5.out.set 0 x
  rw [List.set_cons_zero] at h5
  unfold toFront
  rw [HX.out]
  exact h5
theorem info5 : (Tryz.prog.info? 5).map (fun i => (i.zero, i.size, i.bytes)) = some (some (.int .u8 0), 1, 1) := by kernel_rfl
theorem madeB (W : World) (n : Nat) (hn : n ≤ 17592186044416) : ∃ W1, (Instr.makeSlice 22 (.int .i64 n) (.int .i64 n)).run Tryz.prog W = .ok (.slice (some ⟨W.heap.size, 0, none⟩) n n) W1 ∧
    IRow W1 W.heap.size .u8 5 (List.replicate n 0) ∧ Below W.heap.size W W1 := by
  obtain ⟨i0, hi, hz0, hz1, hz2⟩ := info_parts info5
  have hr := run_make (P := Tryz.prog) W 22 5 i0 (.int .u8 0) Tryz.underlying22 hi hz0 .i64 .i64 n n (by omega) (by omega) (by rw [hz2]; omega) (by omega)
  refine ⟨_, hr, ?_, (Below.refl _ _).alloc (Nat.le_refl _) _⟩
  rw [hz1, Int.toNat_natCast, Nat.mul_one]
  have e : madeCells (Value.int .u8 0).cells n = ((List.replicate n (0 : Int)).map (Value.int .u8)).toArray := by
    apply Array.ext
    · simp [madeCells]
    · intro j h1 h2
      simp [madeCells, Value.cells, Nat.mod_one]
  rw [e]
  exact heap_alloc_new W _
def rowL : List Int := (List.range 256).map Int.ofNat
def rowI (i : Nat) : List Int := (List.range i).map Int.ofNat ++ List.replicate (256 - i) 0
theorem rowI_length {i : Nat} (h : i ≤ 256) : (rowI i).length = 256 := by unfold rowI; rw [List.length_append, List.length_map, List.length_range, List.length_replicate]; omega
theorem rowI_set {i : Nat} (h : i < 256) : (rowI i).set i (i : Int) = rowI (i + 1) := by
  unfold rowI
  rw [List.set_append_right _ _ (by rw [List.length_map, List.length_range]; omega), List.length_map, List.length_range, Nat.sub_self, List.range_succ, List.map_append, show 256 - i = 256 - (i + 1) + 1 by omega, List.replicate_succ, List.set_cons_zero, List.append_assoc]
  rfl
set_option maxHeartbeats 4000000 in
set_option maxRecDepth 100000 in
theorem row_calls (W : World) : Calls Tryz.prog 47 #[] W fun e W' => e = .returned (.slice (some ⟨W.heap.size, 0, none⟩) 256 256) ∧ IRow W' W.heap.size .u8 5 rowL ∧ Keep [] W W' := by
  obtain ⟨W1, hmk, hrow, hb⟩ := madeB W 256 (by omega)
  rw [show ((256 : Nat) : Int) = 256 from rfl] at hmk
  have R0 := Aside0.mk (show IRow W1 W.heap.size .u8 5 (rowI 0) from hrow)
  have K0 := Aside0.mk (Keep.below hb [])
  clear hrow hb
  go_enter Tryz.func47, Tryz.ntmps47
  go_wp2_with (fail)
  obtain ⟨g, hg⟩ : ∃ g, W.heap.size = g := ⟨_, rfl⟩
  rw [hg] at R0 ⊢
  have HG := Aside0.mk hg
  clear hg hmk
  go_loopw [6] (fun v6 wr => ∃ i : Nat, v6 = .int .i64 i ∧ Aside0 (i ≤ 256) ∧ Aside0 (IRow wr g .u8 5 (rowI i)) ∧ Aside0 (Keep [] W wr)) (fun v6 _ => 256 - (intOf v6).toNat)
  case atStart => exact ⟨0, rfl, ⟨by omega⟩, R0, K0⟩
  case round =>
    obtain ⟨i, rfl, hi, hR, hK⟩ := hrel
    have hile := hi.out
    by_cases hlt : i < 256
    · have cJ := IRow.cell hR.out (i := i) (by rw [rowI_length hile]; exact hlt)
      have fJ := IRow.frozen hR.out i
      obtain ⟨y, hye⟩ : ∃ y, (rowI i).getD i 0 = y := ⟨_, rfl⟩
      rw [hye] at cJ
      have hw : IntKind.u8.wrap (i : Int) = i := by rw [IntKind.wrap_u8]; omega
      have hlt2 : (i : Int) < 256 := by omega
      have HS := Aside0.mk (rowI_set hlt)
      clear hye
      go_wp2_with (fail)
      go_roundw
      case rel =>
        refine ⟨i + 1, by go_num, ⟨by omega⟩, ⟨?_⟩, ⟨?_⟩⟩
        · have m1 := hR.out.set i (i : Int)
          rw [HS.out] at m1
          exact m1
        · exact hK.out.fresh (Keep.set (ks := [g]) _ (p := ⟨g, i, none⟩) (by simp) _) (by simp only [List.mem_singleton]; rintro k rfl; exact Nat.le_of_eq HG.out)
      case measure => simp [intOf]; omega
    · obtain rfl : i = 256 := by omega
      go_wp2_with (fail)
      go_ret
      exact ⟨by rw [← HG.out]; rfl, by rw [HG.out]; have := hR.out; exact this, hK.out⟩
theorem u8_eq {a b : Int} (ha : 0 ≤ a ∧ a < 256) (hb : 0 ≤ b ∧ b < 256) : ((UInt8.ofNat a.toNat) == (UInt8.ofNat b.toNat)) = (a == b) := by
  by_cases h : a = b
  · subst h; simp
  · have h1 : UInt8.ofNat a.toNat ≠ UInt8.ofNat b.toNat := by
      intro e
      have := congrArg UInt8.toNat e
      simp only [UInt8.toNat_ofNat'] at this
      omega
    rw [beq_eq_false_iff_ne.2 h, beq_eq_false_iff_ne.2 h1]
theorem indexByte_idx {c : Int} (hc : 0 ≤ c ∧ c < 256) : ∀ {xs : List Int}, (∀ x ∈ xs, 0 ≤ x ∧ x < 256) → c ∈ xs → Go.Lib.indexByte (Go.Lib.bytesOf xs) (UInt8.ofNat c.toNat) = (xs.idxOf c : Nat)
  | [], _, h => by simp at h
  | x :: xs, hx, h => by
    show Go.Lib.indexByte (UInt8.ofNat x.toNat :: Go.Lib.bytesOf xs) _ = _
    unfold Go.Lib.indexByte
    rw [u8_eq (hx x List.mem_cons_self) hc, List.idxOf_cons]
    by_cases e : x = c
    · subst e; simp
    · have hm : c ∈ xs := by
        rcases List.mem_cons.1 h with h | h
        · exact absurd h.symm e
        · exact h
      have ih := indexByte_idx hc (fun y hy => hx y (List.mem_cons_of_mem _ hy)) hm
      rw [beq_eq_false_iff_ne.2 e, ih]
      simp
set_option maxHeartbeats 4000000 in
set_option maxRecDepth 100000 in
theorem index_calls (W : World) {g : Nat} {xs : List Int} (h : IRow W g .u8 5 xs) (hl : xs.length = 256) (hx : ∀ x ∈ xs, 0 ≤ x ∧ x < 256) (c : Int) (hc : 0 ≤ c ∧ c < 256) (hm : c ∈ xs) :
    Calls Tryz.prog 48 #[.slice (some ⟨g, 0, none⟩) 256 256, .int .u8 c] W fun e W' => e = .returned (.int .i64 (xs.idxOf c : Nat)) ∧ W' = W := by
  have hrun := Go.Lib.run_indexByteSlice (P := Tryz.prog) W g 0 256 256 xs hl (fun i hi => by rw [Nat.zero_add]; exact IRow.cell h (by omega)) c
  rw [show c.toNat.toUInt8 = UInt8.ofNat c.toNat from rfl, indexByte_idx hc hx hm] at hrun
  go_enter Tryz.func48, Tryz.ntmps48
  go_wp2_with (fail)
  rw [run_callFunc_extern Tryz.func75 (by kernel_rfl) (by kernel_rfl) (by kernel_rfl) (e := Extern.BytealgIndexByte.indexByte) (by kernel_rfl), hrun]
  simp only [Result.andThen]
  rw [Oper.upon_value]
  go_wp2_with (fail)
  go_ret
  exact ⟨rfl, rfl⟩
theorem R_of_IRow {W : World} {g base : Nat} {xs : List Int} (h : IRow W g .u8 5 xs) (hb : base ≤ g) (hn : xs.length ≤ maxLen) : Kd.R (Kd.int .u8) 5 W base (fun _ => True) (.slice (some ⟨g, 0, none⟩) xs.length xs.length) xs :=
  Kd.R_of_own (enc := Value.int .u8) (h1 := fun _ => rfl) ⟨by simp [encs], .inr ⟨g, xs.length, _, rfl, hb, h, by simp, hn, by simp, by simp [encs, List.take_of_length_le]⟩⟩ (fun _ _ => trivial)
def moveF : List Int → List Int → List Int
  | _, [] => []
  | l, c :: bs => (l.idxOf c : Nat) :: moveF (toFront l (l.idxOf c)) bs
def backF : List Int → List Int → List Int
  | _, [] => []
  | l, i :: s => l.getD i.toNat 0 :: backF (toFront l i.toNat) s
theorem moveF_length : ∀ (l bs : List Int), (moveF l bs).length = bs.length
  | _, [] => rfl
  | l, c :: bs => by rw [moveF, List.length_cons, List.length_cons, moveF_length]
theorem backF_length : ∀ (l bs : List Int), (backF l bs).length = bs.length
  | _, [] => rfl
  | l, c :: bs => by rw [backF, List.length_cons, List.length_cons, backF_length]
theorem toFront_perm {xs : List Int} {i : Nat} (h : i < xs.length) : (toFront xs i).Perm xs := by
  unfold toFront
  have e : xs = xs.take i ++ xs.getD i 0 :: xs.drop (i + 1) := by
    rw [List.getD_eq_getElem?_getD, List.getElem?_eq_getElem h]
    show xs = xs.take i ++ xs[i] :: xs.drop (i + 1)
    rw [← List.drop_eq_getElem_cons h, List.take_append_drop]
  exact (List.perm_middle (a := xs.getD i 0) (l₁ := xs.take i) (l₂ := xs.drop (i + 1))).symm.trans (by rw [← e])
theorem row_len {l : List Int} (h : l.Perm rowL) : l.length = 256 := by rw [h.length_eq]; unfold rowL; rw [List.length_map, List.length_range]
theorem row_byte {l : List Int} (h : l.Perm rowL) : ∀ x ∈ l, 0 ≤ x ∧ x < 256 := by
  intro x hx
  have h1 := h.mem_iff.1 hx
  unfold rowL at h1
  obtain ⟨n, hn, rfl⟩ := List.mem_map.1 h1
  have := List.mem_range.1 hn
  show (0 : Int) ≤ (n : Int) ∧ (n : Int) < 256
  omega
theorem row_mem {l : List Int} (h : l.Perm rowL) {c : Int} (hc : 0 ≤ c ∧ c < 256) : c ∈ l := by
  refine h.mem_iff.2 (List.mem_map.2 ⟨c.toNat, List.mem_range.2 (by omega), ?_⟩)
  show ((c.toNat : Nat) : Int) = c
  omega
theorem idx_lt {l : List Int} (h : l.Perm rowL) {c : Int} (hc : 0 ≤ c ∧ c < 256) : l.idxOf c < 256 := by
  rw [← row_len h]; exact List.idxOf_lt_length_iff.2 (row_mem h hc)
theorem C_keep {W W' : World} {A : Option Addr} {n : Nat} {xs : List Int} (h : Kd.C (Kd.int .u8) W A n xs) (hk : Keep [] W W') : Kd.C (Kd.int .u8) W' A n xs := Kd.C_below h (hk.toBelow (Nat.le_refl _) (by simp))
theorem set_out {xs : List Int} {n : Nat} (h : xs.length < n) (y : Int) : (xs ++ List.replicate (n - xs.length) 0).set xs.length y = (xs ++ [y]) ++ List.replicate (n - (xs ++ [y]).length) 0 := by
  rw [List.set_append_right _ _ (Nat.le_refl _), Nat.sub_self, show n - xs.length = n - (xs.length + 1) + 1 by omega, List.replicate_succ, List.set_cons_zero, List.length_append, List.length_singleton, List.append_assoc]; rfl
theorem drop_cons {bs : List Int} {i : Nat} (h : i < bs.length) : bs.drop i = bs.getD i 0 :: bs.drop (i + 1) := by
  rw [List.getD_eq_getElem?_getD, List.getElem?_eq_getElem h, List.drop_eq_getElem_cons h]; rfl
structure FrI (W : World) (gl go : Nat) (n : Nat) (F : List Int → List Int → List Int) (bs : List Int) (i : Nat) (W' : World) (l out : List Int) : Prop where
  L : IRow W' gl .u8 5 l
  P : l.Perm rowL
  O : IRow W' go .u8 5 (out ++ List.replicate (n - out.length) 0)
  len : out.length = i
  eq : F rowL bs = out ++ F l (bs.drop i)
  K : Keep [] W W'
  bl : W.heap.size ≤ gl
  bo : W.heap.size ≤ go
  ne : gl ≠ go
theorem FrI.step {W wr w5 : World} {gl go n : Nat} {F : List Int → List Int → List Int} {bs : List Int} {i : Nat} {l out : List Int} (h : FrI W gl go n F bs i wr l out) (hi : i < n) {y : Int} {k : Nat} (hk : k < 256) (hF : F l (bs.drop i) = y :: F (toFront l k) (bs.drop (i + 1)))
    (hL : IRow w5 gl .u8 5 (toFront l k)) (hK : Keep [gl] (wr.setCell ⟨go, i, none⟩ (.int .u8 y)) w5) : FrI W gl go n F bs (i + 1) w5 (toFront l k) (out ++ [y]) := by
  have hlen := h.len
  refine ⟨hL, (toFront_perm (by rw [row_len h.P]; exact hk)).trans h.P, ?_, by rw [List.length_append, List.length_singleton, hlen], by rw [h.eq, hF, List.append_assoc]; rfl, ?_, h.bl, h.bo, h.ne⟩
  · have h1 := h.O.set i y
    have h2 := set_out (xs := out) (n := n) (by omega) y
    rw [hlen] at h2 h1
    rw [h2] at h1
    exact (hK.block go (blk_lt h1) (by simp only [List.mem_singleton]; exact fun e => h.ne e.symm)).trans h1
  · exact (h.K.fresh (Keep.set (ks := [go]) wr (p := ⟨go, i, none⟩) (by simp) (.int .u8 y)) (by simp only [List.mem_singleton]; rintro k rfl; exact h.bo)).fresh hK (by simp only [List.mem_singleton]; rintro k rfl; exact h.bl)
set_option maxHeartbeats 4000000 in
set_option maxRecDepth 100000 in
theorem move_calls (W : World) (A : Option Addr) (cp : Nat) (bs : List Int) (h : Kd.C (Kd.int .u8) W A bs.length bs) (hl : bs.length ≤ 17592186044416) (hby : ∀ x ∈ bs, 0 ≤ x ∧ x < 256) :
    Calls Tryz.prog 19 #[.slice A bs.length cp] W fun e W' => ∃ v, e = .returned v ∧ Kd.R (Kd.int .u8) 5 W' W.heap.size (fun _ => True) v (moveF rowL bs) ∧ Below W.heap.size W W' := by
  have cR := row_calls W
  have H := Aside0.mk h
  have HBY := Aside0.mk hby
  clear h hby
  go_enter Tryz.func19, Tryz.ntmps19
  go_wp2_with (fail)
  (with_reducible refine cR.mono ?_)
  clear cR
  rintro e w1 ⟨rfl, hR, hK⟩
  obtain ⟨w2, hmk, hrow, hb⟩ := madeB w1 bs.length hl
  obtain ⟨gl, hgl⟩ : ∃ gl, W.heap.size = gl := ⟨_, rfl⟩
  obtain ⟨go, hgo⟩ : ∃ go, w1.heap.size = go := ⟨_, rfl⟩
  rw [hgo] at hmk hrow
  rw [hgl] at hR ⊢
  have hsz := hK.size
  have hlt := blk_lt hR
  have I0 := Aside0.mk (show FrI W gl go bs.length moveF bs 0 w2 rowL [] from ⟨(hb.block gl hlt).trans hR, List.Perm.refl _, by simpa using hrow, rfl, rfl, hK.trans (Keep.below hb []), by omega, by omega, by omega⟩)
  clear hR hK hrow hb hgl hgo hsz hlt
  go_wp2_with (fail)
  go_loopw [14] (fun v14 wr => ∃ (i : Nat) (l out : List Int), v14 = .int .i64 i ∧ Aside0 (i ≤ bs.length) ∧ Aside0 (FrI W gl go bs.length moveF bs i wr l out)) (fun v14 _ => bs.length - (intOf v14).toNat)
  case atStart => exact ⟨0, _, _, rfl, ⟨by omega⟩, I0⟩
  case round =>
    obtain ⟨i, l, out, rfl, hi, hI⟩ := hrel
    have hile := hi.out
    by_cases hlt : i < bs.length
    · obtain ⟨ad, rfl, cI⟩ := Kd.at_int (C_keep H.out hI.out.K) i (by omega) (by omega)
      rw [Int.toNat_natCast, show rd bs i = bs.getD i 0 from by unfold rd; rw [Int.toNat_natCast]] at cI
      have hx := HBY.out (bs.getD i 0) (by simp [List.getD_eq_getElem?_getD, hlt])
      have hdc := drop_cons hlt
      obtain ⟨x, hxe⟩ : ∃ x, bs.getD i 0 = x := ⟨_, rfl⟩
      rw [hxe] at cI hx hdc
      have hidx := idx_lt hI.out.P hx
      have cX := index_calls wr hI.out.L (row_len hI.out.P) (row_byte hI.out.P) x hx (row_mem hI.out.P hx)
      have hF : moveF l (bs.drop i) = ((l.idxOf x : Nat) : Int) :: moveF (toFront l (l.idxOf x)) (bs.drop (i + 1)) := by rw [hdc]; rfl
      obtain ⟨k, hk⟩ : ∃ k, l.idxOf x = k := ⟨_, rfl⟩
      rw [hk] at hidx cX hF
      have hwk : IntKind.u8.wrap (k : Int) = k := by rw [IntKind.wrap_u8]; omega
      have cM := moves_calls (wr.setCell ⟨go, i, none⟩ (.int .u8 k)) (hI.out.L.far hI.out.ne _) (row_len hI.out.P) k hidx
      have hN := Aside0.mk (fun (w5 : World) hL hK => hI.out.step (w5 := w5) hlt hidx hF hL hK)
      have hOl : (out ++ List.replicate (bs.length - out.length) (0 : Int)).length = bs.length := by
        have := hI.out.len
        rw [List.length_append, List.length_replicate]; omega
      have cO := IRow.cell hI.out.O (i := i) (by rw [hOl]; exact hlt)
      have fO := IRow.frozen hI.out.O i
      obtain ⟨y, hye⟩ : ∃ y, (out ++ List.replicate (bs.length - out.length) (0 : Int)).getD i 0 = y := ⟨_, rfl⟩
      rw [hye] at cO
      clear hx hxe hdc hidx hF hk hOl hye
      go_wp2_with (fail)
      (with_reducible refine cX.mono ?_)
      clear cX
      rintro e w3 ⟨rfl, rfl⟩
      go_wp2_with (fail)
      (with_reducible refine cM.mono ?_)
      clear cM
      rintro e w5 ⟨rfl, hL5, hK5⟩
      have nI := Aside0.mk (hN.out w5 hL5 hK5)
      clear hL5 hK5 hN
      go_wp2_with (fail)
      go_roundw
      case rel => exact ⟨i + 1, _, _, by go_num, ⟨by omega⟩, nI⟩
      case measure => simp [intOf]; omega
    · obtain rfl : i = bs.length := by omega
      go_wp2_with (fail)
      go_ret
      have h := hI.out
      refine ⟨_, rfl, ?_, h.K.toBelow (Nat.le_refl _) (by simp)⟩
      have e : moveF rowL bs = out := by rw [h.eq, List.drop_length]; show out ++ [] = out; rw [List.append_nil]
      have hO := h.O
      rw [h.len, Nat.sub_self, List.replicate_zero, List.append_nil] at hO
      have := R_of_IRow hO h.bo (by rw [h.len]; unfold maxLen; omega)
      rw [h.len] at this
      rw [e]; exact this
set_option maxHeartbeats 4000000 in
set_option maxRecDepth 100000 in
theorem back_calls (W : World) (A : Option Addr) (cp : Nat) (bs : List Int) (h : Kd.C (Kd.int .u8) W A bs.length bs) (hl : bs.length ≤ 17592186044416) (hby : ∀ x ∈ bs, 0 ≤ x ∧ x < 256) :
    Calls Tryz.prog 28 #[.slice A bs.length cp] W fun e W' => ∃ v, e = .returned v ∧ Kd.R (Kd.int .u8) 5 W' W.heap.size (fun _ => True) v (backF rowL bs) ∧ Below W.heap.size W W' := by
  have cR := row_calls W
  have H := Aside0.mk h
  have HBY := Aside0.mk hby
  clear h hby
  go_enter Tryz.func28, Tryz.ntmps28
  go_wp2_with (fail)
  (with_reducible refine cR.mono ?_)
  clear cR
  rintro e w1 ⟨rfl, hR, hK⟩
  obtain ⟨w2, hmk, hrow, hb⟩ := madeB w1 bs.length hl
  obtain ⟨gl, hgl⟩ : ∃ gl, W.heap.size = gl := ⟨_, rfl⟩
  obtain ⟨go, hgo⟩ : ∃ go, w1.heap.size = go := ⟨_, rfl⟩
  rw [hgo] at hmk hrow
  rw [hgl] at hR ⊢
  have hsz := hK.size
  have hlt := blk_lt hR
  have I0 := Aside0.mk (show FrI W gl go bs.length backF bs 0 w2 rowL [] from ⟨(hb.block gl hlt).trans hR, List.Perm.refl _, by simpa using hrow, rfl, rfl, hK.trans (Keep.below hb []), by omega, by omega, by omega⟩)
  clear hR hK hrow hb hgl hgo hsz hlt
  go_wp2_with (fail)
  go_loopw [13] (fun v13 wr => ∃ (i : Nat) (l out : List Int), v13 = .int .i64 i ∧ Aside0 (i ≤ bs.length) ∧ Aside0 (FrI W gl go bs.length backF bs i wr l out)) (fun v13 _ => bs.length - (intOf v13).toNat)
  case atStart => exact ⟨0, _, _, rfl, ⟨by omega⟩, I0⟩
  case round =>
    obtain ⟨i, l, out, rfl, hi, hI⟩ := hrel
    have hile := hi.out
    by_cases hlt : i < bs.length
    · obtain ⟨ad, rfl, cI⟩ := Kd.at_int (C_keep H.out hI.out.K) i (by omega) (by omega)
      rw [Int.toNat_natCast, show rd bs i = bs.getD i 0 from by unfold rd; rw [Int.toNat_natCast]] at cI
      have hx := HBY.out (bs.getD i 0) (by simp [List.getD_eq_getElem?_getD, hlt])
      have hdc := drop_cons hlt
      obtain ⟨x, hxe⟩ : ∃ x, bs.getD i 0 = x := ⟨_, rfl⟩
      rw [hxe] at cI hx hdc
      have hidx : x.toNat < 256 := by omega
      have hF : backF l (bs.drop i) = l.getD x.toNat 0 :: backF (toFront l x.toNat) (bs.drop (i + 1)) := by rw [hdc]; rfl
      obtain ⟨k, hk⟩ : ∃ k, x.toNat = k := ⟨_, rfl⟩
      have hxk : x = k := by omega
      rw [hk] at hidx hF
      subst hxk
      obtain ⟨z, hz⟩ : ∃ z, l.getD k 0 = z := ⟨_, rfl⟩
      rw [hz] at hF
      have cL := IRow.cell hI.out.L (i := k) (by rw [row_len hI.out.P]; exact hidx)
      rw [hz] at cL
      have hk256 : (k : Int) < 256 := by omega
      have cM := moves_calls (wr.setCell ⟨go, i, none⟩ (.int .u8 z)) (hI.out.L.far hI.out.ne _) (row_len hI.out.P) k hidx
      have hN := Aside0.mk (fun (w5 : World) hL hK => hI.out.step (w5 := w5) hlt hidx hF hL hK)
      have hOl : (out ++ List.replicate (bs.length - out.length) (0 : Int)).length = bs.length := by
        have := hI.out.len
        rw [List.length_append, List.length_replicate]; omega
      have cO := IRow.cell hI.out.O (i := i) (by rw [hOl]; exact hlt)
      have fO := IRow.frozen hI.out.O i
      obtain ⟨y, hye⟩ : ∃ y, (out ++ List.replicate (bs.length - out.length) (0 : Int)).getD i 0 = y := ⟨_, rfl⟩
      rw [hye] at cO
      clear hx hxe hdc hidx hF hk hOl hye hz
      go_wp2_with (fail)
      (with_reducible refine cM.mono ?_)
      clear cM
      rintro e w5 ⟨rfl, hL5, hK5⟩
      have nI := Aside0.mk (hN.out w5 hL5 hK5)
      clear hL5 hK5 hN
      go_wp2_with (fail)
      go_roundw
      case rel => exact ⟨i + 1, _, _, by go_num, ⟨by omega⟩, nI⟩
      case measure => simp [intOf]; omega
    · obtain rfl : i = bs.length := by omega
      go_wp2_with (fail)
      go_ret
      have h := hI.out
      refine ⟨_, rfl, ?_, h.K.toBelow (Nat.le_refl _) (by simp)⟩
      have e : backF rowL bs = out := by rw [h.eq, List.drop_length]; show out ++ [] = out; rw [List.append_nil]
      have hO := h.O
      rw [h.len, Nat.sub_self, List.replicate_zero, List.append_nil] at hO
      have := R_of_IRow hO h.bo (by rw [h.len]; unfold maxLen; omega)
      rw [h.len] at this
      rw [e]; exact this
end Go.Proofs.YtbbpplnnegdenaaGreat.Fr
end
section
set_option linter.unusedVariables false
set_option linter.unusedSimpArgs false
namespace Go.Proofs.YtbbpplnnegdenaaGreat.Mk
open Go Go.Proofs.YtbbpplnnegdenaaGreat.Mo Go.Proofs.YtbbpplnnegdenaaGreat.Mp Go.Proofs.YtbbpplnnegdenaaGreat.Wr Go.Proofs.YtbbpplnnegdenaaGreat.We
structure MOk (m : List Int × Int) : Prop where
  len : m.1.length = 258
  pos : ∀ x ∈ m.1, 1 ≤ x
  sum : m.1.sum = m.2
  le : m.2 ≤ 65504
theorem sum_nonneg : ∀ {l : List Int}, (∀ x ∈ l, 0 ≤ x) → 0 ≤ l.sum
  | [], _ => by simp
  | x :: l, h => by
    rw [List.sum_cons]
    have := h x List.mem_cons_self
    have := sum_nonneg (fun y hy => h y (List.mem_cons_of_mem _ hy))
    omega
theorem take_le {l : List Int} (h : ∀ x ∈ l, 0 ≤ x) (i : Nat) : 0 ≤ (l.take i).sum ∧ (l.take i).sum ≤ l.sum := by
  have h1 := sum_nonneg (l := l.take i) (fun x hx => h x (List.mem_of_mem_take hx))
  have h2 := sum_nonneg (l := l.drop i) (fun x hx => h x (List.mem_of_mem_drop hx))
  have h3 : l.sum = (l.take i).sum + (l.drop i).sum := by rw [← List.sum_append, List.take_append_drop]
  omega
theorem get_mem {l : List Int} {i : Nat} (h : i < l.length) : l.getD i 0 ∈ l := by
  simp [List.getD_eq_getElem?_getD, h]
theorem set_sum {l : List Int} {i : Nat} (h : i < l.length) (v : Int) : (l.set i v).sum = l.sum - l.getD i 0 + v := by
  have e1 : l = l.take i ++ l.getD i 0 :: l.drop (i + 1) := by
    rw [List.getD_eq_getElem?_getD, List.getElem?_eq_getElem h]
    show l = l.take i ++ l[i] :: l.drop (i + 1)
    rw [← List.drop_eq_getElem_cons h, List.take_append_drop]
  have e2 : l.set i v = l.take i ++ v :: l.drop (i + 1) := List.set_eq_take_append_cons_drop.trans (if_pos h)
  have e3 : l.sum = (l.take i).sum + (l.getD i 0 + (l.drop (i + 1)).sum) := by
    conv => lhs; rw [e1]
    rw [List.sum_append, List.sum_cons]
  rw [e2, List.sum_append, List.sum_cons]
  omega
theorem hf_sum : ∀ (l : List Int), 2 * (l.map hf).sum ≤ l.sum + l.length
  | [] => by simp
  | x :: l => by
    have := hf_sum l
    rw [List.map_cons, List.sum_cons, List.sum_cons, List.length_cons]
    unfold hf at *
    push_cast
    omega
theorem MOk.new : MOk (List.replicate 258 1, 258) := ⟨List.length_replicate, by intro x hx; rw [List.eq_of_mem_replicate hx]; decide, by rw [List.sum_replicate_int]; rfl, by decide⟩
theorem MOk.big {m : List Int × Int} (h : MOk m) {x : Int} (hx : x ∈ m.1) : 1 ≤ x ∧ x ≤ 65504 := by
  refine ⟨h.pos x hx, ?_⟩
  obtain ⟨i, hi, rfl⟩ := List.mem_iff_getElem.1 hx
  have h1 := take_sum (cs := m.1) (i := i) hi
  have h2 := take_le (l := m.1) (fun x hx => by have := h.pos x hx; omega) i
  have h3 := take_le (l := m.1) (fun x hx => by have := h.pos x hx; omega) (i + 1)
  have h4 : m.1.getD i 0 = m.1[i] := by rw [List.getD_eq_getElem?_getD, List.getElem?_eq_getElem hi]; rfl
  have h5 := h.sum
  have h6 := h.le
  omega
theorem MOk.tot {m : List Int × Int} (h : MOk m) : 258 ≤ m.2 := by
  have : ∀ l : List Int, (∀ x ∈ l, 1 ≤ x) → (l.length : Int) ≤ l.sum := by
    intro l
    induction l with
    | nil => intro _; simp
    | cons x l ih =>
      intro h
      have h1 := ih (fun y hy => h y (List.mem_cons_of_mem _ hy))
      have h2 := h x List.mem_cons_self
      rw [List.sum_cons, List.length_cons]; push_cast; omega
  have h1 := this m.1 h.pos
  rw [h.len, h.sum] at h1
  exact h1
theorem MOk.saw {m : List Int × Int} (h : MOk m) {s : Nat} (hs : s < 258) : MOk (sawF m.1 m.2 s) := by
  have hsl : s < m.1.length := by rw [h.len]; exact hs
  have hset := set_sum hsl (m.1.getD s 0 + 32)
  have hp : ∀ x ∈ m.1.set s (m.1.getD s 0 + 32), 1 ≤ x := by
    intro x hx
    rcases List.mem_or_eq_of_mem_set hx with hx | hx
    · exact h.pos x hx
    · have := h.pos _ (get_mem hsl); omega
  have hle := h.le
  have hsum := h.sum
  unfold sawF
  by_cases hb : m.2 + 32 > 65504
  · rw [if_pos hb]
    have hh := hf_sum (m.1.set s (m.1.getD s 0 + 32))
    rw [List.length_set, h.len] at hh
    refine ⟨by rw [List.length_map, List.length_set]; exact h.len, ?_, rfl, ?_⟩
    · intro x hx
      obtain ⟨y, hy, rfl⟩ := List.mem_map.1 hx
      have := hp y hy
      unfold hf; omega
    · show ((m.1.set s (m.1.getD s 0 + 32)).map hf).sum ≤ 65504
      omega
  · rw [if_neg hb]
    exact ⟨by rw [List.length_set]; exact h.len, hp, by show (m.1.set s _).sum = m.2 + 32; omega, by show m.2 + 32 ≤ 65504; omega⟩
theorem MOk.span {m : List Int × Int} (h : MOk m) {s : Nat} (hs : s < 258) : 0 ≤ (m.1.take s).sum ∧ 1 ≤ m.1.getD s 0 ∧ (m.1.take s).sum + m.1.getD s 0 ≤ m.2 := by
  have hsl : s < m.1.length := by rw [h.len]; exact hs
  have h1 := take_sum (cs := m.1) (i := s) hsl
  have h2 := take_le (l := m.1) (fun x hx => by have := h.pos x hx; omega) s
  have h3 := take_le (l := m.1) (fun x hx => by have := h.pos x hx; omega) (s + 1)
  have h4 := h.pos _ (get_mem hsl)
  have h5 := h.sum
  omega
structure WOk (s : List Int × Int × Int) : Prop where
  by_ : ∀ x ∈ s.1, 0 ≤ x ∧ x < 256
  n : 0 ≤ s.2.1 ∧ s.2.1 < 4294967296
  r : 16777216 ≤ s.2.2 ∧ s.2.2 < 4294967296
theorem WOk.new : WOk ([], 0, 4294967295) := ⟨fun x hx => by simp at hx, by decide, by decide⟩
theorem carR_byte : ∀ {l : List Int}, (∀ x ∈ l, 0 ≤ x ∧ x < 256) → ∀ x ∈ carR l, 0 ≤ x ∧ x < 256
  | [], _, x, hx => by simp [carR] at hx
  | y :: l, h, x, hx => by
    have ih := carR_byte (fun z hz => h z (List.mem_cons_of_mem _ hz))
    have hy := h y List.mem_cons_self
    unfold carR at hx
    by_cases e : (y + 1) % 256 = 0
    · rw [if_pos e] at hx
      rcases List.mem_cons.1 hx with rfl | hx
      · decide
      · exact ih x hx
    · rw [if_neg e] at hx
      rcases List.mem_cons.1 hx with rfl | hx
      · omega
      · exact h x (List.mem_cons_of_mem _ hx)
theorem carF_byte {l : List Int} (h : ∀ x ∈ l, 0 ≤ x ∧ x < 256) : ∀ x ∈ carF l, 0 ≤ x ∧ x < 256 := by
  intro x hx
  unfold carF at hx
  exact carR_byte (fun z hz => h z (List.mem_reverse.1 hz)) x (List.mem_reverse.1 hx)
theorem shW_ok : ∀ (k : Nat) (bs : List Int) (n r : Int), (∀ x ∈ bs, 0 ≤ x ∧ x < 256) → 0 ≤ n → n < 4294967296 → 16777216 ≤ r * 256 ^ k → r < 4294967296 → WOk (shW k bs n r) ∧ (shW k bs n r).1.length ≤ bs.length + k
  | 0, bs, n, r, hb, h0, h1, hr, hr1 => ⟨⟨hb, ⟨h0, h1⟩, ⟨by show 16777216 ≤ r; simpa using hr, hr1⟩⟩, Nat.le_refl _⟩
  | k + 1, bs, n, r, hb, h0, h1, hr, hr1 => by
    unfold shW
    by_cases e : r < 16777216
    · rw [if_pos e]
      have ih := shW_ok k (bs ++ [n / 16777216]) (n * 256 % 4294967296) (r * 256) (by
        intro x hx
        rcases List.mem_append.1 hx with hx | hx
        · exact hb x hx
        · rw [List.mem_singleton.1 hx]; omega) (by omega) (by omega) (by rw [Int.mul_assoc, Int.mul_comm 256, ← Int.pow_succ]; exact hr) (by omega)
      rw [List.length_append, List.length_singleton] at ih
      exact ⟨ih.1, by omega⟩
    · rw [if_neg e]
      exact ⟨⟨hb, ⟨h0, h1⟩, ⟨by show 16777216 ≤ r; omega, hr1⟩⟩, by show bs.length ≤ _; omega⟩
theorem span_bounds {r low size total : Int} (hr : 16777216 ≤ r ∧ r < 4294967296) (h0 : total ≤ 65536) (h1 : 0 ≤ low) (h2 : 1 ≤ size) (h3 : low + size ≤ total) : 256 ≤ r / total ∧ 0 ≤ r / total * low ∧ 256 ≤ r / total * size ∧ r / total * low + r / total * size ≤ r := by
  obtain ⟨q, hq⟩ : ∃ q, r / total = q := ⟨_, rfl⟩
  have hqt : q * total ≤ r := by rw [← hq]; exact Int.ediv_mul_le r (by omega)
  have hq1 : 256 ≤ q := by
    rw [← hq]
    exact Int.le_ediv_of_mul_le (by omega) (by omega)
  rw [hq]
  refine ⟨hq1, Int.mul_nonneg (by omega) h1, Int.le_trans (by omega) (Int.mul_le_mul_of_nonneg_left h2 (by omega)), ?_⟩
  rw [← Int.mul_add]; exact Int.le_trans (Int.mul_le_mul_of_nonneg_left h3 (by omega)) hqt
theorem WOk.put {s : List Int × Int × Int} (h : WOk s) {low size total : Int} (h0 : total ≤ 65536) (h1 : 0 ≤ low) (h2 : 1 ≤ size) (h3 : low + size ≤ total) : WOk (putF s low size total) ∧ (putF s low size total).1.length ≤ s.1.length + 3 := by
  obtain ⟨hq, hl, hs, hsum⟩ := span_bounds h.r h0 h1 h2 h3
  have hn := h.n
  have hr := h.r
  unfold putF
  by_cases e : s.2.1 + s.2.2 / total * low < 4294967296
  · rw [if_pos e]
    exact shW_ok 3 _ _ _ h.by_ (by omega) e (by omega) (by omega)
  · rw [if_neg e]
    have := shW_ok 3 (carF s.1) (s.2.1 + s.2.2 / total * low - 4294967296) (s.2.2 / total * size) (carF_byte h.by_) (by omega) (by omega) (by omega) (by omega)
    rw [carF_length] at this
    exact this
end Go.Proofs.YtbbpplnnegdenaaGreat.Mk
end
section
set_option linter.unusedVariables false
set_option linter.unusedSimpArgs false
namespace Go.Proofs.YtbbpplnnegdenaaGreat.Pk
open Go Go.RowKit Go.Shelf Go.Proofs Go.Proofs.YtbbpplnnegdenaaGreatW.PrintWords Go.Proofs.YtbbpplnnegdenaaGreat.So Go.Proofs.YtbbpplnnegdenaaGreat.St Go.Proofs.YtbbpplnnegdenaaGreat.Mo Go.Proofs.YtbbpplnnegdenaaGreat.Mp Go.Proofs.YtbbpplnnegdenaaGreat.Wr Go.Proofs.YtbbpplnnegdenaaGreat.We Go.Proofs.YtbbpplnnegdenaaGreat.Mk
abbrev St := (List Int × Int × Int) × (Nat → List Int × Int) × Int
def stepP (ord : Int) (st : St) (sym : Int) : St :=
  (putF st.1 ((st.2.1 (askF st.2.2 ord)).1.take sym.toNat).sum ((st.2.1 (askF st.2.2 ord)).1.getD sym.toNat 0) (st.2.1 (askF st.2.2 ord)).2, sawM st.2.1 (askF st.2.2 ord) sym.toNat, clsF sym)
def packL (ord : Int) (st : St) (syms : List Int) : St := syms.foldl (stepP ord) st
def st0 : St := (([], 0, 4294967295), newM, 0)
def packS (ord : Int) (syms : List Int) : List Int := endF (packL ord st0 syms).1.1 (packL ord st0 syms).1.2.1
structure PkS (W : World) (gm gw B2 B0 : Nat) (gs bs : Nat → Nat) : Prop where
  lm : gm < B2
  lw : gw < B2
  lb : B2 ≤ B0
  lg : ∀ j, j < 3 → gs j < B2 ∧ bs j < B2
  nm : gm ≠ gw
  ng : ∀ j, j < 3 → gs j ≠ gw ∧ bs j ≠ gw
  bm : W.heap.size ≤ gm
  bw : W.heap.size ≤ gw
  bg : ∀ j, j < 3 → W.heap.size ≤ gs j ∧ W.heap.size ≤ bs j
structure PkI (W : World) (gm gw B2 B0 : Nat) (gs bs : Nat → Nat) (ord : Int) (vs : Value) (syms : List Int) (i : Nat) (W' : World) (st : St) : Prop where
  M : Mds W' gm gs bs st.2.1 st.2.2 ord
  Wt : Wtr W' gw B0 st.1.1 st.1.2.1 st.1.2.2
  S : ∃ base, Kd.R (Kd.int .i64) 3 W' base (fun k => B2 ≤ k ∧ k < B0) vs syms
  ok : ∀ j, j < 3 → MOk (st.2.1 j)
  wok : WOk st.1
  len : st.1.1.length ≤ 3 * i
  cl : st.2.2 = 0 ∨ st.2.2 = 1 ∨ st.2.2 = 2
  eq : packL ord st0 syms = packL ord st (syms.drop i)
  K : Keep [] W W'
theorem askF_lt {cl ord : Int} (hc : cl = 0 ∨ cl = 1 ∨ cl = 2) (ho : ord = 0 ∨ ord = 1) : askF cl ord < 3 := by
  unfold askF
  rcases hc with rfl | rfl | rfl <;> rcases ho with rfl | rfl <;> decide
theorem clsF_cases (s : Int) : clsF s = 0 ∨ clsF s = 1 ∨ clsF s = 2 := by
  unfold clsF
  split
  · exact .inl rfl
  · split
    · exact .inr (.inl rfl)
    · exact .inr (.inr rfl)
theorem _root_.Go.Proofs.YtbbpplnnegdenaaGreat.Mp.Mds.keepW {W W' : World} {gm gw B0 : Nat} {gs bs : Nat → Nat} {ms : Nat → List Int × Int} {cl ord : Int} (h : Mds W gm gs bs ms cl ord) (hk : KeepW gw B0 W W') (hm : gm < B0 ∧ gm ≠ gw) (hg : ∀ j, j < 3 → (gs j < B0 ∧ gs j ≠ gw) ∧ bs j < B0 ∧ bs j ≠ gw) : Mds W' gm gs bs ms cl ord :=
  ⟨(hk.block gm hm.1 hm.2).trans h.G, fun j hj => ⟨(hk.block _ (hg j hj).1.1 (hg j hj).1.2).trans (h.M j hj).G, (hk.block _ (hg j hj).2.1 (hg j hj).2.2).trans (h.M j hj).R, (h.M j hj).ne⟩, h.d1, h.d2⟩
section
variable {W wr : World} {gm gw B2 B0 : Nat} {gs bs : Nat → Nat} {ord : Int} {vs : Value} {syms : List Int} {i : Nat} {st : St}
theorem PkI.now (h : PkI W gm gw B2 B0 gs bs ord vs syms i wr st) (ho : ord = 0 ∨ ord = 1) (Wx : World) (hx : Keep [] wr Wx) : Calls Tryz.prog 20 #[.pointer (some ⟨gm, 0, none⟩)] Wx fun e W' => e = .returned (.pointer (some ⟨gs (askF st.2.2 ord), 0, none⟩)) ∧ Keep [] wr W' :=
  (now_calls Wx (h.M.keep hx (by simp) (by simp)) h.cl ho).mono (fun e W' ⟨h1, h2⟩ => ⟨h1, hx.trans (h2 ▸ Keep.drew [] Wx)⟩)
theorem PkI.span (h : PkI W gm gw B2 B0 gs bs ord vs syms i wr st) (ho : ord = 0 ∨ ord = 1) (Wx : World) (hx : Keep [] wr Wx) (s : Nat) (hs : s < 258) : Calls Tryz.prog 21 #[.pointer (some ⟨gs (askF st.2.2 ord), 0, none⟩), .int .i64 s] Wx fun e W' => e = .returned (.tuple #[.int .i64 ((st.2.1 (askF st.2.2 ord)).1.take s).sum, .int .i64 ((st.2.1 (askF st.2.2 ord)).1.getD s 0), .bool true]) ∧ Keep [] wr W' := by
  have ha := askF_lt h.cl ho
  have hm := h.ok _ ha
  exact (Mo.span_calls Wx ((h.M.keep hx (by simp) (by simp)).M _ ha) s (by rw [hm.len]; exact hs) (by rw [hm.len]; omega) (fun j _ => by
    have h2 := take_le (l := (st.2.1 (askF st.2.2 ord)).1) (fun x hx => by have := hm.pos x hx; omega) j
    have := hm.sum; have := hm.le; omega)).mono (fun e W' ⟨h1, h2⟩ => ⟨h1, hx.trans (h2 ▸ Keep.drew [] Wx)⟩)
theorem PkI.total (h : PkI W gm gw B2 B0 gs bs ord vs syms i wr st) (ho : ord = 0 ∨ ord = 1) (Wx : World) (hx : Keep [] wr Wx) : Calls Tryz.prog 23 #[.pointer (some ⟨gs (askF st.2.2 ord), 0, none⟩)] Wx fun e W' => e = .returned (.int .i64 (st.2.1 (askF st.2.2 ord)).2) ∧ Keep [] wr W' :=
  (Mo.total_calls Wx ((h.M.keep hx (by simp) (by simp)).M _ (askF_lt h.cl ho))).mono (fun e W' ⟨h1, h2⟩ => ⟨h1, h2 ▸ hx⟩)
theorem PkI.put (h : PkI W gm gw B2 B0 gs bs ord vs syms i wr st) (hS : PkS W gm gw B2 B0 gs bs) (ho : ord = 0 ∨ ord = 1) (Wx : World) (hx : Keep [] wr Wx) (s : Nat) (hs : s < 258) (hi : i ≤ 1000000) :
    Calls Tryz.prog 22 #[.pointer (some ⟨gw, 0, none⟩), .int .i64 ((st.2.1 (askF st.2.2 ord)).1.take s).sum, .int .i64 ((st.2.1 (askF st.2.2 ord)).1.getD s 0), .int .i64 (st.2.1 (askF st.2.2 ord)).2] Wx fun e W' => e = .returned (.bool true) ∧ Wtr W' gw B0 (stepP ord st s).1.1 (stepP ord st s).1.2.1 (stepP ord st s).1.2.2 ∧ KeepW gw B0 wr W' := by
  have hm := h.ok _ (askF_lt h.cl ho)
  have hsp := hm.span hs
  have hle := hm.le
  have hlen := h.len
  exact (put_calls Wx (h.Wt.keep hx (by simp) (by simp)) h.wok.by_ (by omega) h.wok.n h.wok.r _ _ _ (by omega) hsp.1 hsp.2.1 hsp.2.2).mono (fun e W' ⟨h1, h2, h3⟩ => ⟨h1, h2, (show KeepW gw B0 wr Wx from ⟨hx.os, hx.tape, hx.output, hx.size, fun k hk _ => hx.block k (Nat.lt_of_lt_of_le hk h.Wt.hb) (by simp)⟩).trans h3⟩)
theorem PkI.saw (h : PkI W gm gw B2 B0 gs bs ord vs syms i wr st) (hS : PkS W gm gw B2 B0 gs bs) (ho : ord = 0 ∨ ord = 1) (Wx : World) (s : Nat) (hs : s < 258) (hi : i < syms.length) (hsi : syms.getD i 0 = s) (hW : Wtr Wx gw B0 (stepP ord st s).1.1 (stepP ord st s).1.2.1 (stepP ord st s).1.2.2) (hK : KeepW gw B0 wr Wx) :
    Calls Tryz.prog 24 #[.pointer (some ⟨gm, 0, none⟩), .int .i64 s] Wx fun e W' => e = .returned (.tuple #[]) ∧ PkI W gm gw B2 B0 gs bs ord vs syms (i + 1) W' (stepP ord st s) := by
  have ha := askF_lt h.cl ho
  have hm := h.ok _ ha
  have hsp := hm.span hs
  have hle := hm.le
  have htot := hm.tot
  have lm := hS.lm
  have lw := hS.lw
  have lb := hS.lb
  have hMx := h.M.keepW hK ⟨by omega, hS.nm⟩ (fun j hj => ⟨⟨by have := (hS.lg j hj).1; omega, (hS.ng j hj).1⟩, by have := (hS.lg j hj).2; omega, (hS.ng j hj).2⟩)
  refine (Mp.saw_calls Wx hMx h.cl ho s (by rw [hm.len]; exact hs) (by rw [hm.len]; omega) (fun x hx => by have := hm.big hx; omega) ⟨by omega, by omega⟩ ha).mono ?_
  rintro e W' ⟨h1, h2, h3⟩
  have hwp := h.wok.put (low := ((st.2.1 (askF st.2.2 ord)).1.take s).sum) (size := (st.2.1 (askF st.2.2 ord)).1.getD s 0) (total := (st.2.1 (askF st.2.2 ord)).2) (by omega) hsp.1 hsp.2.1 hsp.2.2
  have hlt3 : ∀ k ∈ [gm, gs (askF st.2.2 ord), bs (askF st.2.2 ord)], k < B2 ∧ k ≠ gw ∧ W.heap.size ≤ k := by
    intro k hk
    simp only [List.mem_cons, List.not_mem_nil, or_false] at hk
    rcases hk with rfl | rfl | rfl
    · exact ⟨lm, hS.nm, hS.bm⟩
    · exact ⟨(hS.lg _ ha).1, (hS.ng _ ha).1, (hS.bg _ ha).1⟩
    · exact ⟨(hS.lg _ ha).2, (hS.ng _ ha).2, (hS.bg _ ha).2⟩
  refine ⟨h1, ⟨h2, hW.keep h3 (fun hk => (hlt3 _ hk).2.1 rfl) (fun k hk => by have := (hlt3 k hk).1; omega), ?_, ?_, hwp.1, ?_, clsF_cases _, ?_, ?_⟩⟩
  · obtain ⟨base, hR⟩ := h.S
    refine ⟨base, Kd.R_step (Kd.R_step hR (w1 := Wx) (fun k hk hlt => hK.block k hk.2 (by omega))) (fun k hk hlt => h3.block k hlt (fun hm => by have := (hlt3 k hm).1; omega))⟩
  · intro j hj
    show MOk (sawM st.2.1 (askF st.2.2 ord) s j)
    unfold sawM
    split
    · exact hm.saw hs
    · exact h.ok j hj
  · have h5 := hwp.2
    have h6 := h.len
    show (putF st.1 _ _ _).1.length ≤ 3 * (i + 1)
    rw [Int.toNat_natCast]
    omega
  · rw [h.eq, Fr.drop_cons hi, hsi]; rfl
  · refine ⟨h3.os.trans (hK.os.trans h.K.os), h3.tape.trans (hK.tape.trans h.K.tape), h3.output.trans (hK.output.trans h.K.output), Nat.le_trans h.K.size (Nat.le_trans hK.size h3.size), fun k hk _ => ?_⟩
    have hbw := hS.bw
    have hkx : k < Wx.heap.size := Nat.lt_of_lt_of_le hk (Nat.le_trans h.K.size hK.size)
    rw [h3.block k hkx (fun hm => by have := (hlt3 k hm).2.2; omega), hK.block k (by omega) (by omega)]
    exact h.K.block k hk (by simp)
end
theorem order_calls (W : World) (ord : Int) : Calls Tryz.prog 15 #[.int .i64 ord] W fun e W' => e = .returned (.bool (decide (ord = 0 ∨ ord = 1))) ∧ W' = W := by
  by_cases h0 : ord = 0
  · subst h0
    rw [decide_eq_true (Or.inl rfl)]
    go_enter Tryz.func15, Tryz.ntmps15
    go_wp2_with (fail)
    go_ret
    exact ⟨rfl, rfl⟩
  · by_cases h1 : ord = 1
    · subst h1
      rw [decide_eq_true (Or.inr rfl)]
      go_enter Tryz.func15, Tryz.ntmps15
      go_wp2_with (fail)
      go_ret
      exact ⟨rfl, rfl⟩
    · rw [decide_eq_false (by omega)]
      have hb0 : (ord == 0) = false := beq_eq_false_iff_ne.2 h0
      have hb1 : (ord == 1) = false := beq_eq_false_iff_ne.2 h1
      go_enter Tryz.func15, Tryz.ntmps15
      go_wp2_with (fail)
      go_ret
      exact ⟨by simp [hb0, hb1], rfl⟩
set_option maxHeartbeats 4000000 in
theorem pack_miss (W : World) (A : Option Addr) (n c : Nat) (ord : Int) (h : ¬ ((ord = 0 ∨ ord = 1) ∧ n ≤ 100000)) : Calls Tryz.prog 6 #[.slice A n c, .int .i64 ord] W fun e W' => e = .returned (.tuple #[.slice none 0 0, .bool false]) ∧ W' = W := by
  have cO := order_calls W ord
  by_cases ho : ord = 0 ∨ ord = 1
  · rw [decide_eq_true ho] at cO
    have hn : 100000 < n := by
      rcases Nat.lt_or_ge 100000 n with h2 | h2
      · exact h2
      · exact absurd ⟨ho, h2⟩ h
    clear h ho
    go_enter Tryz.func6, Tryz.ntmps6
    go_wp2_with (fail)
    (with_reducible refine cO.mono ?_)
    rintro e w1 ⟨rfl, rfl⟩
    go_wp2_with (fail)
    go_ret2
    exact ⟨rfl, rfl⟩
  · rw [decide_eq_false ho] at cO
    clear h ho
    go_enter Tryz.func6, Tryz.ntmps6
    go_wp2_with (fail)
    (with_reducible refine cO.mono ?_)
    rintro e w1 ⟨rfl, rfl⟩
    go_wp2_with (fail)
    go_ret2
    exact ⟨rfl, rfl⟩
theorem info3 : (Tryz.prog.info? 3).map (fun i => (i.zero, i.size, i.bytes)) = some (some (.int .i64 0), 1, 8) := by kernel_rfl
set_option maxHeartbeats 4000000 in
theorem pack_calls (W : World) (A : Option Addr) (c : Nat) (b : List Int) (hC : Kd.C (Kd.int .u8) W A b.length b) (hby : ∀ x ∈ b, 0 ≤ x ∧ x < 256) (ord : Int) (ho : ord = 0 ∨ ord = 1) (hlen : b.length ≤ 100000) (sy : List Int) (hs : ∀ s ∈ sy, 0 ≤ s ∧ s < 258) (hsl : sy.length < 1000000)
    (hT : ∀ (W1 : World) (A1 : Option Addr) (c1 : Nat), Kd.C (Kd.int .u8) W1 A1 (Fr.moveF Fr.rowL b).length (Fr.moveF Fr.rowL b) → (Fr.moveF Fr.rowL b).length ≤ c1 → Calls Tryz.prog 18 #[.slice A1 (Fr.moveF Fr.rowL b).length c1] W1 fun e w' => ∃ v, e = .returned v ∧ Kd.R (Kd.int .i64) 3 w' W1.heap.size (fun _ => True) v sy ∧ Below W1.heap.size W1 w') :
    Calls Tryz.prog 6 #[.slice A b.length c, .int .i64 ord] W fun e W' => ∃ v, e = .returned (.tuple #[v, .bool true]) ∧ Kd.R (Kd.int .u8) 5 W' W.heap.size (fun _ => True) v (packS ord (sy ++ [257])) ∧ Below W.heap.size W W' := by
  have cO := order_calls W ord
  rw [decide_eq_true ho] at cO
  have cM := made_calls W ord
  have HC := Aside0.mk hC
  have HBY := Aside0.mk hby
  have HT := Aside0.mk hT
  have HS := Aside0.mk hs
  have HO := Aside0.mk ho
  have hln : ¬ 100000 < b.length := by omega
  clear hC hby hT hs ho
  go_enter Tryz.func6, Tryz.ntmps6
  go_wp2_with (fail)
  (with_reducible refine cO.mono ?_)
  clear cO
  rintro e w0 ⟨rfl, rfl⟩
  go_wp2_with (fail)
  (with_reducible refine cM.mono ?_)
  clear cM
  rintro e w1 ⟨gm, gs, bs, rfl, hM, hK1, hgm, hgs⟩
  have cW := Wr.new_calls w1
  go_wp2_with (fail)
  (with_reducible refine cW.mono ?_)
  clear cW
  rintro e w2 ⟨rfl, hG2, hK2, hsz2⟩
  obtain ⟨gw, hgw⟩ : ∃ gw, w1.heap.size = gw := ⟨_, rfl⟩
  rw [hgw] at hG2 hsz2 ⊢
  have cV := Fr.move_calls w2 A c b (Fr.C_keep (Fr.C_keep HC.out hK1) hK2) (by omega) HBY.out
  have HM := Aside0.mk hM
  have K1 := Aside0.mk hK1
  have K2 := Aside0.mk hK2
  have HG := Aside0.mk (And.intro hgm hgs)
  have HW := Aside0.mk (And.intro hgw (And.intro hG2 hsz2))
  clear hM hK1 hK2 hgm hgs hgw hG2 hsz2
  go_wp2_with (fail)
  (with_reducible refine cV.mono ?_)
  clear cV
  rintro e w3 ⟨v3, rfl, hR3, hB3⟩
  obtain ⟨A3, c3, rfl, hc3, hC3⟩ := Kd.R_reads hR3
  have cT := HT.out w3 A3 c3 hC3 hc3
  have B3 := Aside0.mk hB3
  clear hR3 hC3 hc3 hB3
  go_wp2_with (fail)
  (with_reducible refine cT.mono ?_)
  clear cT
  rintro e w4 ⟨v4, rfl, hR4, hB4⟩
  have R4 := Aside0.mk hR4
  have B4 := Aside0.mk hB4
  clear hR4 hB4
  go_wp2_with (at_builtin; refine Kd.R_append (Kd.int .i64) (W := w4) (w0 := w3) w3.heap.size rfl (.tmp 26) (.tmp 27) 29 3 (.int .i64 0) 8 rfl Tryz.underlying29 info3 rfl (by decide) (by decide) _ _ 257 [.int .i64 257] (fun _ => True) (fun _ => False) rfl rfl rfl (fun _ hk => hk.elim) (fun _ _ => trivial) R4.out B4.out B4.out.size (by omega) ?_)
  intro v5 w5 hR5 hB5 _ _
  obtain ⟨A5, c5, rfl⟩ := Kd.R_slice hR5
  obtain ⟨syms, hsy⟩ : ∃ syms, sy ++ [257] = syms := ⟨_, rfl⟩
  have hsn : ∀ s ∈ syms, 0 ≤ s ∧ s < 258 := by
    intro s h
    rw [← hsy] at h
    rcases List.mem_append.1 h with h | h
    · exact HS.out s h
    · rw [List.mem_singleton.1 h]; decide
  have hsl2 : syms.length ≤ 1000000 := by rw [← hsy, List.length_append, List.length_singleton]; omega
  have P0 : PkS w0 gm gw w3.heap.size w5.heap.size gs bs ∧ PkI w0 gm gw w3.heap.size w5.heap.size gs bs ord (.slice A5 (sy ++ [257]).length c5) (sy ++ [257]) 0 w5 st0 := by
    have hM := HM.out
    obtain ⟨hgw, hG2, hsz2⟩ := HW.out
    have k1 := K1.out.size
    have k3 := B3.out.size
    have k5 := hB5.size
    have hgmlt := blk_lt hM.G
    have hglt : ∀ j, j < 3 → gs j < w1.heap.size ∧ bs j < w1.heap.size := fun j hj => ⟨blk_lt (hM.M j hj).G, blk_lt (hM.M j hj).R⟩
    have kk : Keep [] w2 w5 := (Keep.below B3.out []).trans (Keep.below hB5 [])
    refine ⟨⟨by omega, by omega, k5, fun j hj => by have := hglt j hj; omega, by omega, fun j hj => by have := hglt j hj; omega, HG.out.1, by omega, HG.out.2⟩, ⟨(hM.keep K2.out (by simp) (by simp)).keep kk (by simp) (by simp), ⟨⟨_, (kk.block gw hsz2 (by simp)).trans hG2, Kd.R_nil _ _ _ _ _⟩, by omega, Nat.le_refl _⟩, ⟨w3.heap.size, Kd.R_mono (Kd.R_bound hR5) (fun k hk => ⟨hk.2.1, hk.2.2.1⟩)⟩, fun j _ => MOk.new, WOk.new, Nat.le_refl _, .inl rfl, by rw [List.drop_zero], (K1.out.trans K2.out).trans kk⟩⟩
  rw [hsy] at P0 ⊢
  have PS := Aside0.mk P0.1
  have P1 := Aside0.mk P0.2
  have HSN := Aside0.mk hsn
  have HSY := Aside0.mk hsy
  clear P0 hsn hsy hR5 hB5 HM K1 K2 HG HW B3 R4 B4 HT HS
  go_wp2_with (fail)
  go_loopw [30] (fun v30 wr => ∃ (i : Nat) (st : St), v30 = .int .i64 i ∧ Aside0 (i ≤ syms.length) ∧ Aside0 (PkI w0 gm gw w3.heap.size w5.heap.size gs bs ord (.slice A5 syms.length c5) syms i wr st)) (fun v30 _ => syms.length - (intOf v30).toNat)
  case atStart => exact ⟨0, _, rfl, ⟨by omega⟩, P1⟩
  case round =>
    obtain ⟨i, st, rfl, hi, hI⟩ := hrel
    have hile := hi.out
    by_cases hlt : i < syms.length
    · obtain ⟨base, hRS⟩ := hI.out.S
      obtain ⟨A6, c6, he6, hc6, hCS⟩ := Kd.R_reads hRS
      obtain ⟨ad, hA6, cI⟩ := Kd.at_int hCS i (by omega) (by omega)
      subst hA6
      injection he6 with e1 e2 e3
      subst e1 e3
      rw [Int.toNat_natCast, show rd syms i = syms.getD i 0 from by unfold rd; rw [Int.toNat_natCast]] at cI
      have hsb := HSN.out _ (get_mem hlt)
      obtain ⟨s, hs⟩ : ∃ s : Nat, syms.getD i 0 = s := ⟨(syms.getD i 0).toNat, by omega⟩
      rw [hs] at cI hsb
      have hs258 : s < 258 := by omega
      have fNow := Aside0.mk (fun Wx hx => hI.out.now HO.out Wx hx)
      have fSpan := Aside0.mk (fun Wx hx => hI.out.span HO.out Wx hx s hs258)
      have fTot := Aside0.mk (fun Wx hx => hI.out.total HO.out Wx hx)
      have fPut := Aside0.mk (fun Wx hx => hI.out.put PS.out HO.out Wx hx s hs258 (by omega))
      have fSaw := Aside0.mk (fun Wx h1 h2 => hI.out.saw PS.out HO.out Wx s hs258 hlt hs h1 h2)
      obtain ⟨k, hk⟩ : ∃ k, askF st.2.2 ord = k := ⟨_, rfl⟩
      obtain ⟨low, hlow⟩ : ∃ x, ((st.2.1 k).1.take s).sum = x := ⟨_, rfl⟩
      obtain ⟨sz, hsz⟩ : ∃ x, (st.2.1 k).1.getD s 0 = x := ⟨_, rfl⟩
      obtain ⟨tot, htot⟩ : ∃ x, (st.2.1 k).2 = x := ⟨_, rfl⟩
      rw [hk] at fNow
      rw [hk, hlow, hsz] at fSpan
      rw [hk, htot] at fTot
      rw [hk, hlow, hsz, htot] at fPut
      clear hk hlow hsz htot hs hsb hRS hCS hc6
      have cN := fNow.out wr (Keep.refl _ _)
      go_wp2_with (fail)
      (with_reducible refine cN.mono ?_)
      clear cN
      rintro e wa ⟨rfl, ka⟩
      have cS := fSpan.out wa ka
      go_wp2_with (fail)
      (with_reducible refine cS.mono ?_)
      clear cS
      rintro e wb ⟨rfl, kb⟩
      have cN := fNow.out wb kb
      clear ka
      go_wp2_with (fail)
      (with_reducible refine cN.mono ?_)
      clear cN
      rintro e wc ⟨rfl, kc⟩
      have cT := fTot.out wc kc
      clear kb
      go_wp2_with (fail)
      (with_reducible refine cT.mono ?_)
      clear cT
      rintro e wd ⟨rfl, kd⟩
      have cP := fPut.out wd kd
      clear kc
      go_wp2_with (fail)
      (with_reducible refine cP.mono ?_)
      clear cP
      rintro e we ⟨rfl, hWe, ke⟩
      have cW := fSaw.out we hWe ke
      clear kd hWe ke
      go_wp2_with (fail)
      (with_reducible refine cW.mono ?_)
      clear cW
      rintro e wf ⟨rfl, nI⟩
      have NI := Aside0.mk nI
      clear nI
      go_wp2_with (fail)
      go_roundw
      case rel => exact ⟨i + 1, _, by go_num, ⟨by omega⟩, NI⟩
      case measure => simp [intOf]; omega
    · obtain rfl : i = syms.length := by omega
      have cE := end_calls wr hI.out.Wt (by have := hI.out.len; omega) hI.out.wok.n
      have hfin : endF st.1.1 st.1.2.1 = packS ord syms := by
        have h := hI.out.eq
        rw [List.drop_length] at h
        unfold packS
        rw [h]; rfl
      rw [hfin] at cE
      clear hfin
      go_wp2_with (fail)
      (with_reducible refine cE.mono ?_)
      clear cE
      rintro e wz ⟨v, rfl, hRz, hBz⟩
      have RZ := Aside0.mk hRz
      have BZ := Aside0.mk hBz
      clear hRz hBz
      go_wp2_with (fail)
      go_ret2
      have hk := hI.out.K
      exact ⟨_, rfl, by rw [HSY.out]; exact Kd.R_lower RZ.out hk.size, (hk.toBelow (Nat.le_refl _) (by simp)).trans ⟨BZ.out.os, BZ.out.tape, BZ.out.output, BZ.out.size, fun k hk2 => BZ.out.block k (Nat.lt_of_lt_of_le hk2 hk.size)⟩⟩
end Go.Proofs.YtbbpplnnegdenaaGreat.Pk
end
