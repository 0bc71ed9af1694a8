/- Words, functions, walks and plain mathematics for TopBij, part 3: laid together by a program of this session (pack.py). -/
import Derived.Test.YtbbpplnnegdenaaGreatKTopBijb
import Derived.Lib.SlBytesConst
import Derived.RegionCalls
import Derived.Laws.MathBits
import Derived.Lib.SliceRun
import Derived.Lib.BytesEntry
import Derived.OrdersIn
import Derived.Laws.StructEq
set_option linter.unusedVariables false
set_option linter.unusedSimpArgs false
set_option maxHeartbeats 8000000
set_option maxRecDepth 100000
section
namespace Go.Proofs.YtbbpplnnegdenaaGreat.R8
open Go Go.RowKit Go.Shelf Go.Proofs Go.Sort Go.Proofs.YtbbpplnnegdenaaGreatW.PrintWords Go.Proofs.YtbbpplnnegdenaaGreatW.PrintLast Go.Proofs.YtbbpplnnegdenaaGreat.So Go.Proofs.YtbbpplnnegdenaaGreat.St Go.Proofs.YtbbpplnnegdenaaGreat.Mo Go.Proofs.YtbbpplnnegdenaaGreat.Qt Go.Proofs.YtbbpplnnegdenaaGreat.Oa Go.Proofs.YtbbpplnnegdenaaGreat.Oc Go.Proofs.YtbbpplnnegdenaaGreat.Os Go.Proofs.YtbbpplnnegdenaaGreat.Od Go.Proofs.YtbbpplnnegdenaaGreat.Of Go.Proofs.YtbbpplnnegdenaaGreat.Oz Go.Proofs.YtbbpplnnegdenaaGreat.Ot Go.Proofs.YtbbpplnnegdenaaGreat.Bt
open Go.Proofs.YtbbpplnnegdenaaGreat.Om (wd isT onT on_zero at_ at_mem at_pw at_of_mem Omega chr ltS ltT ixL)
def rotW (ws : List (List Int)) (t : Nat × Nat) : List Int := (wd ws t.1).drop t.2 ++ (wd ws t.1).take t.2
theorem rotW_length {ws : List (List Int)} {t : Nat × Nat} (h : isT ws t) : (rotW ws t).length = (wd ws t.1).length := by
 unfold rotW
 rw [List.length_append, List.length_drop, List.length_take]
 have := h.2; omega
structure In (W wr : World) (ws : List (List Int)) (v : Value) (T : List (Nat × Nat)) (i k : Nat) : Prop where
 K : RowKit.Below W.heap.size W wr
 R : kdT.R 36 wr W.heap.size (fun _ => True) v (T.map castT)
 srt : T.Pairwise (ltT ws)
 mem : ∀ t, t ∈ T ↔ isT ws t ∧ (t.1 < i ∨ (t.1 = i ∧ t.2 < k))
 len : T.length = offs ws i + k
theorem In.below {W wr w' : World} {ws : List (List Int)} {v : Value} {T : List (Nat × Nat)} {i k : Nat} (h : In W wr ws v T i k) (hB : RowKit.Below wr.heap.size wr w') : In W w' ws v T i k :=
 ⟨h.K.trans (hB.mono h.K.size), Kd.R_below h.R hB, h.srt, h.mem, h.len⟩
theorem In.word {W wr : World} {ws : List (List Int)} {v : Value} {T : List (Nat × Nat)} {i : Nat} (hi : i < ws.length) (h : In W wr ws v T i (wd ws i).length) : In W wr ws v T (i + 1) 0 := by
 refine ⟨h.K, h.R, h.srt, fun t => ?_, ?_⟩
 ·rw [h.mem]
  constructor
  ·rintro ⟨h1, h2⟩; exact ⟨h1, by omega⟩
  ·rintro ⟨h1, h2⟩
   refine ⟨h1, ?_⟩
   rcases Nat.lt_or_ge t.1 i with e | e
   ·exact .inl e
   ·have e2 : t.1 = i := by omega
    have := h1.2
    rw [e2] at this
    exact .inr ⟨e2, this⟩
 ·rw [h.len, offs_succ hi]; rfl
theorem In.put {W wr w3 : World} {ws : List (List Int)} {v v3 : Value} {T : List (Nat × Nat)} {i k j : Nat} (h : In W wr ws v T i k) (ht : isT ws (i, k)) (hj : j ≤ T.length)
  (h1 : ∀ q, j ≤ q → q < T.length → ltS (chr ws (i, k)) (chr ws (at_ T q))) (h2 : j = 0 ∨ ¬ ltS (chr ws (i, k)) (chr ws (at_ T (j - 1))))
  (hB : RowKit.Below wr.heap.size wr w3) (hR : kdT.R 36 w3 wr.heap.size (fun _ => True) v3 ((T.take j).map castT ++ [castT (i, k)] ++ (T.drop j).map castT)) : In W w3 ws v3 (T.take j ++ (i, k) :: T.drop j) i (k + 1) := by
 refine ⟨h.K.trans (hB.mono h.K.size), ?_, ?_, fun t => ?_, ?_⟩
 ·have := Kd.R_lower hR h.K.size
  rwa [List.append_assoc, List.singleton_append, ← List.map_cons, ← List.map_append] at this
 ·refine Ro.ins_rises h.srt (fun x hx => ?_) hj h1 h2
  have := ((h.mem x).1 hx).2
  unfold ixL; dsimp only; omega
 ·rw [List.mem_append, List.mem_cons]
  have e : t ∈ T ↔ t ∈ T.take j ∨ t ∈ T.drop j := by rw [← List.mem_append, List.take_append_drop]
  have hm := h.mem t
  constructor
  ·rintro (h3 | rfl | h3)
   ·have := hm.1 (e.2 (.inl h3)); exact ⟨this.1, by omega⟩
   ·exact ⟨ht, .inr ⟨rfl, Nat.lt_succ_self _⟩⟩
   ·have := hm.1 (e.2 (.inr h3)); exact ⟨this.1, by omega⟩
  ·rintro ⟨h3, h4⟩
   by_cases c : t = (i, k)
   ·exact .inr (.inl c)
   ·have : t ∈ T := hm.2 ⟨h3, by
     rcases h4 with h4 | ⟨h4, h5⟩
     ·exact .inl h4
     ·refine .inr ⟨h4, ?_⟩
      rcases Nat.lt_or_ge t.2 k with c2 | c2
      ·exact c2
      ·exact absurd (Prod.ext h4 (show t.2 = k by omega)) c⟩
    rcases e.1 this with c2 | c2
    ·exact .inl c2
    ·exact .inr (.inr c2)
 ·rw [List.length_append, List.length_cons, List.length_take, List.length_drop, Nat.min_eq_left hj]; have := h.len; omega
theorem e_R {w : World} {p base : Nat} (hp : w.heap[p]? = some (.cells #[] 36 (0, 0))) (hb : base ≤ p) : kdT.R 36 w base (fun _ => True) (.slice (some ⟨p, 0, none⟩) 0 0) [] :=
 ⟨fun _ _ => trivial, [], ⟨rfl, .inr ⟨p, 0, #[], rfl, hb, hp, Nat.le_refl _, Nat.zero_le _, rfl, rfl⟩⟩, Reps.none _ _⟩
theorem el_C {w : World} {p i k : Nat} (hp : w.heap[p]? = some (.cells #[.int .i64 i, .int .i64 k] 36 (0, 0))) : kdT.C w (some ⟨p, 0, none⟩) 1 [castT (i, k)] := by
 refine ⟨rfl, by decide, fun _ => ⟨⟨p, 0, none⟩, rfl, fun j q hj => ?_⟩⟩
 cases j with
 | succ j => simp at hj
 | zero =>
   injection hj with hj
   subst hj
   refine ⟨[.int .i64 i, .int .i64 k], rfl, ⟨[.int .i64 i], [.int .i64 k], rfl, rfl, rfl⟩, fun m u hu => ?_⟩
   match m, hu with
   | 0, hu => injection hu with hu; subst hu; exact blk_cell hp 0
   | 1, hu => injection hu with hu; subst hu; exact blk_cell hp 1
   | m + 2, hu => simp at hu
theorem kM {w W : World} {base : Nat} {okp : Nat → Prop} : ∀ x cs, kdT.K w x cs → kdT.M W base okp x cs := by
 intro x cs hk
 have := kdT_K hk
 rw [this]
 exact ⟨[.int .i64 x.1], [.int .i64 x.2], rfl, rfl, rfl⟩
structure Two (w W : World) (e x i k : Nat) : Prop where
 B : RowKit.Below w.heap.size w W
 E : W.heap[e]? = some (.cells #[] 36 (0, 0))
 X : W.heap[x]? = some (.cells #[.int .i64 i, .int .i64 k] 36 (0, 0))
theorem two_a (w : World) (i k : Nat) : Two w ((w.drew.alloc (.cells #[] 36)).alloc (.cells #[.int .i64 i, .int .i64 k] 36)) w.heap.size (w.heap.size + 1) i k := by
 refine ⟨(((RowKit.Below.refl _ w).drew).alloc (Nat.le_refl _) _).alloc (by simp) _, ?_, ?_⟩
 ·exact ((Gr.alloc (w.drew.alloc (.cells #[] 36)) _).keep.block _ (by simp) (by simp)).trans (World.alloc_heap_new w.drew _)
 ·have := World.alloc_heap_new (w.drew.alloc (.cells #[] 36)) (.cells #[.int .i64 i, .int .i64 k] 36)
  simpa using this
theorem two_b (w : World) (i k : Nat) : Two w ((w.drew.alloc (.cells #[.int .i64 i, .int .i64 k] 36)).alloc (.cells #[] 36)) (w.heap.size + 1) w.heap.size i k := by
 refine ⟨(((RowKit.Below.refl _ w).drew).alloc (Nat.le_refl _) _).alloc (by simp) _, ?_, ?_⟩
 ·have := World.alloc_heap_new (w.drew.alloc (.cells #[.int .i64 i, .int .i64 k] 36)) (.cells #[] 36)
  simpa using this
 ·exact ((Gr.alloc (w.drew.alloc (.cells #[.int .i64 i, .int .i64 k] 36)) _).keep.block _ (by simp) (by simp)).trans (World.alloc_heap_new w.drew _)
theorem one_c (w : World) : RowKit.Below w.heap.size w (w.drew.alloc (.cells #[] 36)) ∧ (w.drew.alloc (.cells #[] 36)).heap[w.heap.size]? = some (.cells #[] 36 (0, 0)) :=
 ⟨((RowKit.Below.refl _ w).drew).alloc (Nat.le_refl _) _, World.alloc_heap_new w.drew _⟩
theorem turns_calls (W : World) (Aw : Option Addr) (cw : Nat) (ws : List (List Int)) (hw : Words W Aw ws) (hl : offs ws ws.length ≤ 1000) (hn : ws.length ≤ 1000) (cv : Nat × Nat → Nat × Nat → Int)
  (hcv : ∀ t t', isT ws t → isT ws t' → (cv t t' < 0 ↔ ltS (chr ws t) (chr ws t')))
  (hT : ∀ (w : World) (A : Option Addr) (c : Nat) (t : Nat × Nat), isT ws t → (wd ws t.1).length ≤ c → (Kd.int .u8).C w A (wd ws t.1).length (wd ws t.1) →
   Calls Tryz.prog 34 #[.slice A (wd ws t.1).length c, .int .i64 t.2] w fun e w' => ∃ v, e = .returned v ∧ (Kd.int .u8).R 5 w' w.heap.size (fun _ => True) v (rotW ws t) ∧ RowKit.Below w.heap.size w w')
  (hC : ∀ (w : World) (A B : Option Addr) (c d : Nat) (t t' : Nat × Nat), isT ws t → isT ws t' → (wd ws t.1).length ≤ c → (wd ws t'.1).length ≤ d → (Kd.int .u8).C w A (wd ws t.1).length (rotW ws t) → (Kd.int .u8).C w B (wd ws t'.1).length (rotW ws t') →
   Calls Tryz.prog 35 #[.slice A (wd ws t.1).length c, .slice B (wd ws t'.1).length d] w fun e w' => e = .returned (.int .i64 (cv t t')) ∧ RowKit.Below w.heap.size w w') :
  Calls Tryz.prog 10 #[.slice Aw ws.length cw] W fun e W' => ∃ v T, e = .returned v ∧ Omega ws T ∧ kdT.R 36 W' W.heap.size (fun _ => True) v (T.map castT) ∧ RowKit.Below W.heap.size W W' := by
 obtain ⟨n, hnn⟩ : ∃ n, ws.length = n := ⟨_, rfl⟩
 have I0 : Aside0 (In W W ws (.slice none 0 0) [] 0 0) := ⟨⟨RowKit.Below.refl _ _, Kd.R_nil _ _ _ _ _, List.Pairwise.nil, fun t => ⟨fun h => by simp at h, fun h => by omega⟩, rfl⟩⟩
 have HW := Aside0.mk hw
 have HCV := Aside0.mk hcv
 have HT := Aside0.mk hT
 have HC := Aside0.mk hC
 have HN := Aside0.mk hnn
 have HL := Aside0.mk hl
 rw [hnn] at hn ⊢
 clear hw hcv hT hC hnn hl
 go_enter Tryz.func10, Tryz.ntmps10
 go_wp2_with (fail)
 go_loopw [3, 4] (fun v3 v4 wr => ∃ (i : Nat) (T : List (Nat × Nat)), v4 = .int .i64 i ∧ Aside0 (i ≤ n) ∧ Aside0 (In W wr ws v3 T i 0)) (fun v3 v4 _ => n - (intOf v4).toNat)
 case atStart => exact ⟨0, [], rfl, ⟨by omega⟩, I0⟩
 case round =>
  obtain ⟨i, T0, rfl, hi, hI⟩ := hrel
  have hile := hi.out
  by_cases hlt : i < n
  ·have hiw : i < ws.length := by rw [HN.out]; exact hlt
   obtain ⟨aw, B, c, rfl, cw0, hlc, hCw⟩ := HW.out.at hiw
   obtain ⟨L, hLL⟩ : ∃ L, (wd ws i).length = L := ⟨_, rfl⟩
   have hL1 := word_le hiw
   have hL1000 : L ≤ 1000 := by rw [← hLL]; have := HL.out; omega
   rw [hLL] at hlc hCw cw0
   have HLL := Aside0.mk hLL
   have HCw := Aside0.mk hCw
   have HCW0 := Aside0.mk cw0
   have HIW := Aside0.mk hiw
   clear hLL hCw hL1 cw0 hiw
   go_wp2_with (fail)
   go_loopw [3, 5] (fun v3 v5 wr => ∃ (k : Nat) (T : List (Nat × Nat)), v5 = .int .i64 k ∧ Aside0 (k ≤ L) ∧ Aside0 (In W wr ws v3 T i k)) (fun v3 v5 _ => L - (intOf v5).toNat)
   case atStart => exact ⟨0, T0, rfl, ⟨by omega⟩, hI⟩
   case round =>
    obtain ⟨k, T, rfl, hk, hJ⟩ := hrel
    have hkle := hk.out
    have cw1 := CellLe.below hJ.out.K _ _ HCW0.out
    by_cases hkl : k < L
    ·have ht : isT ws (i, k) := ⟨HIW.out, by show k < (wd ws i).length; rw [HLL.out]; exact hkl⟩
     have cT := HT.out wr B c (i, k) ht (by show (wd ws i).length ≤ c; rw [HLL.out]; exact hlc) (by
      show (Kd.int .u8).C wr B (wd ws i).length (wd ws i)
      rw [HLL.out]; exact C_le HCw.out (CellLe.below hJ.out.K))
     dsimp only at cT
     rw [HLL.out] at cT
     have HTT := Aside0.mk ht
     clear ht
     go_wp2_with (fail)
     (with_reducible refine cT.mono ?_)
     clear cT
     rintro e w1 ⟨v1, rfl, hR1, hB1⟩
     have hJ1 := Aside0.mk (hJ.out.below hB1)
     obtain ⟨A1, c1, rfl, hc1, hC1⟩ := Kd.R_reads hR1
     have hrl : (rotW ws (i, k)).length = L := (rotW_length HTT.out).trans HLL.out
     rw [hrl] at hc1 hC1 ⊢
     have HC1 := Aside0.mk hC1
     obtain ⟨At, ct, rfl⟩ := Kd.R_slice hJ1.out.R
     obtain ⟨Q, hQ⟩ : ∃ Q, T.length = Q := ⟨_, rfl⟩
     have hQs : Q ≤ 1000 := by
      rw [← hQ, hJ1.out.len]
      have h1 := offs_lt HTT.out
      dsimp only at h1
      have := HL.out; omega
     rw [List.length_map, hQ] at hJ1 ⊢
     have HQ := Aside0.mk hQ
     have HQS := Aside0.mk hQs
     clear hJ cw1 hR1 hB1 hC1 hrl hQ
     go_wp2_with (fail)
     go_loopw [7] (fun v7 wr => ∃ (j : Nat), v7 = .int .i64 j ∧ Aside0 (j ≤ Q) ∧ Aside0 (∀ q, j ≤ q → q < T.length → ltS (chr ws (i, k)) (chr ws (at_ T q))) ∧ Aside0 (In W wr ws (.slice At Q ct) T i k) ∧ Aside0 (RowKit.Below w1.heap.size w1 wr)) (fun v7 _ => (intOf v7).toNat)
     case atStart => exact ⟨Q, rfl, ⟨by omega⟩, ⟨fun q h1 h2 => by have := HQ.out; omega⟩, hJ1, ⟨RowKit.Below.refl _ _⟩⟩
     case round =>
      obtain ⟨j, rfl, hj, hF, hI1, hB1⟩ := hrel
      have hjle := hj.out
      rcases Nat.eq_zero_or_pos j with hj0 | hj0
      focus (
       have hz : decide ((0 : Int) < (j : Int)) = false := by rw [decide_eq_false_iff_not]; omega
       have hz2 : decide (0 < j) = false := by rw [decide_eq_false_iff_not]; omega
       have hE := Aside0.mk (show j = 0 ∨ ¬ ltS (chr ws (i, k)) (chr ws (at_ T (j - 1))) from .inl hj0)
       have hI9 := Aside0.mk (hI1.out.below ((RowKit.Below.refl _ wr).drew))
       clear hI1 hB1 hj0
       go_wp2_with (fail)
       refine start_ (n := 23) (S := fun w' => True) (ds := []) #[false, false, false, false, false, false, false, false, false, false, false, false, false, false, false, false, false, false, false, false, false, false, false] (by kernel_rfl) rfl rfl trivial (fun hHeld => ?_)
       refine pure_ (i := 0) (N := some 31) (v := ?_) (a' := ?_) #[true, false, false, false, false, false, false, false, false, false, false, false, false, false, false, false, false, false, false, false, false, false, false] rfl rfl (by kernel_rfl) (fun _ _ _ h => h) (Or.inl ⟨by rfl, ?_⟩) ?_ ?_
       rotate_left
       ·intro w'
        go_simp
        with_reducible rfl
       rotate_left
       ·simp only [Act.put, List.setIfInBounds_toArray, List.set_cons_zero, List.set_cons_succ, i64_w, i32_w]
        rfl
       refine pure_ (i := 1) (N := some 32) (v := ?_) (a' := ?_) #[true, true, false, false, false, false, false, false, false, false, false, false, false, false, false, false, false, false, false, false, false, false, false] rfl rfl (by kernel_rfl) (fun _ _ _ h => h) (Or.inl ⟨by rfl, ?_⟩) ?_ ?_
       rotate_left
       ·intro w'
        go_simp
        with_reducible rfl
       rotate_left
       ·simp only [Act.put, List.setIfInBounds_toArray, List.set_cons_zero, List.set_cons_succ, i64_w, i32_w]
        rfl
       refine pure_ (i := 2) (N := some 33) (v := ?_) (a' := ?_) #[true, true, true, false, false, false, false, false, false, false, false, false, false, false, false, false, false, false, false, false, false, false, false] rfl rfl (by kernel_rfl) (fun _ _ _ h => h) (Or.inl ⟨by rfl, ?_⟩) ?_ ?_
       rotate_left
       ·intro w'
        go_simp
        with_reducible rfl
       rotate_left
       ·simp only [Act.put, List.setIfInBounds_toArray, List.set_cons_zero, List.set_cons_succ, i64_w, i32_w]
        rfl
       refine pure_ (i := 3) (N := some 34) (v := undef) (a' := ?_) #[true, true, true, true, false, false, false, false, false, false, false, false, false, false, false, false, false, false, false, false, false, false, false] rfl rfl (by kernel_rfl) (fun _ _ _ h => h) (Or.inr ⟨by rfl, rfl⟩) ?_ ?_
       rotate_left
       ·simp only [Act.put, List.setIfInBounds_toArray, List.set_cons_zero, List.set_cons_succ, i64_w, i32_w]
        rfl
       refine pure_ (i := 4) (N := some 35) (v := undef) (a' := ?_) #[true, true, true, true, true, false, false, false, false, false, false, false, false, false, false, false, false, false, false, false, false, false, false] rfl rfl (by kernel_rfl) (fun _ _ _ h => h) (Or.inr ⟨by rfl, rfl⟩) ?_ ?_
       rotate_left
       ·simp only [Act.put, List.setIfInBounds_toArray, List.set_cons_zero, List.set_cons_succ, i64_w, i32_w]
        rfl
       refine pure_ (i := 5) (N := some 36) (v := undef) (a' := ?_) #[true, true, true, true, true, true, false, false, false, false, false, false, false, false, false, false, false, false, false, false, false, false, false] rfl rfl (by kernel_rfl) (fun _ _ _ h => h) (Or.inr ⟨by rfl, rfl⟩) ?_ ?_
       rotate_left
       ·simp only [Act.put, List.setIfInBounds_toArray, List.set_cons_zero, List.set_cons_succ, i64_w, i32_w]
        rfl
       refine pure_ (i := 6) (N := some 37) (v := undef) (a' := ?_) #[true, true, true, true, true, true, true, false, false, false, false, false, false, false, false, false, false, false, false, false, false, false, false] rfl rfl (by kernel_rfl) (fun _ _ _ h => h) (Or.inr ⟨by rfl, rfl⟩) ?_ ?_
       rotate_left
       ·simp only [Act.put, List.setIfInBounds_toArray, List.set_cons_zero, List.set_cons_succ, i64_w, i32_w]
        rfl
       refine pure_ (i := 7) (N := some 38) (v := undef) (a' := ?_) #[true, true, true, true, true, true, true, true, false, false, false, false, false, false, false, false, false, false, false, false, false, false, false] rfl rfl (by kernel_rfl) (fun _ _ _ h => h) (Or.inr ⟨by rfl, rfl⟩) ?_ ?_
       rotate_left
       ·simp only [Act.put, List.setIfInBounds_toArray, List.set_cons_zero, List.set_cons_succ, i64_w, i32_w]
        rfl
       refine pure_ (i := 8) (N := some 39) (v := undef) (a' := ?_) #[true, true, true, true, true, true, true, true, true, false, false, false, false, false, false, false, false, false, false, false, false, false, false] rfl rfl (by kernel_rfl) (fun _ _ _ h => h) (Or.inr ⟨by rfl, rfl⟩) ?_ ?_
       rotate_left
       ·simp only [Act.put, List.setIfInBounds_toArray, List.set_cons_zero, List.set_cons_succ, i64_w, i32_w]
        rfl
       refine pure_ (i := 9) (N := some 40) (v := undef) (a' := ?_) #[true, true, true, true, true, true, true, true, true, true, false, false, false, false, false, false, false, false, false, false, false, false, false] rfl rfl (by kernel_rfl) (fun _ _ _ h => h) (Or.inr ⟨by rfl, rfl⟩) ?_ ?_
       rotate_left
       ·simp only [Act.put, List.setIfInBounds_toArray, List.set_cons_zero, List.set_cons_succ, i64_w, i32_w]
        rfl
       refine pure_ (i := 10) (N := some 41) (v := undef) (a' := ?_) #[true, true, true, true, true, true, true, true, true, true, true, false, false, false, false, false, false, false, false, false, false, false, false] rfl rfl (by kernel_rfl) (fun _ _ _ h => h) (Or.inr ⟨by rfl, rfl⟩) ?_ ?_
       rotate_left
       ·simp only [Act.put, List.setIfInBounds_toArray, List.set_cons_zero, List.set_cons_succ, i64_w, i32_w]
        rfl
       refine pure_ (i := 11) (N := some 42) (v := undef) (a' := ?_) #[true, true, true, true, true, true, true, true, true, true, true, true, false, false, false, false, false, false, false, false, false, false, false] rfl rfl (by kernel_rfl) (fun _ _ _ h => h) (Or.inr ⟨by rfl, rfl⟩) ?_ ?_
       rotate_left
       ·simp only [Act.put, List.setIfInBounds_toArray, List.set_cons_zero, List.set_cons_succ, i64_w, i32_w]
        rfl
       refine pure_ (i := 12) (N := some 43) (v := undef) (a' := ?_) #[true, true, true, true, true, true, true, true, true, true, true, true, true, false, false, false, false, false, false, false, false, false, false] rfl rfl (by kernel_rfl) (fun _ _ _ h => h) (Or.inr ⟨by rfl, rfl⟩) ?_ ?_
       rotate_left
       ·simp only [Act.put, List.setIfInBounds_toArray, List.set_cons_zero, List.set_cons_succ, i64_w, i32_w]
        rfl
       refine pure_ (i := 13) (N := some 44) (v := undef) (a' := ?_) #[true, true, true, true, true, true, true, true, true, true, true, true, true, true, false, false, false, false, false, false, false, false, false] rfl rfl (by kernel_rfl) (fun _ _ _ h => h) (Or.inr ⟨by rfl, rfl⟩) ?_ ?_
       rotate_left
       ·simp only [Act.put, List.setIfInBounds_toArray, List.set_cons_zero, List.set_cons_succ, i64_w, i32_w]
        rfl
       refine pure_ (i := 14) (N := some 45) (v := undef) (a' := ?_) #[true, true, true, true, true, true, true, true, true, true, true, true, true, true, true, false, false, false, false, false, false, false, false] rfl rfl (by kernel_rfl) (fun _ _ _ h => h) (Or.inr ⟨by rfl, rfl⟩) ?_ ?_
       rotate_left
       ·simp only [Act.put, List.setIfInBounds_toArray, List.set_cons_zero, List.set_cons_succ, i64_w, i32_w]
        rfl
       refine pure_ (i := 15) (N := some 46) (v := undef) (a' := ?_) #[true, true, true, true, true, true, true, true, true, true, true, true, true, true, true, true, false, false, false, false, false, false, false] rfl rfl (by kernel_rfl) (fun _ _ _ h => h) (Or.inr ⟨by rfl, rfl⟩) ?_ ?_
       rotate_left
       ·simp only [Act.put, List.setIfInBounds_toArray, List.set_cons_zero, List.set_cons_succ, i64_w, i32_w]
        rfl
       refine pure_ (i := 16) (N := some 47) (v := undef) (a' := ?_) #[true, true, true, true, true, true, true, true, true, true, true, true, true, true, true, true, true, false, false, false, false, false, false] rfl rfl (by kernel_rfl) (fun _ _ _ h => h) (Or.inr ⟨by rfl, rfl⟩) ?_ ?_
       rotate_left
       ·simp only [Act.put, List.setIfInBounds_toArray, List.set_cons_zero, List.set_cons_succ, i64_w, i32_w]
        rfl
       refine pure_ (i := 17) (N := some 48) (v := undef) (a' := ?_) #[true, true, true, true, true, true, true, true, true, true, true, true, true, true, true, true, true, true, false, false, false, false, false] rfl rfl (by kernel_rfl) (fun _ _ _ h => h) (Or.inr ⟨by rfl, rfl⟩) ?_ ?_
       rotate_left
       ·simp only [Act.put, List.setIfInBounds_toArray, List.set_cons_zero, List.set_cons_succ, i64_w, i32_w]
        rfl
       refine pure_ (i := 18) (N := some 49) (v := undef) (a' := ?_) #[true, true, true, true, true, true, true, true, true, true, true, true, true, true, true, true, true, true, true, false, false, false, false] rfl rfl (by kernel_rfl) (fun _ _ _ h => h) (Or.inr ⟨by rfl, rfl⟩) ?_ ?_
       rotate_left
       ·simp only [Act.put, List.setIfInBounds_toArray, List.set_cons_zero, List.set_cons_succ, i64_w, i32_w]
        rfl
       refine pure_ (i := 19) (N := some 50) (v := undef) (a' := ?_) #[true, true, true, true, true, true, true, true, true, true, true, true, true, true, true, true, true, true, true, true, false, false, false] rfl rfl (by kernel_rfl) (fun _ _ _ h => h) (Or.inr ⟨by rfl, rfl⟩) ?_ ?_
       rotate_left
       ·simp only [Act.put, List.setIfInBounds_toArray, List.set_cons_zero, List.set_cons_succ, i64_w, i32_w]
        rfl
       refine pure_ (i := 20) (N := some 51) (v := undef) (a' := ?_) #[true, true, true, true, true, true, true, true, true, true, true, true, true, true, true, true, true, true, true, true, true, false, false] rfl rfl (by kernel_rfl) (fun _ _ _ h => h) (Or.inr ⟨by rfl, rfl⟩) ?_ ?_
       rotate_left
       ·simp only [Act.put, List.setIfInBounds_toArray, List.set_cons_zero, List.set_cons_succ, i64_w, i32_w]
        rfl
       refine pure_ (i := 21) (N := some 52) (v := undef) (a' := ?_) #[true, true, true, true, true, true, true, true, true, true, true, true, true, true, true, true, true, true, true, true, true, true, false] rfl rfl (by kernel_rfl) (fun _ _ _ h => h) (Or.inr ⟨by rfl, rfl⟩) ?_ ?_
       rotate_left
       ·simp only [Act.put, List.setIfInBounds_toArray, List.set_cons_zero, List.set_cons_succ, i64_w, i32_w]
        rfl
       refine pure_ (i := 22) (N := some 53) (v := ?_) (a' := ?_) #[true, true, true, true, true, true, true, true, true, true, true, true, true, true, true, true, true, true, true, true, true, true, true] rfl rfl (by kernel_rfl) (fun _ _ _ h => h) (Or.inl ⟨by rfl, ?_⟩) ?_ ?_
       rotate_left
       ·intro w'
        go_simp
        with_reducible rfl
       rotate_left
       ·simp only [Act.put, List.setIfInBounds_toArray, List.set_cons_zero, List.set_cons_succ, i64_w, i32_w]
        rfl
       refine done_ (by kernel_rfl) ?_
       generalize wr.drew = w5 at hI9 ⊢)
      rotate_left
      focus (
       obtain ⟨jp, hjp⟩ : ∃ jp, j = jp + 1 := ⟨j - 1, by omega⟩
       have hz : decide ((0 : Int) < (j : Int)) = true := by rw [decide_eq_true_iff]; omega
       have hz2 : decide (0 < j) = true := by rw [decide_eq_true_iff]; omega
       have hjQ : jp < T.length := by have := HQ.out; omega
       have hjQi : (jp : Int) < (Q : Int) := by have := HQ.out; omega
       have hw1 : IntKind.i64.wrap ((j : Int) - 1) = (jp : Int) := by rw [i64_id (by omega) (by omega)]; omega
       obtain ⟨t', ht'⟩ : ∃ t', at_ T jp = t' := ⟨_, rfl⟩
       have hti : isT ws t' := by rw [← ht']; exact ((hI1.out.mem _).1 (at_mem hjQ)).1
       obtain ⟨bT, cT', eT, _, _, hTR⟩ := TRow.of hI1.out.R (by omega)
       rw [HQ.out] at eT
       injection eT with eT1 eT2 eT3
       subst eT1 eT3
       have cT := hTR.cell hjQ
       rw [ht', Nat.mul_comm] at cT
       obtain ⟨aw', B2, c2, eaw, cw2, hlc2, hCw2⟩ := HW.out.at hti.1
       injection eaw with eaw
       subst eaw
       have cw3 := CellLe.below hI1.out.K _ _ cw2
       obtain ⟨t1, hT1⟩ : ∃ t1, t'.1 = t1 := ⟨_, rfl⟩
       obtain ⟨t2, hT2⟩ : ∃ t2, t'.2 = t2 := ⟨_, rfl⟩
       obtain ⟨L2, hL2⟩ : ∃ L2, (wd ws t'.1).length = L2 := ⟨_, rfl⟩
       obtain ⟨x, hx⟩ : ∃ x, cv (i, k) t' = x := ⟨_, rfl⟩
       have hxl := HCV.out (i, k) t' HTT.out hti
       rw [hx] at hxl
       have hI5 : ∀ w5, RowKit.Below wr.drew.heap.size wr.drew w5 → In W w5 ws (.slice (some ⟨bT, 0, none⟩) Q ct) T i k := fun w5 h5 => hI1.out.below (((RowKit.Below.refl _ wr).drew).trans h5)
       have CC0 := Aside0.mk (show ∀ (w4 : World) (A4 : Option Addr) (c4 : Nat), L2 ≤ c4 → (Kd.int .u8).C w4 A4 L2 (rotW ws t') → RowKit.Below wr.drew.heap.size wr.drew w4 → Calls Tryz.prog 35 #[.slice A1 L c1, .slice A4 L2 c4] w4 fun e w' => e = .returned (.int .i64 x) ∧ RowKit.Below w4.heap.size w4 w' from fun w4 A4 c4 h1 h2 h3 => by
        have h := HC.out w4 A1 A4 c1 c4 (i, k) t' HTT.out hti (by show (wd ws i).length ≤ c1; rw [HLL.out]; exact hc1) (by rw [hL2]; exact h1) (by
         show (Kd.int .u8).C w4 A1 (wd ws i).length (rotW ws (i, k))
         rw [HLL.out]
         exact C_le HC1.out (((CellLe.below hB1.out).trans (Gr.drew wr).le).trans (CellLe.below h3))) (by rw [hL2]; exact h2)
        dsimp only at h
        rw [hx, hL2, HLL.out] at h
        exact h)
       have CT2 := Aside0.mk (HT.out wr.drew B2 c2 t' hti hlc2 (C_le hCw2 ((CellLe.below hI1.out.K).trans (Gr.drew wr).le)))
       have RL2 := Aside0.mk ((rotW_length hti).trans hL2)
       rw [hL2, hT2] at CT2
       rw [hT1, hT2] at cT
       rw [hL2, hT1] at cw3
       have ht1 : t1 < n := by rw [← hT1, ← HN.out]; exact hti.1
       have F1 := Aside0.mk ((Gr.drew wr).le _ _ cT.1)
       have F2 := Aside0.mk ((Gr.drew wr).le _ _ cT.2)
       have F3 := Aside0.mk ((Gr.drew wr).le _ _ cw3)
       have HTJ := Aside0.mk ht'
       have HXL := Aside0.mk hxl
       have HI5 := Aside0.mk hI5
       have HJP := Aside0.mk hjp
       have HBW := hB1
       clear hI1 hB1 hjp hjQ ht' hti hTR cT cw2 hlc2 hCw2 cw3 hT1 hT2 hL2 hx hxl hI5 eT2
       go_wp2_with (fail)
       refine start_ (n := 23) (S := fun w' => w'.cell? ⟨bT, jp * 2, none⟩ = some (.int .i64 t1) ∧ w'.cell? ⟨bT, jp * 2 + 1, none⟩ = some (.int .i64 t2) ∧ w'.cell? (aw.add t1) = some (.slice B2 L2 c2)) (ds := []) #[false, false, false, false, false, false, false, false, false, false, false, false, false, false, false, false, false, false, false, false, false, false, false] (by kernel_rfl) rfl rfl ⟨F1.out, F2.out, F3.out⟩ (fun hHeld => ?_)
       refine pure_ (i := 0) (N := some 31) (v := ?_) (a' := ?_) #[true, false, false, false, false, false, false, false, false, false, false, false, false, false, false, false, false, false, false, false, false, false, false] rfl rfl (by kernel_rfl) (fun _ _ _ h => h) (Or.inl ⟨by rfl, ?_⟩) ?_ ?_
       rotate_left
       ·intro w'
        go_simp
        with_reducible rfl
       rotate_left
       ·simp only [Act.put, List.setIfInBounds_toArray, List.set_cons_zero, List.set_cons_succ, i64_w, i32_w]
        rfl
       refine pure_ (i := 1) (N := some 32) (v := ?_) (a' := ?_) #[true, true, false, false, false, false, false, false, false, false, false, false, false, false, false, false, false, false, false, false, false, false, false] rfl rfl (by kernel_rfl) (fun _ _ _ h => h) (Or.inl ⟨by rfl, ?_⟩) ?_ ?_
       rotate_left
       ·intro w'
        go_simp
        with_reducible rfl
       rotate_left
       ·simp only [Act.put, List.setIfInBounds_toArray, List.set_cons_zero, List.set_cons_succ, i64_w, i32_w]
        rfl
       refine pure_ (i := 2) (N := some 33) (v := ?_) (a' := ?_) #[true, true, true, false, false, false, false, false, false, false, false, false, false, false, false, false, false, false, false, false, false, false, false] rfl rfl (by kernel_rfl) (fun _ _ _ h => h) (Or.inl ⟨by rfl, ?_⟩) ?_ ?_
       rotate_left
       ·intro w'
        go_simp
        with_reducible rfl
       rotate_left
       ·simp only [Act.put, List.setIfInBounds_toArray, List.set_cons_zero, List.set_cons_succ, i64_w, i32_w]
        rfl
       refine pure_ (i := 3) (N := some 34) (v := ?_) (a' := ?_) #[true, true, true, true, false, false, false, false, false, false, false, false, false, false, false, false, false, false, false, false, false, false, false] rfl rfl (by kernel_rfl) (fun _ _ _ h => h) (Or.inl ⟨by rfl, ?_⟩) ?_ ?_
       rotate_left
       ·intro w'
        go_simp
        with_reducible rfl
       rotate_left
       ·simp only [Act.put, List.setIfInBounds_toArray, List.set_cons_zero, List.set_cons_succ, i64_w, i32_w]
        rfl
       refine pure_ (i := 4) (N := some 35) (v := ?_) (a' := ?_) #[true, true, true, true, true, false, false, false, false, false, false, false, false, false, false, false, false, false, false, false, false, false, false] rfl rfl (by kernel_rfl) (fun _ _ _ h => h) (Or.inl ⟨by rfl, ?_⟩) ?_ ?_
       rotate_left
       ·intro w'
        go_simp
        with_reducible rfl
       rotate_left
       ·simp only [Act.put, List.setIfInBounds_toArray, List.set_cons_zero, List.set_cons_succ, i64_w, i32_w]
        rfl
       refine pure_ (i := 5) (N := some 36) (v := ?_) (a' := ?_) #[true, true, true, true, true, true, false, false, false, false, false, false, false, false, false, false, false, false, false, false, false, false, false] rfl rfl (by kernel_rfl) (fun _ _ _ h => h) (Or.inl ⟨by rfl, ?_⟩) ?_ ?_
       rotate_left
       ·intro w'
        go_simp
        with_reducible rfl
       rotate_left
       ·simp only [Act.put, List.setIfInBounds_toArray, List.set_cons_zero, List.set_cons_succ, i64_w, i32_w]
        rfl
       refine pure_ (i := 6) (N := some 37) (v := ?_) (a' := ?_) #[true, true, true, true, true, true, true, false, false, false, false, false, false, false, false, false, false, false, false, false, false, false, false] rfl rfl (by kernel_rfl) (fun _ _ _ h => h) (Or.inl ⟨by rfl, ?_⟩) ?_ ?_
       rotate_left
       ·intro w'
        go_simp
        with_reducible rfl
       rotate_left
       ·simp only [Act.put, List.setIfInBounds_toArray, List.set_cons_zero, List.set_cons_succ, i64_w, i32_w]
        rfl
       refine pure_ (i := 7) (N := some 38) (v := ?_) (a' := ?_) #[true, true, true, true, true, true, true, true, false, false, false, false, false, false, false, false, false, false, false, false, false, false, false] rfl rfl (by kernel_rfl) (fun _ _ _ h => h) (Or.inl ⟨by rfl, ?_⟩) ?_ ?_
       rotate_left
       ·intro w'
        go_simp
        with_reducible rfl
       rotate_left
       ·simp only [Act.put, List.setIfInBounds_toArray, List.set_cons_zero, List.set_cons_succ, i64_w, i32_w]
        rfl
       refine pure_ (i := 8) (N := some 39) (v := ?_) (a' := ?_) #[true, true, true, true, true, true, true, true, true, false, false, false, false, false, false, false, false, false, false, false, false, false, false] rfl rfl (by kernel_rfl) (fun _ _ _ h => h) (Or.inl ⟨by rfl, ?_⟩) ?_ ?_
       rotate_left
       ·intro w'
        go_simp
        with_reducible rfl
       rotate_left
       ·simp only [Act.put, List.setIfInBounds_toArray, List.set_cons_zero, List.set_cons_succ, i64_w, i32_w]
        rfl
       refine pure_ (i := 9) (N := some 40) (v := ?_) (a' := ?_) #[true, true, true, true, true, true, true, true, true, true, false, false, false, false, false, false, false, false, false, false, false, false, false] rfl rfl (by kernel_rfl) (fun _ _ _ h => h) (Or.inl ⟨by rfl, ?_⟩) ?_ ?_
       rotate_left
       ·intro w'
        go_simp
        with_reducible rfl
       rotate_left
       ·simp only [Act.put, List.setIfInBounds_toArray, List.set_cons_zero, List.set_cons_succ, i64_w, i32_w]
        rfl
       refine pure_ (i := 13) (N := some 44) (v := ?_) (a' := ?_) #[true, true, true, true, true, true, true, true, true, true, false, false, false, true, false, false, false, false, false, false, false, false, false] rfl rfl (by kernel_rfl) (fun _ _ _ h => h) (Or.inl ⟨by rfl, ?_⟩) ?_ ?_
       rotate_left
       ·intro w'
        go_simp
        with_reducible rfl
       rotate_left
       ·simp only [Act.put, List.setIfInBounds_toArray, List.set_cons_zero, List.set_cons_succ, i64_w, i32_w]
        rfl
       refine pure_ (i := 14) (N := some 45) (v := ?_) (a' := ?_) #[true, true, true, true, true, true, true, true, true, true, false, false, false, true, true, false, false, false, false, false, false, false, false] rfl rfl (by kernel_rfl) (fun _ _ _ h => h) (Or.inl ⟨by rfl, ?_⟩) ?_ ?_
       rotate_left
       ·intro w'
        go_simp
        with_reducible rfl
       rotate_left
       ·simp only [Act.put, List.setIfInBounds_toArray, List.set_cons_zero, List.set_cons_succ, i64_w, i32_w]
        rfl
       refine pure_ (i := 15) (N := some 46) (v := ?_) (a' := ?_) #[true, true, true, true, true, true, true, true, true, true, false, false, false, true, true, true, false, false, false, false, false, false, false] rfl rfl (by kernel_rfl) (fun _ _ _ h => h) (Or.inl ⟨by rfl, ?_⟩) ?_ ?_
       rotate_left
       ·intro w'
        go_simp
        with_reducible rfl
       rotate_left
       ·simp only [Act.put, List.setIfInBounds_toArray, List.set_cons_zero, List.set_cons_succ, i64_w, i32_w]
        rfl
       refine pure_ (i := 16) (N := some 47) (v := ?_) (a' := ?_) #[true, true, true, true, true, true, true, true, true, true, false, false, false, true, true, true, true, false, false, false, false, false, false] rfl rfl (by kernel_rfl) (fun _ _ _ h => h) (Or.inl ⟨by rfl, ?_⟩) ?_ ?_
       rotate_left
       ·intro w'
        go_simp
        with_reducible rfl
       rotate_left
       ·simp only [Act.put, List.setIfInBounds_toArray, List.set_cons_zero, List.set_cons_succ, i64_w, i32_w]
        rfl
       refine pure_ (i := 17) (N := some 48) (v := ?_) (a' := ?_) #[true, true, true, true, true, true, true, true, true, true, false, false, false, true, true, true, true, true, false, false, false, false, false] rfl rfl (by kernel_rfl) (fun _ _ _ h => h) (Or.inl ⟨by rfl, ?_⟩) ?_ ?_
       rotate_left
       ·intro w'
        go_simp
        with_reducible rfl
       rotate_left
       ·simp only [Act.put, List.setIfInBounds_toArray, List.set_cons_zero, List.set_cons_succ, i64_w, i32_w]
        rfl
       refine take_ (i := 10) (N := some 41) (v := ?_) (a' := ?_) #[true, true, true, true, true, true, true, true, true, true, true, false, false, true, true, true, true, true, false, false, false, false, false] rfl rfl (by kernel_rfl) (fun _ _ _ h => h) (Or.inl ⟨by rfl, ?_⟩) hHeld ?_ ?_
       rotate_left
       ·rintro w' ⟨s0, s1, s2⟩
        go_simp
        with_reducible rfl
       rotate_left
       ·simp only [Act.put, List.setIfInBounds_toArray, List.set_cons_zero, List.set_cons_succ, i64_w, i32_w]
        rfl
       refine pure_ (i := 11) (N := some 42) (v := ?_) (a' := ?_) #[true, true, true, true, true, true, true, true, true, true, true, true, false, true, true, true, true, true, false, false, false, false, false] rfl rfl (by kernel_rfl) (fun _ _ _ h => h) (Or.inl ⟨by rfl, ?_⟩) ?_ ?_
       rotate_left
       ·intro w'
        go_simp
        with_reducible rfl
       rotate_left
       ·simp only [Act.put, List.setIfInBounds_toArray, List.set_cons_zero, List.set_cons_succ, i64_w, i32_w]
        rfl
       refine take_ (i := 12) (N := some 43) (v := ?_) (a' := ?_) #[true, true, true, true, true, true, true, true, true, true, true, true, true, true, true, true, true, true, false, false, false, false, false] rfl rfl (by kernel_rfl) (fun _ _ _ h => h) (Or.inl ⟨by rfl, ?_⟩) hHeld ?_ ?_
       rotate_left
       ·rintro w' ⟨s0, s1, s2⟩
        go_simp
        with_reducible rfl
       rotate_left
       ·simp only [Act.put, List.setIfInBounds_toArray, List.set_cons_zero, List.set_cons_succ, i64_w, i32_w]
        rfl
       refine take_ (i := 18) (N := some 49) (v := ?_) (a' := ?_) #[true, true, true, true, true, true, true, true, true, true, true, true, true, true, true, true, true, true, true, false, false, false, false] rfl rfl (by kernel_rfl) (fun _ _ _ h => h) (Or.inl ⟨by rfl, ?_⟩) hHeld ?_ ?_
       rotate_left
       ·rintro w' ⟨s0, s1, s2⟩
        go_simp
        with_reducible rfl
       rotate_left
       ·simp only [Act.put, List.setIfInBounds_toArray, List.set_cons_zero, List.set_cons_succ, i64_w, i32_w]
        rfl
       refine one_ (i := 19) (N := some 50) #[true, true, true, true, true, true, true, true, true, true, true, true, true, true, true, true, true, true, true, true, false, false, false] rfl rfl (by kernel_rfl) (by decide) (fun K hK => ?_)
       refine goes_ Tryz.func34 (by kernel_rfl) rfl #[.slice B2 L2 c2, .int .i64 t2] (by rfl) rfl rfl (by simp only [List.map_toArray, List.map_cons, List.map_nil]; rfl) ?_
       with_reducible refine (CT2.out).mono ?_
       rintro e w4 ⟨v4, rfl, hR4, hB4⟩
       refine ⟨_, rfl, ?_⟩
       obtain ⟨A4, c4, rfl, hc4, hC4⟩ := Kd.R_reads hR4
       have HB4 := Aside0.mk hB4
       have HC4 := Aside0.mk hC4
       have HK4 := Aside0.mk hc4
       rw [RL2.out] at HC4 HK4 ⊢
       have CC := Aside0.mk (CC0.out w4 A4 c4 HK4.out HC4.out HB4.out)
       clear hR4 hB4 hc4 hC4
       refine hK.out _ _ ⟨CellLe.below HB4.out _ _ hHeld.1, CellLe.below HB4.out _ _ hHeld.2.1, CellLe.below HB4.out _ _ hHeld.2.2⟩ (fun hHeld => ?_)
       clear hK K
       refine norm_ (a' := ?_) ?_ ?_
       rotate_left
       ·show Act.put _ (some 50) _ = _
        simp only [Act.put, List.setIfInBounds_toArray, List.set_cons_zero, List.set_cons_succ, i64_w, i32_w]
        rfl
       refine one_ (i := 20) (N := some 51) #[true, true, true, true, true, true, true, true, true, true, true, true, true, true, true, true, true, true, true, true, true, false, false] rfl rfl (by kernel_rfl) (by decide) (fun K hK => ?_)
       refine goes_ Tryz.func35 (by kernel_rfl) rfl #[.slice A1 L c1, .slice A4 L2 c4] (by rfl) rfl rfl (by simp only [List.map_toArray, List.map_cons, List.map_nil]; rfl) ?_
       with_reducible refine (CC.out).mono ?_
       rintro e w5 ⟨rfl, hB5⟩
       refine ⟨_, rfl, ?_⟩
       have HB5 := Aside0.mk hB5
       clear hB5
       refine hK.out _ _ ⟨CellLe.below HB5.out _ _ hHeld.1, CellLe.below HB5.out _ _ hHeld.2.1, CellLe.below HB5.out _ _ hHeld.2.2⟩ (fun hHeld => ?_)
       clear hK K
       refine norm_ (a' := ?_) ?_ ?_
       rotate_left
       ·show Act.put _ (some 51) _ = _
        simp only [Act.put, List.setIfInBounds_toArray, List.set_cons_zero, List.set_cons_succ, i64_w, i32_w]
        rfl
       refine pure_ (i := 21) (N := some 52) (v := ?_) (a' := ?_) #[true, true, true, true, true, true, true, true, true, true, true, true, true, true, true, true, true, true, true, true, true, true, false] rfl rfl (by kernel_rfl) (fun _ _ _ h => h) (Or.inl ⟨by rfl, ?_⟩) ?_ ?_
       rotate_left
       ·intro w'
        go_simp
        with_reducible rfl
       rotate_left
       ·simp only [Act.put, List.setIfInBounds_toArray, List.set_cons_zero, List.set_cons_succ, i64_w, i32_w]
        rfl
       refine pure_ (i := 22) (N := some 53) (v := ?_) (a' := ?_) #[true, true, true, true, true, true, true, true, true, true, true, true, true, true, true, true, true, true, true, true, true, true, true] rfl rfl (by kernel_rfl) (fun _ _ _ h => h) (Or.inl ⟨by rfl, ?_⟩) ?_ ?_
       rotate_left
       ·intro w'
        go_simp
        with_reducible rfl
       rotate_left
       ·simp only [Act.put, List.setIfInBounds_toArray, List.set_cons_zero, List.set_cons_succ, i64_w, i32_w]
        rfl
       refine done_ (by kernel_rfl) ?_
       have hI9 := Aside0.mk (HI5.out w5 (HB4.out.trans (HB5.out.mono HB4.out.size)))
       by_cases hx0 : x < 0
       ·have hF2 := Aside0.mk (show ∀ q, jp ≤ q → q < T.length → ltS (chr ws (i, k)) (chr ws (at_ T q)) from fun q h1 h2 => by
         rcases Nat.lt_or_ge jp q with e | e
         ·exact hF.out q (by rw [HJP.out]; exact e) h2
         ·obtain rfl : q = jp := by omega
          rw [HTJ.out]; exact HXL.out.1 hx0)
        have HB9 := Aside0.mk (show RowKit.Below w1.heap.size w1 w5 from HBW.out.trans ((((RowKit.Below.refl _ wr).drew).trans (HB4.out.trans (HB5.out.mono HB4.out.size))).mono HBW.out.size))
        go_wp2_with (fail)
        go_roundw
        case rel => exact ⟨jp, by go_num, ⟨by have := HJP.out; omega⟩, hF2, hI9, HB9⟩
        case measure => have := HJP.out; simp [intOf]; omega
       have hE := Aside0.mk (show j = 0 ∨ ¬ ltS (chr ws (i, k)) (chr ws (at_ T (j - 1))) from .inr (by
         rw [HJP.out, Nat.add_sub_cancel, HTJ.out, ← HXL.out]; exact hx0))
       clear hHeld
       generalize (some (⟨bT, 0, none⟩ : Addr)) = At at hI9 ⊢)
      all_goals (
       clear hz hz2
       go_wp2_with (fail)
       obtain ⟨hq1, hq2, hCT⟩ := Kd.R_reads' hI9.out.R
       have hl1 : ((T.take j).map castT).length = j := by rw [List.length_map, List.length_take]; have := HQ.out; omega
       have hl2 : ((T.drop j).map castT).length = Q - j := by rw [List.length_map, List.length_drop]; have := HQ.out; omega
       have hTA := Kd.C_take (m := j) hCT (by rw [← hq1]; exact hjle)
       have hTB := Kd.C_drop (m := j) (c := ct) hCT (by rw [← hq1]; exact hjle) (by rw [← hq1]; exact hq2)
       rw [← List.map_take, hl1] at hTA
       rw [← List.map_drop, hl2] at hTB
       obtain ⟨i36, hi36, hy0, hy1, hy2⟩ := info_parts infoT
       have hcut1 := cut_to (P := Tryz.prog) 31 36 .i64 Tryz.underlying31 hi36 At Q ct (j : Int) (by omega) (by omega) hq2
       have hcut2 := cut_from (P := Tryz.prog) 31 36 .i64 Tryz.underlying31 hi36 kdT.sz hy1 At Q ct (j : Int) (by omega) (by omega)
       rw [Int.toNat_natCast] at hcut1 hcut2
       generalize (if ct = j then At else At.map (·.add (j * kdT.sz))) = D at hTB hcut2
       have HTA := Aside0.mk hTA
       have HTB := Aside0.mk hTB
       have HL1 := Aside0.mk hl1
       have HL2 := Aside0.mk hl2
       clear hq1 hCT hTA hTB hl1 hl2 hi36 hy0 hy1 hy2
       go_region_law (first
        | (
          refine Kd.R_append_rows_step kdT (Rr := kdT.K ((w5.drew.alloc (.cells #[] 36)).alloc (.cells #[.int .i64 i, .int .i64 k] 36))) (w0 := w5) (W := (w5.drew.alloc (.cells #[] 36)).alloc (.cells #[.int .i64 i, .int .i64 k] 36)) w5.heap.size rfl (.tmp 56) (.tmp 59) 31 36 (.agg #[.int .i64 0, .int .i64 0]) 16 rfl Tryz.underlying31 infoT szT szP (by decide) (.slice (some ⟨w5.heap.size, 0, none⟩) 0 0) [] ((T.take j).map castT) At j ct (fun _ => True) (fun _ => False) (by rfl) (by rfl) (e_R (two_a w5 i k).E (Nat.le_refl _)) (Kd.C_below HTA.out (two_a w5 i k).B) kM (fun _ h => h.elim) (fun _ _ => trivial) (two_a w5 i k).B (two_a w5 i k).B.size (by rw [List.length_nil]; omega) ?_
          intro v6 w6 hR6 hB6 hg6 _
          rw [List.nil_append] at hR6
          have HX6 := Aside0.mk (el_C ((hg6.block (w5.heap.size + 1) (by simp) (by simp [Value.ownBlock])).trans (two_a w5 i k).X))
          obtain ⟨A6, c6, rfl⟩ := Kd.R_slice hR6
          rw [HL1.out] at hR6 ⊢
          have HR6 := Aside0.mk hR6
          have HB6 := Aside0.mk hB6
          clear hR6 hB6 hg6)
        | (
          refine Kd.R_append_rows_step kdT (Rr := kdT.K ((w5.drew.alloc (.cells #[.int .i64 i, .int .i64 k] 36)).alloc (.cells #[] 36))) (w0 := w5) (W := (w5.drew.alloc (.cells #[.int .i64 i, .int .i64 k] 36)).alloc (.cells #[] 36)) w5.heap.size rfl (.tmp 56) (.tmp 59) 31 36 (.agg #[.int .i64 0, .int .i64 0]) 16 rfl Tryz.underlying31 infoT szT szP (by decide) (.slice (some ⟨w5.heap.size + 1, 0, none⟩) 0 0) [] ((T.take j).map castT) At j ct (fun _ => True) (fun _ => False) (by rfl) (by rfl) (e_R (two_b w5 i k).E (Nat.le_succ _)) (Kd.C_below HTA.out (two_b w5 i k).B) kM (fun _ h => h.elim) (fun _ _ => trivial) (two_b w5 i k).B (two_b w5 i k).B.size (by rw [List.length_nil]; omega) ?_
          intro v6 w6 hR6 hB6 hg6 _
          rw [List.nil_append] at hR6
          have HX6 := Aside0.mk (el_C ((hg6.block w5.heap.size (by simp; omega) (by simp [Value.ownBlock])).trans (two_b w5 i k).X))
          obtain ⟨A6, c6, rfl⟩ := Kd.R_slice hR6
          rw [HL1.out] at hR6 ⊢
          have HR6 := Aside0.mk hR6
          have HB6 := Aside0.mk hB6
          clear hR6 hB6 hg6)
        | (
          refine Kd.R_append_rows_step kdT (Rr := kdT.K (w5.drew.alloc (.cells #[] 36))) (w0 := w5) (W := w5.drew.alloc (.cells #[] 36)) w5.heap.size rfl (.tmp 56) (.tmp 59) 31 36 (.agg #[.int .i64 0, .int .i64 0]) 16 rfl Tryz.underlying31 infoT szT szP (by decide) (.slice (some ⟨w5.heap.size, 0, none⟩) 0 0) [] ((T.take j).map castT) At j ct (fun _ => True) (fun _ => False) (by rfl) (by rfl) (e_R (one_c w5).2 (Nat.le_refl _)) (Kd.C_below HTA.out (one_c w5).1) kM (fun _ h => h.elim) (fun _ _ => trivial) (one_c w5).1 (one_c w5).1.size (by rw [List.length_nil]; omega) ?_
          intro v6 w6 hR6 hB6 hg6 _
          rw [List.nil_append] at hR6
          obtain ⟨A6, c6, rfl⟩ := Kd.R_slice hR6
          rw [HL1.out] at hR6 ⊢
          have HR6 := Aside0.mk hR6
          have HB6 := Aside0.mk hB6
          clear hR6 hB6 hg6)
        | (
          refine Kd.R_append_rows_step kdT (Rr := kdT.K w6) (w0 := w5) (W := w6) w5.heap.size rfl (.tmp 60) (.tmp 64) 31 36 (.agg #[.int .i64 0, .int .i64 0]) 16 rfl Tryz.underlying31 infoT szT szP (by decide) (.slice A6 j c6) ((T.take j).map castT) [castT (i, k)] (some ⟨_, 0, none⟩) 1 1 (fun _ => True) (fun _ => False) (by rfl) (by rfl) HR6.out HX6.out kM (fun _ h => h.elim) (fun _ _ => trivial) HB6.out HB6.out.size (by rw [HL1.out]; omega) ?_
          intro v7 w7 hR7 hB7 _ _
          obtain ⟨A7, c7, rfl⟩ := Kd.R_slice hR7
          have hl7 : ((T.take j).map castT ++ [castT (i, k)]).length = j + 1 := by rw [List.length_append, HL1.out]; rfl
          rw [hl7] at hR7 ⊢
          have HL7 := Aside0.mk hl7
          have HR7 := Aside0.mk hR7
          have HB7 := Aside0.mk hB7
          clear hR7 hB7 hl7)
        | (
          refine Kd.R_append_rows_step kdT (Rr := kdT.K (w6.alloc (.cells #[.int .i64 i, .int .i64 k] 36))) (w0 := w5) (W := w6.alloc (.cells #[.int .i64 i, .int .i64 k] 36)) w5.heap.size rfl (.tmp 60) (.tmp 64) 31 36 (.agg #[.int .i64 0, .int .i64 0]) 16 rfl Tryz.underlying31 infoT szT szP (by decide) (.slice A6 j c6) ((T.take j).map castT) [castT (i, k)] (some ⟨_, 0, none⟩) 1 1 (fun _ => True) (fun _ => False) (by rfl) (by rfl) (Kd.R_alloc HR6.out _) (el_C (World.alloc_heap_new w6 _)) kM (fun _ h => h.elim) (fun _ _ => trivial) (HB6.out.alloc HB6.out.size _) (HB6.out.alloc HB6.out.size _).size (by rw [HL1.out]; omega) ?_
          intro v7 w7 hR7 hB7 _ _
          obtain ⟨A7, c7, rfl⟩ := Kd.R_slice hR7
          have hl7 : ((T.take j).map castT ++ [castT (i, k)]).length = j + 1 := by rw [List.length_append, HL1.out]; rfl
          rw [hl7] at hR7 ⊢
          have HL7 := Aside0.mk hl7
          have HR7 := Aside0.mk hR7
          have HB7 := Aside0.mk hB7
          clear hR7 hB7 hl7)
        | (
          refine Kd.R_append_rows_step kdT (Rr := kdT.K w7) (w0 := w5) (W := w7) w5.heap.size rfl (.tmp 65) (.tmp 68) 31 36 (.agg #[.int .i64 0, .int .i64 0]) 16 rfl Tryz.underlying31 infoT szT szP (by decide) (.slice A7 (j + 1) c7) ((T.take j).map castT ++ [castT (i, k)]) ((T.drop j).map castT) D (Q - j) (ct - j) (fun _ => True) (fun _ => False) (by rfl) (by rfl) HR7.out (Kd.C_below HTB.out HB7.out) kM (fun _ h => h.elim) (fun _ _ => trivial) HB7.out HB7.out.size (by rw [HL7.out]; omega) ?_
          intro v8 w8 hR8 hB8 _ _
          have N8 := Aside0.mk (hI9.out.put HTT.out (by have := HQ.out; omega) hF.out hE.out hB8 hR8)
          clear hR8 hB8))
       all_goals (go_wp2_with (fail))
       all_goals (go_roundw)
       all_goals (first
        | exact ⟨k + 1, _, by go_num, ⟨by omega⟩, N8⟩
        | (simp [intOf]; omega)))
    ·obtain rfl : k = L := by omega
     have hJ2 := hJ.out
     rw [← HLL.out] at hJ2
     have NW := Aside0.mk (hJ2.word HIW.out)
     clear hJ2
     go_wp2_with (fail)
     go_roundw
     case rel => exact ⟨i + 1, T, by go_num, ⟨by omega⟩, NW⟩
     case measure => simp [intOf]; omega
  ·obtain rfl : i = n := by omega
   have hI2 := hI.out
   obtain ⟨A9, c9, rfl⟩ := Kd.R_slice hI2.R
   have HI2 := Aside0.mk hI2
   clear hI hI2
   go_wp2_with (fail)
   go_ret
   refine ⟨_, T0, rfl, ⟨HI2.out.srt, fun t => ?_⟩, HI2.out.R, HI2.out.K⟩
   rw [HI2.out.mem]
   refine ⟨fun h => h.1, fun h => ⟨h, .inl ?_⟩⟩
   rw [← HN.out]; exact h.1
end Go.Proofs.YtbbpplnnegdenaaGreat.R8
end
section
namespace Go.Proofs.YtbbpplnnegdenaaGreat.Bl
open Go Go.RowKit Go.Shelf Go.Proofs Go.Sort Go.Proofs.YtbbpplnnegdenaaGreatW.PrintWords Go.Proofs.YtbbpplnnegdenaaGreatW.PrintLast Go.Proofs.YtbbpplnnegdenaaGreat.So Go.Proofs.YtbbpplnnegdenaaGreat.St Go.Proofs.YtbbpplnnegdenaaGreat.Mo Go.Proofs.YtbbpplnnegdenaaGreat.Qt Go.Proofs.YtbbpplnnegdenaaGreat.Oa Go.Proofs.YtbbpplnnegdenaaGreat.Oc Go.Proofs.YtbbpplnnegdenaaGreat.Os Go.Proofs.YtbbpplnnegdenaaGreat.Od Go.Proofs.YtbbpplnnegdenaaGreat.Of Go.Proofs.YtbbpplnnegdenaaGreat.Oz Go.Proofs.YtbbpplnnegdenaaGreat.Ot Go.Proofs.YtbbpplnnegdenaaGreat.Bt Go.Proofs.YtbbpplnnegdenaaGreat.R8
open Go.Proofs.YtbbpplnnegdenaaGreat.Om (wd isT onT on_zero at_ at_mem at_pw at_of_mem Omega chr ltS)
open Go.Proofs.YtbbpplnnegdenaaGreat.Oy (omegaT omegaT_is)
theorem cut_offs {s fl : List Int} (hs : smN fl fl.length = s.length) : ∀ j, j ≤ fl.length → offs (cutW s fl) j = smN fl j := by
 intro j
 induction j with
 | zero => intro _; rfl
 | succ j ih =>
   intro hj
   have h2 := smN_mono (fl := fl) (show j + 1 ≤ fl.length from hj) (Nat.le_refl _)
   rw [offs_succ (by rw [cutW_length]; omega), smN_succ (by omega), ih (by omega), cutW_get _ _ _ (by omega), List.length_take, List.length_drop]
   rw [smN_succ (by omega), hs] at h2
   omega
theorem T_length {ws : List (List Int)} {T : List (Nat × Nat)} (h : Omega ws T) : T.length = offs ws ws.length := by
 have h1 : T.Perm (tus ws ws.length) := by
  refine (List.perm_ext_iff_of_nodup ?_ (tus_nodup _)).2 (fun t => (h.all t).trans ?_)
  ·exact List.Pairwise.imp (fun {a b} h e => by subst e; exact Om.ltT_asymm h h) h.rises
  ·rw [tus_mem]; exact Iff.rfl
 rw [h1.length_eq, tus_length (Nat.le_refl _)]
theorem law_calls (W : World) (A0 : Option Addr) (c0 : Nat) (s : List Int) (hC : (Kd.int .u8).C W A0 s.length s) (hc : s.length ≤ c0) (hn : s.length ≤ 60) (fl : List Int)
  (hF : Calls Tryz.prog 9 #[.slice A0 s.length c0] W fun e w' => ∃ v, e = .returned v ∧ (Kd.int .i64).R 3 w' W.heap.size (fun _ => True) v fl ∧ RowKit.Below W.heap.size W w')
  (hfp : ∀ x ∈ fl, 0 < x) (hfs : smN fl fl.length = s.length) (hfl : fl.length ≤ s.length) (cv : Nat × Nat → Nat × Nat → Int)
  (hcv : ∀ t t', isT (cutW s fl) t → isT (cutW s fl) t' → (cv t t' < 0 ↔ ltS (chr (cutW s fl) t) (chr (cutW s fl) t')))
  (hT : ∀ (w : World) (A : Option Addr) (c : Nat) (t : Nat × Nat), isT (cutW s fl) t → (wd (cutW s fl) t.1).length ≤ c → (Kd.int .u8).C w A (wd (cutW s fl) t.1).length (wd (cutW s fl) t.1) →
   Calls Tryz.prog 34 #[.slice A (wd (cutW s fl) t.1).length c, .int .i64 t.2] w fun e w' => ∃ v, e = .returned v ∧ (Kd.int .u8).R 5 w' w.heap.size (fun _ => True) v (rotW (cutW s fl) t) ∧ RowKit.Below w.heap.size w w')
  (hCm : ∀ (w : World) (A B : Option Addr) (c d : Nat) (t t' : Nat × Nat), isT (cutW s fl) t → isT (cutW s fl) t' → (wd (cutW s fl) t.1).length ≤ c → (wd (cutW s fl) t'.1).length ≤ d → (Kd.int .u8).C w A (wd (cutW s fl) t.1).length (rotW (cutW s fl) t) → (Kd.int .u8).C w B (wd (cutW s fl) t'.1).length (rotW (cutW s fl) t') →
   Calls Tryz.prog 35 #[.slice A (wd (cutW s fl) t.1).length c, .slice B (wd (cutW s fl) t'.1).length d] w fun e w' => e = .returned (.int .i64 (cv t t')) ∧ RowKit.Below w.heap.size w w')
  (hBT : ∀ w : World, (Kd.int .u8).C w A0 s.length s → Calls Tryz.prog 11 #[.slice A0 s.length c0] w fun e w' => ∃ v, e = .returned (.tuple #[v, .int .i64 0]) ∧ (Kd.int .u8).R 5 w' w.heap.size (fun _ => True) v ((omegaT (cutW s fl)).map (lastC (cutW s fl))) ∧ RowKit.Below w.heap.size w w')
  (hK : ∀ w : World, Calls Tryz.prog 8 #[] w fun e w' => e = .returned (.bool true) ∧ RowKit.Below w.heap.size w w') :
  Calls Tryz.prog 4 #[.slice A0 s.length c0] W fun e W' => e = .returned (.bool true) ∧ RowKit.Below W.heap.size W W' := by
 have HC := Aside0.mk hC
 have HFP := Aside0.mk hfp
 have HFS := Aside0.mk hfs
 have HR8 := Aside0.mk (fun W Aw cw hw hl hn' => R8.turns_calls W Aw cw (cutW s fl) hw hl hn' cv hcv hT hCm)
 have HBT := Aside0.mk hBT
 have HKN := Aside0.mk hK
 have HWL := Aside0.mk (cutW_length fl s)
 have HOF := Aside0.mk (cut_offs hfs)
 obtain ⟨N, hN⟩ : ∃ N, s.length = N := ⟨_, rfl⟩
 have HNN := Aside0.mk hN
 rw [hN] at hn hc hfl hF ⊢
 clear hC hfp hfs hN hcv hT hCm hBT hK
 have hg60 : ¬ ((60 : Int) < (N : Int)) := by omega
 go_enter Tryz.func4, Tryz.ntmps4
 go_wp2_with (fail)
 (with_reducible refine hF.mono ?_)
 clear hF
 rintro e w1 ⟨v1, rfl, hR1, hB1⟩
 obtain ⟨A1, c1, rfl, hc1, hC1⟩ := Kd.R_reads hR1
 obtain ⟨M, hM⟩ : ∃ M, fl.length = M := ⟨_, rfl⟩
 rw [hM] at hc1 hC1 hfl ⊢
 have HM := Aside0.mk hM
 have HFL := Aside0.mk hC1
 have I0 : Aside0 (Wi W w1 w1 (.slice none 0 0) [] ((cutW s fl).take 0)) := ⟨⟨RowKit.Below.refl _ _, Kd.R_nil _ _ _ _ _, ⟨by simp, fun i hi => by simp at hi⟩⟩⟩
 have HB1 := Aside0.mk hB1
 clear hR1 hC1 hM hB1
 go_wp2_with (fail)
 obtain ⟨i5, hi5, hz0, hz1, hz2⟩ := info_parts Bt.info5
 go_loopw [3, 5, 6] (fun v3 v5 v6 wr => ∃ (i : Nat) (hs : List Hdr) (A5 : Option Addr) (n5 c5 : Nat), v5 = .slice A5 n5 c5 ∧ v6 = .int .i64 i ∧ Aside0 (i ≤ M) ∧ Aside0 (Wi W w1 wr v3 hs ((cutW s fl).take i)) ∧ Aside0 (n5 = N - smN fl i ∧ n5 ≤ c5 ∧ (Kd.int .u8).C W A5 n5 (s.drop (smN fl i)))) (fun v3 v5 v6 _ => M - (intOf v6).toNat)
 case atStart => exact ⟨0, [], A0, N, c0, rfl, rfl, ⟨by omega⟩, I0, ⟨by show N = N - 0; omega, hc, by
  have h := HC.out
  rw [HNN.out] at h
  exact h⟩⟩
 case round =>
  obtain ⟨i, hs, A5, n5, c5, rfl, rfl, hi, hI, hV⟩ := hrel
  have hile := hi.out
  by_cases hlt : i < M
  ·have hif : i < fl.length := by rw [HM.out]; exact hlt
   obtain ⟨ad, rfl, cF0⟩ := C_at HFL.out 0 hlt
   have hmp := HFP.out _ (by rw [List.getD_eq_getElem?_getD, List.getElem?_eq_getElem hif]; exact List.getElem_mem hif : fl.getD i 0 ∈ fl)
   have hs1 := smN_succ hif
   have hs2 := smN_mono (fl := fl) (show i + 1 ≤ fl.length from hif) (Nat.le_refl _)
   rw [HFS.out, HNN.out] at hs2
   obtain ⟨m, hm⟩ : ∃ m : Nat, fl.getD i 0 = m := ⟨(fl.getD i 0).toNat, by omega⟩
   rw [hm] at cF0 hmp hs1
   have cF := CellLe.below hI.out.K _ _ cF0
   rw [Int.toNat_natCast] at hs1
   obtain ⟨at', hat⟩ : ∃ a, smN fl i = a := ⟨_, rfl⟩
   obtain ⟨hv1, hv2, hv3⟩ := hV.out
   rw [hat] at hs1 hv1 hv3
   have hm5 : m ≤ n5 := by omega
   have hcut1 := cut_to (P := Tryz.prog) 22 5 .i64 Tryz.underlying22 hi5 A5 n5 c5 (m : Int) (by omega) (by omega) hv2
   have hcut2 := cut_from (P := Tryz.prog) 22 5 .i64 Tryz.underlying22 hi5 1 hz1 A5 n5 c5 (m : Int) (by omega) (by omega)
   rw [Int.toNat_natCast] at hcut1 hcut2
   have hdl : (s.drop at').length = n5 := by rw [List.length_drop]; have := HNN.out; omega
   rw [← hdl] at hv3
   have hw : ((s.drop at').take m).length = m := by rw [List.length_take, hdl]; omega
   have hCm := Kd.C_take (m := m) hv3 (by rw [hdl]; exact hm5)
   have hCd := Kd.C_drop (m := m) (c := c5) hv3 (by rw [hdl]; exact hm5) (by rw [hdl]; exact hv2)
   have hk1 : (Kd.int .u8).sz = 1 := rfl
   rw [hk1, List.drop_drop] at hCd
   have hdl2 : (s.drop (at' + m)).length = n5 - m := by rw [List.length_drop]; have := HNN.out; omega
   rw [hdl2] at hCd
   generalize (if c5 = m then A5 else A5.map (·.add (m * 1))) = D at hCd hcut2
   have hIn := Aside0.mk (inner_snoc hI.out.I (A := A5) (w := (s.drop at').take m) (c := c5) (by rw [hw]; omega) hCm)
   rw [hw] at hIn
   obtain ⟨Aw, cw, rfl⟩ := Kd.R_slice hI.out.R
   obtain ⟨q, hq⟩ : ∃ q, hs.length = q := ⟨_, rfl⟩
   have HQ := Aside0.mk hq
   have hI2 := hI.out
   rw [hq] at hI2 ⊢
   have HI := Aside0.mk hI2
   have HQL : Aside0 ((hs.length + 1) * 24 ≤ 140737488355328) := ⟨by
    rw [hI.out.I.len, List.length_take, HWL.out]; omega⟩
   have HS1 := Aside0.mk hs1
   have HAT := Aside0.mk hat
   have HMM := Aside0.mk hm
   have HW := Aside0.mk hw
   have HV2 := Aside0.mk (show n5 - m = N - smN fl (i + 1) ∧ n5 - m ≤ c5 - m ∧ (Kd.int .u8).C W D (n5 - m) (s.drop (smN fl (i + 1))) from ⟨by omega, by omega, by rw [hs1]; exact hCd⟩)
   clear hs1 hat hm hw hCm hCd hq hI2 hI hs2 hV hv1 hv3 hdl hdl2
   go_wp2_with (at_builtin; refine Kd.R_append kdH (W := wr) (w0 := w1) w1.heap.size rfl (.tmp 24) (.tmp 31) 28 22 (.slice none 0 0) 24 rfl Tryz.underlying28 infoH rfl (by decide) (by decide) (.slice Aw q cw) hs (A5, m, c5) [.slice A5 m c5] (fun _ => True) (fun _ => False) rfl rfl rfl (fun _ hk => hk.elim) (fun _ _ => trivial) HI.out.R HI.out.K HI.out.K.size HQL.out ?_)
   intro v2 w2 hR2 hB2 _ _
   have NI := Aside0.mk (show Wi W w1 w2 v2 (hs ++ [(A5, m, c5)]) ((cutW s fl).take (i + 1)) from by
    refine ⟨hB2, hR2, ?_⟩
    rw [cutW_take hif, HAT.out, HMM.out, Int.toNat_natCast]
    exact hIn.out)
   have cF2 := CellLe.below hB2 _ _ cF0
   clear hR2 hB2
   go_wp2_with (fail)
   go_roundw
   case rel => exact ⟨i + 1, _, D, _, _, rfl, by go_num, ⟨by omega⟩, NI, HV2⟩
   case measure => simp [intOf]; omega
  ·obtain rfl : i = M := by omega
   obtain ⟨w2, rfl⟩ : ∃ w, w = wr := ⟨_, rfl⟩
   have hI1 := hI.out
   have hct : (cutW s fl).take i = cutW s fl := List.take_of_length_le (by rw [cutW_length]; exact Nat.le_of_eq HM.out)
   rw [hct] at hI1
   obtain ⟨Aw, cw, rfl⟩ := Kd.R_slice hI1.R
   have hwl : (cutW s fl).length = i := by rw [cutW_length]; exact HM.out
   have hhl : hs.length = i := hI1.I.len.trans hwl
   have hKW : RowKit.Below W.heap.size W w2 := HB1.out.trans ⟨hI1.K.os, hI1.K.tape, hI1.K.output, hI1.K.size, fun k hk => hI1.K.block k (Nat.lt_of_lt_of_le hk HB1.out.size)⟩
   rw [hhl] at hI1 ⊢
   have hWo : Words w2 Aw (cutW s fl) := by
    obtain ⟨A, c, e, _, hC⟩ := Kd.R_reads hI1.R
    injection e with e _ _
    subst e
    rw [hhl] at hC
    exact ⟨hs, by rw [hwl]; exact hC, hI1.I.le (CellLe.below hKW)⟩
   have hto : offs (cutW s fl) (cutW s fl).length = N := by
    rw [hwl, HOF.out i (Nat.le_of_eq HM.out.symm), ← HM.out, HFS.out, HNN.out]
   have cT := HR8.out w2 Aw cw hWo (by rw [hto]; omega) (by rw [hwl]; omega)
   rw [hwl] at cT
   have HTO := Aside0.mk hto
   have HWO := Aside0.mk hWo
   have HKW := Aside0.mk hKW
   clear hI hI1 hct hhl hKW hWo hwl hto hV
   go_wp2_with (fail)
   (with_reducible refine cT.mono ?_)
   clear cT
   rintro e w3 ⟨v3, T, rfl, hOm, hR3, hB3⟩
   obtain rfl := hOm.uniq (omegaT_is (cutW s fl))
   obtain ⟨T, hTT⟩ : ∃ T, omegaT (cutW s fl) = T := ⟨_, rfl⟩
   have cB := HBT.out w3 (C_le HC.out (CellLe.below (HKW.out.trans (hB3.mono HKW.out.size))))
   rw [hTT, HNN.out] at cB
   rw [hTT] at hR3 hOm
   have hQN : T.length = N := by rw [T_length hOm, HTO.out]
   obtain ⟨At, ct, rfl⟩ := Kd.R_slice hR3
   rw [List.length_map, hQN] at hR3 ⊢
   have HOM := Aside0.mk hOm
   have HQN := Aside0.mk hQN
   have HR3 := Aside0.mk hR3
   have HB3 := Aside0.mk hB3
   clear hOm hQN hR3 hB3 hTT
   go_wp2_with (fail)
   (with_reducible refine cB.mono ?_)
   clear cB
   rintro e w4 ⟨v4, rfl, hR4, hB4⟩
   obtain ⟨Am, cm, rfl, _, hC4⟩ := Kd.R_reads hR4
   rw [List.length_map, HQN.out] at hC4 ⊢
   have HC4 := Aside0.mk hC4
   have HB4 := Aside0.mk hB4
   have HKW4 := Aside0.mk (show RowKit.Below W.heap.size W w4 from HKW.out.trans ((HB3.out.trans (hB4.mono HB3.out.size)).mono HKW.out.size))
   clear hR4 hC4 hB4
   go_wp2_with (fail)
   go_loopw [10] (fun v10 wr => ∃ j : Nat, v10 = .int .i64 j ∧ Aside0 (j ≤ N) ∧ Aside0 (RowKit.Below w4.heap.size w4 wr)) (fun v10 _ => N - (intOf v10).toNat)
   case atStart => exact ⟨0, rfl, ⟨by omega⟩, ⟨RowKit.Below.refl _ _⟩⟩
   case round =>
    obtain ⟨j, rfl, hj, hL⟩ := hrel
    have hjle := hj.out
    by_cases hjl : j < N
    ·have hjT : j < T.length := by rw [HQN.out]; exact hjl
     have hle : CellLe w4 wr := CellLe.below hL.out
     have hle3 : CellLe w3 wr := (CellLe.below HB4.out).trans hle
     obtain ⟨b, cT', eT, _, _, hTR⟩ := TRow.of HR3.out (by omega)
     rw [HQN.out] at eT
     injection eT with eT1 eT2 eT3
     subst eT1 eT3
     have cT := hTR.cell hjT
     have hti := (HOM.out.all _).1 (at_mem hjT)
     obtain ⟨am, rfl, cM⟩ := C_at HC4.out 0 hjl
     have hml : (T.map (lastC (cutW s fl))).getD j 0 = lastC (cutW s fl) (at_ T j) := by
      unfold at_
      rw [List.getD_eq_getElem?_getD, List.getD_eq_getElem?_getD, List.getElem?_map, List.getElem?_eq_getElem hjT]; rfl
     rw [hml] at cM
     obtain ⟨t, ht⟩ : ∃ t, at_ T j = t := ⟨_, rfl⟩
     rw [ht, Nat.mul_comm] at cT
     rw [ht] at hti cM
     obtain ⟨cT0, cT1⟩ := cT
     obtain ⟨aw, B, cB, rfl, cw0, hlc, hCw⟩ := HWO.out.at hti.1
     obtain ⟨t1, hT1⟩ : ∃ t1, t.1 = t1 := ⟨_, rfl⟩
     obtain ⟨t2, hT2⟩ : ∃ t2, t.2 = t2 := ⟨_, rfl⟩
     obtain ⟨L, hLL⟩ : ∃ L, (wd (cutW s fl) t.1).length = L := ⟨_, rfl⟩
     have ht1 : t1 < i := by rw [← hT1, ← HM.out, ← HWL.out]; exact hti.1
     have ht2 : t2 < L := by rw [← hT2, ← hLL]; exact hti.2
     have hLs : L ≤ 60 := by
      rw [← hLL]
      have := word_le hti.1
      rw [HTO.out] at this; omega
     obtain ⟨mm, hmm⟩ : ∃ mm, (t2 + L - 1) % L = mm := ⟨_, rfl⟩
     have hmL : mm < L := by rw [← hmm]; exact Nat.mod_lt _ (by omega)
     obtain ⟨y, hy⟩ : ∃ y, lastC (cutW s fl) t = y := ⟨_, rfl⟩
     have hyw : (wd (cutW s fl) t.1).getD mm 0 = y := by rw [← hy, ← hmm, ← hLL, ← hT2]; rfl
     rw [hLL] at hlc hCw cw0
     obtain ⟨ad, rfl, cX⟩ := C_at hCw 0 hmL
     rw [hyw] at cX
     rw [hy] at cM
     rw [hT1] at cT0 cw0
     rw [hT2] at cT1
     have q0 := hle3 _ _ cT0
     have wrle : CellLe w2 wr := (CellLe.below HB3.out).trans hle3
     have q1 := wrle _ _ cw0
     have F1 := Aside0.mk ((Gr.drew wr).le _ _ (hle _ _ cM))
     have F2 := Aside0.mk ((Gr.drew wr).le _ _ (hle3 _ _ cT1))
     have F3 := Aside0.mk ((Gr.drew wr).le _ _ (wrle _ _ cX))
     have e1 : IntKind.i64.wrap ((t2 : Int) + L) = (t2 : Int) + L := i64_id (by omega) (by omega)
     have e2 : IntKind.i64.wrap ((t2 : Int) + L - 1) = (t2 : Int) + L - 1 := i64_id (by omega) (by omega)
     have e3 : Int.tmod ((t2 : Int) + L - 1) (L : Int) = (mm : Int) := by
      rw [← hmm, show (t2 : Int) + L - 1 = ((t2 + L - 1 : Nat) : Int) by omega, Int.tmod_eq_emod_of_nonneg (by omega)]; rfl
     have e4 : IntKind.i64.wrap (mm : Int) = (mm : Int) := i64_id (by omega) (by omega)
     have e5 : (L : Int) ≠ 0 := by omega
     have e6 : L ≠ 0 := by omega
     have hL2 := Aside0.mk (hL.out.drew)
     clear hL hle hle3 hTR cT0 cT1 hti cM hml ht cw0 hCw hT1 hT2 hLL hmm hy hyw cX wrle eT2 hjT
     go_wp2_with (fail)
     refine start_ (n := 20) (S := fun w' => w'.cell? (am.add j) = some (.int .u8 y) ∧ w'.cell? ⟨b, j * 2 + 1, none⟩ = some (.int .i64 t2) ∧ w'.cell? (ad.add mm) = some (.int .u8 y)) (ds := []) #[false, false, false, false, false, false, false, false, false, false, false, false, false, false, false, false, false, false, false, false] (by kernel_rfl) rfl rfl ⟨F1.out, F2.out, F3.out⟩ (fun hHeld => ?_)
     refine pure_ (i := 0) (N := some 69) (v := ?_) (a' := ?_) #[true, false, false, false, false, false, false, false, false, false, false, false, false, false, false, false, false, false, false, false] rfl rfl (by kernel_rfl) (fun _ _ _ h => h) (Or.inl ⟨by rfl, ?_⟩) ?_ ?_
     rotate_left
     ·intro w'
      go_simp
      with_reducible rfl
     rotate_left
     ·simp only [Act.put, List.setIfInBounds_toArray, List.set_cons_zero, List.set_cons_succ, i64_w, i32_w]
      rfl
     refine pure_ (i := 1) (N := some 70) (v := ?_) (a' := ?_) #[true, true, false, false, false, false, false, false, false, false, false, false, false, false, false, false, false, false, false, false] rfl rfl (by kernel_rfl) (fun _ _ _ h => h) (Or.inl ⟨by rfl, ?_⟩) ?_ ?_
     rotate_left
     ·intro w'
      go_simp
      with_reducible rfl
     rotate_left
     ·simp only [Act.put, List.setIfInBounds_toArray, List.set_cons_zero, List.set_cons_succ, i64_w, i32_w]
      rfl
     refine pure_ (i := 2) (N := some 71) (v := ?_) (a' := ?_) #[true, true, true, false, false, false, false, false, false, false, false, false, false, false, false, false, false, false, false, false] rfl rfl (by kernel_rfl) (fun _ _ _ h => h) (Or.inl ⟨by rfl, ?_⟩) ?_ ?_
     rotate_left
     ·intro w'
      go_simp
      with_reducible rfl
     rotate_left
     ·simp only [Act.put, List.setIfInBounds_toArray, List.set_cons_zero, List.set_cons_succ, i64_w, i32_w]
      rfl
     refine pure_ (i := 4) (N := some 73) (v := ?_) (a' := ?_) #[true, true, true, false, true, false, false, false, false, false, false, false, false, false, false, false, false, false, false, false] rfl rfl (by kernel_rfl) (fun _ _ _ h => h) (Or.inl ⟨by rfl, ?_⟩) ?_ ?_
     rotate_left
     ·intro w'
      go_simp
      with_reducible rfl
     rotate_left
     ·simp only [Act.put, List.setIfInBounds_toArray, List.set_cons_zero, List.set_cons_succ, i64_w, i32_w]
      rfl
     refine pure_ (i := 5) (N := some 74) (v := ?_) (a' := ?_) #[true, true, true, false, true, true, false, false, false, false, false, false, false, false, false, false, false, false, false, false] rfl rfl (by kernel_rfl) (fun _ _ _ h => h) (Or.inl ⟨by rfl, ?_⟩) ?_ ?_
     rotate_left
     ·intro w'
      go_simp
      with_reducible rfl
     rotate_left
     ·simp only [Act.put, List.setIfInBounds_toArray, List.set_cons_zero, List.set_cons_succ, i64_w, i32_w]
      rfl
     refine pure_ (i := 6) (N := some 75) (v := ?_) (a' := ?_) #[true, true, true, false, true, true, true, false, false, false, false, false, false, false, false, false, false, false, false, false] rfl rfl (by kernel_rfl) (fun _ _ _ h => h) (Or.inl ⟨by rfl, ?_⟩) ?_ ?_
     rotate_left
     ·intro w'
      go_simp
      with_reducible rfl
     rotate_left
     ·simp only [Act.put, List.setIfInBounds_toArray, List.set_cons_zero, List.set_cons_succ, i64_w, i32_w]
      rfl
     refine pure_ (i := 7) (N := some 76) (v := ?_) (a' := ?_) #[true, true, true, false, true, true, true, true, false, false, false, false, false, false, false, false, false, false, false, false] rfl rfl (by kernel_rfl) (fun _ _ _ h => h) (Or.inl ⟨by rfl, ?_⟩) ?_ ?_
     rotate_left
     ·intro w'
      go_simp
      with_reducible rfl
     rotate_left
     ·simp only [Act.put, List.setIfInBounds_toArray, List.set_cons_zero, List.set_cons_succ, i64_w, i32_w]
      rfl
     refine pure_ (i := 8) (N := some 77) (v := ?_) (a' := ?_) #[true, true, true, false, true, true, true, true, true, false, false, false, false, false, false, false, false, false, false, false] rfl rfl (by kernel_rfl) (fun _ _ _ h => h) (Or.inl ⟨by rfl, ?_⟩) ?_ ?_
     rotate_left
     ·intro w'
      go_simp
      with_reducible rfl
     rotate_left
     ·simp only [Act.put, List.setIfInBounds_toArray, List.set_cons_zero, List.set_cons_succ, i64_w, i32_w]
      rfl
     refine pure_ (i := 10) (N := some 79) (v := ?_) (a' := ?_) #[true, true, true, false, true, true, true, true, true, false, true, false, false, false, false, false, false, false, false, false] rfl rfl (by kernel_rfl) (fun _ _ _ h => h) (Or.inl ⟨by rfl, ?_⟩) ?_ ?_
     rotate_left
     ·intro w'
      go_simp
      with_reducible rfl
     rotate_left
     ·simp only [Act.put, List.setIfInBounds_toArray, List.set_cons_zero, List.set_cons_succ, i64_w, i32_w]
      rfl
     refine pure_ (i := 11) (N := some 80) (v := ?_) (a' := ?_) #[true, true, true, false, true, true, true, true, true, false, true, true, false, false, false, false, false, false, false, false] rfl rfl (by kernel_rfl) (fun _ _ _ h => h) (Or.inl ⟨by rfl, ?_⟩) ?_ ?_
     rotate_left
     ·intro w'
      go_simp
      with_reducible rfl
     rotate_left
     ·simp only [Act.put, List.setIfInBounds_toArray, List.set_cons_zero, List.set_cons_succ, i64_w, i32_w]
      rfl
     refine pure_ (i := 14) (N := some 83) (v := ?_) (a' := ?_) #[true, true, true, false, true, true, true, true, true, false, true, true, false, false, true, false, false, false, false, false] rfl rfl (by kernel_rfl) (fun _ _ _ h => h) (Or.inl ⟨by rfl, ?_⟩) ?_ ?_
     rotate_left
     ·intro w'
      go_simp
      with_reducible rfl
     rotate_left
     ·simp only [Act.put, List.setIfInBounds_toArray, List.set_cons_zero, List.set_cons_succ, i64_w, i32_w]
      rfl
     refine pure_ (i := 15) (N := some 84) (v := ?_) (a' := ?_) #[true, true, true, false, true, true, true, true, true, false, true, true, false, false, true, true, false, false, false, false] rfl rfl (by kernel_rfl) (fun _ _ _ h => h) (Or.inl ⟨by rfl, ?_⟩) ?_ ?_
     rotate_left
     ·intro w'
      go_simp
      with_reducible rfl
     rotate_left
     ·simp only [Act.put, List.setIfInBounds_toArray, List.set_cons_zero, List.set_cons_succ, i64_w, i32_w]
      rfl
     refine take_ (i := 3) (N := some 72) (v := ?_) (a' := ?_) #[true, true, true, true, true, true, true, true, true, false, true, true, false, false, true, true, false, false, false, false] rfl rfl (by kernel_rfl) (fun _ _ _ h => h) (Or.inl ⟨by rfl, ?_⟩) hHeld ?_ ?_
     rotate_left
     ·rintro w' ⟨s0, s1, s2⟩
      go_simp
      with_reducible rfl
     rotate_left
     ·simp only [Act.put, List.setIfInBounds_toArray, List.set_cons_zero, List.set_cons_succ, i64_w, i32_w]
      rfl
     refine take_ (i := 9) (N := some 78) (v := ?_) (a' := ?_) #[true, true, true, true, true, true, true, true, true, true, true, true, false, false, true, true, false, false, false, false] rfl rfl (by kernel_rfl) (fun _ _ _ h => h) (Or.inl ⟨by rfl, ?_⟩) hHeld ?_ ?_
     rotate_left
     ·rintro w' ⟨s0, s1, s2⟩
      go_simp
      with_reducible rfl
     rotate_left
     ·simp only [Act.put, List.setIfInBounds_toArray, List.set_cons_zero, List.set_cons_succ, i64_w, i32_w]
      rfl
     refine pure_ (i := 12) (N := some 81) (v := ?_) (a' := ?_) #[true, true, true, true, true, true, true, true, true, true, true, true, true, false, true, true, false, false, false, false] rfl rfl (by kernel_rfl) (fun _ _ _ h => h) (Or.inl ⟨by rfl, ?_⟩) ?_ ?_
     rotate_left
     ·intro w'
      go_simp
      with_reducible rfl
     rotate_left
     ·simp only [Act.put, List.setIfInBounds_toArray, List.set_cons_zero, List.set_cons_succ, i64_w, i32_w]
      rfl
     refine pure_ (i := 13) (N := some 82) (v := ?_) (a' := ?_) #[true, true, true, true, true, true, true, true, true, true, true, true, true, true, true, true, false, false, false, false] rfl rfl (by kernel_rfl) (fun _ _ _ h => h) (Or.inl ⟨by rfl, ?_⟩) ?_ ?_
     rotate_left
     ·intro w'
      go_simp
      with_reducible rfl
     rotate_left
     ·simp only [Act.put, List.setIfInBounds_toArray, List.set_cons_zero, List.set_cons_succ, i64_w, i32_w]
      rfl
     refine pure_ (i := 16) (N := some 85) (v := ?_) (a' := ?_) #[true, true, true, true, true, true, true, true, true, true, true, true, true, true, true, true, true, false, false, false] rfl rfl (by kernel_rfl) (fun _ _ _ h => h) (Or.inl ⟨by rfl, ?_⟩) ?_ ?_
     rotate_left
     ·intro w'
      go_simp
      with_reducible rfl
     rotate_left
     ·simp only [Act.put, List.setIfInBounds_toArray, List.set_cons_zero, List.set_cons_succ, i64_w, i32_w]
      rfl
     refine pure_ (i := 17) (N := some 86) (v := ?_) (a' := ?_) #[true, true, true, true, true, true, true, true, true, true, true, true, true, true, true, true, true, true, false, false] rfl rfl (by kernel_rfl) (fun _ _ _ h => h) (Or.inl ⟨by rfl, ?_⟩) ?_ ?_
     rotate_left
     ·intro w'
      go_simp
      with_reducible rfl
     rotate_left
     ·simp only [Act.put, List.setIfInBounds_toArray, List.set_cons_zero, List.set_cons_succ, i64_w, i32_w]
      rfl
     refine take_ (i := 18) (N := some 87) (v := ?_) (a' := ?_) #[true, true, true, true, true, true, true, true, true, true, true, true, true, true, true, true, true, true, true, false] rfl rfl (by kernel_rfl) (fun _ _ _ h => h) (Or.inl ⟨by rfl, ?_⟩) hHeld ?_ ?_
     rotate_left
     ·rintro w' ⟨s0, s1, s2⟩
      go_simp
      with_reducible rfl
     rotate_left
     ·simp only [Act.put, List.setIfInBounds_toArray, List.set_cons_zero, List.set_cons_succ, i64_w, i32_w]
      rfl
     refine pure_ (i := 19) (N := some 88) (v := ?_) (a' := ?_) #[true, true, true, true, true, true, true, true, true, true, true, true, true, true, true, true, true, true, true, true] rfl rfl (by kernel_rfl) (fun _ _ _ h => h) (Or.inl ⟨by rfl, ?_⟩) ?_ ?_
     rotate_left
     ·intro w'
      go_simp
      with_reducible rfl
     rotate_left
     ·simp only [Act.put, List.setIfInBounds_toArray, List.set_cons_zero, List.set_cons_succ, i64_w, i32_w]
      rfl
     refine done_ (by kernel_rfl) ?_
     go_wp2_with (fail)
     go_roundw
     case rel => exact ⟨j + 1, by go_num, ⟨by omega⟩, hL2⟩
     case measure => simp [intOf]; omega
    ·obtain rfl : j = N := by omega
     have cK := HKN.out wr
     go_wp2_with (fail)
     (with_reducible refine cK.mono ?_)
     clear cK
     rintro e w5 ⟨rfl, hB5⟩
     have HB5 := Aside0.mk hB5
     clear hB5
     go_wp2_with (fail)
     go_ret
     exact ⟨rfl, HKW4.out.trans ((hL.out.trans (HB5.out.mono hL.out.size)).mono HKW4.out.size)⟩
theorem law_long (W : World) (A0 : Option Addr) (c0 N : Nat) (hn : 60 < N) : Calls Tryz.prog 4 #[.slice A0 N c0] W fun e W' => e = .returned (.bool true) ∧ RowKit.Below W.heap.size W W' := by
 have hg60 : (60 : Int) < (N : Int) := by omega
 go_enter Tryz.func4, Tryz.ntmps4
 go_wp2_with (fail)
 go_ret
 exact ⟨rfl, RowKit.Below.refl _ _⟩
end Go.Proofs.YtbbpplnnegdenaaGreat.Bl
end
section
namespace Go.Proofs.YtbbpplnnegdenaaGreat
open Go.RowKit Go.Proofs.YtbbpplnnegdenaaGreatW.PrintWords Go.Proofs.YtbbpplnnegdenaaGreatW.PrintLast Go.Proofs.YtbbpplnnegdenaaGreatW.PrintMore
theorem lit_reads (kd : IntKind) (W : World) (e : TypeId) (xs : List Int) (fr : Nat × Nat) (hn : xs.length ≤ 9223372036854775807) {C : Array Value} (hC : (xs.map (Value.int kd)).toArray = C) :
  Kd.C (Kd.int kd) (W.alloc (.cells C e fr)) (some ⟨W.heap.size, 0, none⟩) xs.length xs := by
 subst hC
 refine Kd.C_of_reads (h1 := fun _ => rfl) (d := 0) ⟨rfl, hn, fun _ => ⟨_, rfl, fun j hj => ?_⟩⟩
 rw [add_plain, World.cell?_alloc_mark]
 simp [List.getD_eq_getElem?_getD, List.getElem?_eq_getElem hj]
end Go.Proofs.YtbbpplnnegdenaaGreat
end
section
namespace Go.Proofs.YtbbpplnnegdenaaGreat.PTopBij
open Go.RowKit Go.Proofs.YtbbpplnnegdenaaGreatW.PrintWords Go.Proofs.YtbbpplnnegdenaaGreatW.PrintLast Go.Proofs.YtbbpplnnegdenaaGreatW.PrintMore
attribute [local go_sem] max2_int min2_int max_two min_two max_three min_three max_four min_four
def errW : Option Int → Value
  | none => .nilIface
  | some c => .iface 0 (.int .i64 c)
theorem errW_none : errW none = .nilIface := rfl
theorem errW_some (c : Int) : errW (some c) = .iface 0 (.int .i64 c) := rfl
theorem info3 : (Tryz.prog.info? 3).map (fun i => (i.zero, i.size, i.bytes)) = some (some (.int .i64 0), 1, 8) := by kernel_rfl
theorem info4 : (Tryz.prog.info? 4).map (fun i => (i.zero, i.size, i.bytes)) = some (some (.bool false), 1, 1) := by kernel_rfl
theorem info5 : (Tryz.prog.info? 5).map (fun i => (i.zero, i.size, i.bytes)) = some (some (.int .u8 0), 1, 1) := by kernel_rfl
mutual
def bucket_Counts.j0 : Nat → List Int → Int → Bool → Option (List Int × Bool)
  | 0, _, _, _ => none
  | k + 1, x0, x1, x14 => if x14 = true then (some (([] : List Int), false)) else (if 0 ≤ x1 then (if (x1 : Int).toNat ≤ 35184372088832 then (bucket_Counts.l0 k x1 (List.replicate (x1 : Int).toNat 0) x0 (x0.length : Int) 0) else (none)) else (none))
def bucket_Counts.l0 : Nat → Int → List Int → List Int → Int → Int → Option (List Int × Bool)
  | 0, _, _, _, _, _ => none
  | k + 1, x1, x6, x17, x18, x19 => if x19 < x18 then (if 0 ≤ x19 then (if x19 < (x17.length : Int) then (if (rd x17 x19) < 0 then (some (([] : List Int), false)) else (if (rd x17 x19) ≥ x1 then (some (([] : List Int), false)) else (if 0 ≤ (rd x17 x19) then (if (rd x17 x19) < (x6.length : Int) then (bucket_Counts.l0 k x1 (x6.set ((rd x17 x19) : Int).toNat (wrap64 ((rd x6 (rd x17 x19)) + 1))) x17 x18 (wrap64 (x19 + 1))) else (none)) else (none)))) else (none)) else (none)) else (some (x6, true))
end
def bucket_Counts.f (k : Nat) (l0 : List Int) (a1 : Int) : Option (List Int × Bool) := if a1 < 0 then (bucket_Counts.j0 k l0 a1 true) else (bucket_Counts.j0 k l0 a1 (decide (a1 > 1048576)))
theorem bucket_Counts.mono_l : ∀ k, (∀ y0 y1 y2, LeO (bucket_Counts.j0 k y0 y1 y2) (bucket_Counts.j0 (k + 1) y0 y1 y2)) ∧ (∀ y0 y1 y2 y3 y4, LeO (bucket_Counts.l0 k y0 y1 y2 y3 y4) (bucket_Counts.l0 (k + 1) y0 y1 y2 y3 y4))
  | 0 => ⟨fun _ _ _ r h => by simp [bucket_Counts.j0] at h, fun _ _ _ _ _ r h => by simp [bucket_Counts.l0] at h⟩
  | k + 1 => by
    obtain ⟨ih0, ih1⟩ := bucket_Counts.mono_l k
    refine ⟨?_, ?_⟩
    · intro y0 y1 y2
      unfold bucket_Counts.j0
      exact mB
    · intro y0 y1 y2 y3 y4
      unfold bucket_Counts.l0
      exact mB
theorem bucket_Counts.mono : ∀ a0 a1 k, LeO (bucket_Counts.f k a0 a1) (bucket_Counts.f (k + 1) a0 a1) := by
  intro a0 a1 k
  obtain ⟨ih0, ih1⟩ := bucket_Counts.mono_l k
  unfold bucket_Counts.f
  exact mB
theorem bucket_Counts.calls (k : Nat) (A0 : Option Addr) (c0 : Nat) (l0 : List Int) (a1 : Int) (r1 : List Int) (r2 : Bool) (w : World) (hr0 : Kd.C (Kd.int .i64) w A0 l0.length l0) (hc0 : l0.length ≤ c0) (h : bucket_Counts.f k l0 a1 = some (r1, r2)) :
    Calls Tryz.prog 91 #[.slice A0 l0.length c0, .int .i64 a1] w fun e w' => ∃ v0_ : Value, e = .returned (.tuple #[v0_, .bool r2]) ∧ Kd.R (Kd.int .i64) 3 w' w.heap.size (fun _ => True) v0_ r1 ∧ Below w.heap.size w w' := by
 have HR0 := Aside0.mk hr0
 have HC0 := Aside0.mk hc0
 clear hr0 hc0
 have HB := Aside0.mk (Below.refl w.heap.size w)
 have H := h
 clear h
 unfold bucket_Counts.f at H
 have HC3 := Aside0.mk H
 clear H
 go_enter Tryz.func91, Tryz.ntmps91
 go_upto_region 1 with (fail)
 go_cut [14] (fun v14 wc => ∃ (kq : Nat) (x14_2 : Bool), v14 = .bool x14_2 ∧ Aside0 (bucket_Counts.j0 kq l0 a1 x14_2 = some (r1, r2)) ∧ Aside0 (kq ≤ k) ∧ Aside0 (Below w.heap.size w wc))
 case first =>
  have H := HC3.out
  clear HC3
  rcases ifC H with ⟨c4b0, H⟩ | ⟨c4b0, H⟩
  ·(first | rw [c4b0] | (simp only [i64_w, i32_w]; rw [c4b0]) | skip)
   have H' := Aside0.mk H
   clear H
   go_wp2
   go_meet
   case rel => exact ⟨_, (true), sD, H', ⟨by first | omega | exact Nat.le_refl _⟩, ⟨uB⟩⟩
  ·(first | rw [c4b0] | (simp only [i64_w, i32_w]; rw [c4b0]) | skip)
   have H' := Aside0.mk H
   clear H
   go_wp2
   go_meet
   case rel => exact ⟨_, (decide (a1 > 1048576)), sD, H', ⟨by first | omega | exact Nat.le_refl _⟩, ⟨uB⟩⟩
 case rest =>
  clear HC3
  obtain ⟨kq, x14_2, rfl, HA, HJ2, HB⟩ := hcut
  cases kq with
  | zero => exact absurd HA.out (by simp [bucket_Counts.j0])
  | succ kj2 =>
   have H := HA.out
   clear HA
   simp only [bucket_Counts.j0] at H
   by_cases c5 : x14_2 = true
   ·subst c5
    rw [if_pos rfl] at H
    simp only [Option.some.injEq, Prod.mk.injEq] at H
    obtain ⟨rfl, rfl⟩ := H
    go_wp2
    go_ret2
    exact ⟨_, eR, nL, uB⟩
   ·replace c5 := Bool.eq_false_iff.mpr c5
    subst c5
    rw [if_neg (by decide)] at H
    obtain ⟨c6b0, c6b1, H⟩ := ifE H
    obtain ⟨c7b0, c7b1, H⟩ := ifE H
    generalize hy101 : (List.replicate (a1 : Int).toNat 0 : List Int) = y101 at H
    try simp only [Option.bind_some] at H
    have Ny101 := Aside0.mk hy101.symm
    clear hy101
    have H' := Aside0.mk H
    clear H
    go_wp2_with (first | ((with_reducible refine gate_dst (N := 16) rfl ?_); refine Kd.R_make (Kd.int .i64) _ 3 rfl (N := 16) rfl 29 _ _ rfl a1 rfl rfl Tryz.underlying29 (.int .i64 0) 8 info3 rfl (by decide) (by omega) 0 (ok := fun _ => True) (okp := fun _ => True) rfl (fun _ hk => hk) trivial dT (Nat.le_trans (Nat.mul_le_mul_right _ (dT : a1.toNat ≤ 35184372088832)) (by omega)) (Below.refl _ _) (Nat.le_refl _) ?_; intro v102 w8 ho9 hb hg_ hnew_; clear hg_ hnew_; (first | rw [← Ny101.out] at ho9 | (simp only [Int.reduceToNat] at ho9; rw [← Ny101.out] at ho9)); have n0_ := Aside0.mk (Kd.R_lower ho9 (below_size uB)); have n1_ := Aside0.mk (below_step uB hb); clear HB; have HO103 := n0_; have HB := n1_; clear n0_ n1_; clear hb ho9))
    go_loopg [19] kj2 (fun kq v19 w' => ∃ (x6_2 : List Int) (x19_2 : Int), v19 = .int .i64 x19_2 ∧ Aside0 (bucket_Counts.l0 kq a1 x6_2 l0 (l0.length : Int) x19_2 = some (r1, r2)) ∧ Aside0 (kq ≤ kj2) ∧ Aside0 (Kd.R (Kd.int .i64) 3 w' w.heap.size (fun _ => True) v102 x6_2) ∧ Aside0 (Below w.heap.size w w'))
    case atStart => exact ⟨(y101), (0), sD, H', ⟨Nat.le_refl _⟩, ⟨uR HO103.out⟩, ⟨uB⟩⟩
    case round =>
     clear H'
     obtain ⟨x6_2, x19_2, rfl, HA, HK2, HO_6, HB⟩ := hrel
     cases gk with
     | zero => exact absurd HA.out (by simp [bucket_Counts.l0])
     | succ k2 =>
      have H := HA.out
      clear HA
      simp only [bucket_Counts.l0] at H
      rcases ifC H with ⟨c10b0, H⟩ | ⟨c10b0, H⟩
      ·obtain ⟨c11b0, c12b0, H⟩ := ifD2 H
       rcases ifC H with ⟨c13b0, H⟩ | ⟨c13b0, H⟩
       ·simp only [Option.some.injEq, Prod.mk.injEq] at H
        obtain ⟨rfl, rfl⟩ := H
        obtain ⟨ad104, e104, hx104_0, p104, q104⟩ := rIO HB.out HR0.out x19_2
        cases e104
        go_wp2
        go_ret2
        exact ⟨_, eR, nL, uB⟩
       ·rcases ifG H with ⟨c14b0, H⟩ | ⟨c14b0, H⟩
        ·simp only [Option.some.injEq, Prod.mk.injEq] at H
         obtain ⟨rfl, rfl⟩ := H
         obtain ⟨ad104, e104, hx104_0, p104, q104⟩ := rIO HB.out HR0.out x19_2
         cases e104
         go_wp2
         go_ret2
         exact ⟨_, eR, nL, uB⟩
        ·obtain ⟨c15b0, c16b0, H⟩ := ifD2 H
         generalize hy106 : (x6_2.set ((rd l0 x19_2) : Int).toNat (wrap64 ((rd x6_2 (rd l0 x19_2)) + 1)) : List Int) = y106 at H
         try simp only [Option.bind_some] at H
         have Ny106 := Aside0.mk hy106.symm
         clear hy106
         have H' := Aside0.mk H
         clear H
         obtain ⟨ad104, e104, hx104_0, p104, q104⟩ := rIO HB.out HR0.out x19_2
         cases e104
         obtain ⟨Ao18, co18, eo18⟩ := Kd.R_slice HO_6.out
         subst eo18
         obtain ⟨ad105, e105, hx105_0, p105, q105⟩ := rI (Kd.R_reads' HO_6.out).2.2 (rd l0 x19_2)
         cases e105
         have p17 : 0 ≤ ((rd l0 x19_2) : Int) := dT
         have q17 : ((rd l0 x19_2) : Int) < ((x6_2.length : Int) : Int) := dT
         obtain ⟨go17, co17, eo17, gb17, gl17, cl17, HG17⟩ := Kd.R_form HO_6.out (by omega)
         (first | cases eo17 | (injection eo17 with ea_ en_ ec_; (first | subst ea_ | (injection ea_ with ea_; subst ea_)); subst ec_; clear en_))
         have GB17 := Aside0.mk gb17
         have GG17 := Aside0.mk HG17
         clear gb17 gl17 HG17
         (first | simp only [add_plain] at hx105_0 | skip)
         obtain ⟨hx17_0, hf17_0⟩ := Kd.R_celln 0 HO_6.out ((rd l0 x19_2) : Int) p17 q17
         replace p17 := eq_true p17
         replace q17 := eq_true q17
         have HP19 := Kd.R_putg HO_6.out ((rd l0 x19_2) : Int) (wrap64 ((rd x6_2 (rd l0 x19_2)) + 1))
         go_wp2_with (first | ((with_reducible refine gate_store (t := 3) (p := 35) rfl ?_); refine store_event (t := 3) (p := 35) (v := ?vo_w20) (w1 := (wr.setCell ⟨go17, ((rd l0 x19_2) : Int).toNat, none⟩ (.int .i64 (wrap64 ((rd x6_2 (rd l0 x19_2)) + 1))))) ?hg ?ho ?hn ?hr ?_; (case ho => rfl); (case hg => rfl); (case hn => rfl); (case hr => first | (go_simp; done) | (go_simp; rfl)); intro w20 hw; have hg : wr.grownBy w20 (some go17) := (by rw [hw]; exact HP19.2); have hp_ : Kd.R (Kd.int .i64) 3 w20 w.heap.size (fun _ => True) (.slice (some ⟨go17, 0, none⟩) x6_2.length co18) y106 := (by rw [hw, Ny106.out]; exact HP19.1); clear HP19; have n0_ := Aside0.mk (hp_); have n1_ := Aside0.mk ((by rw [hw]; exact below_set (HB.out) GB17.out : Below w.heap.size w w20)); clear HO_6 HB; have HO_6 := n0_; have HB := n1_; clear n0_ n1_; clear hg hw hp_))
         go_roundg k2
         case measure => have := HJ2.out; have := HK2.out; omega
         case rel => exact ⟨(y106), (wrap64 (x19_2 + 1)), sD, H', ⟨by have := HJ2.out; have := HK2.out; omega⟩, ⟨uR HO_6.out⟩, ⟨uB⟩⟩
      ·simp only [Option.some.injEq, Prod.mk.injEq] at H
       obtain ⟨rfl, rfl⟩ := H
       go_wp2
       go_ret2
       exact ⟨_, eR, uR HO_6.out, uB⟩
def kinds_Small.l0 : Nat → List Int → List Bool → Int → Option (List Bool)
  | 0, _, _, _ => none
  | k + 1, x0, x3, x4 => if x4 ≥ 0 then (if 0 ≤ x4 then (if x4 < (x0.length : Int) then (if 0 ≤ (wrap64 (x4 + 1)) then (if (wrap64 (x4 + 1)) < (x0.length : Int) then (if (rd x0 x4) < (rd x0 (wrap64 (x4 + 1))) then (if x4 < (x3.length : Int) then (kinds_Small.l0 k x0 (x3.set (x4 : Int).toNat true) (wrap64 (x4 - 1))) else (none)) else (if (rd x0 x4) = (rd x0 (wrap64 (x4 + 1))) then (if (wrap64 (x4 + 1)) < (x3.length : Int) then (if x4 < (x3.length : Int) then (kinds_Small.l0 k x0 (x3.set (x4 : Int).toNat (rdOf false x3 (wrap64 (x4 + 1)))) (wrap64 (x4 - 1))) else (none)) else (none)) else (if x4 < (x3.length : Int) then (kinds_Small.l0 k x0 (x3.set (x4 : Int).toNat false) (wrap64 (x4 - 1))) else (none)))) else (none)) else (none)) else (none)) else (none)) else (some x3)
def kinds_Small.f (k : Nat) (l0 : List Int) : Option (List Bool) := if 0 ≤ (l0.length : Int) then (if ((l0.length : Int) : Int).toNat ≤ 281474976710656 then (kinds_Small.l0 k l0 (List.replicate ((l0.length : Int) : Int).toNat false) (wrap64 ((l0.length : Int) - 2))) else (none)) else (none)
theorem kinds_Small.mono_l : ∀ k, (∀ y0 y1 y2, LeO (kinds_Small.l0 k y0 y1 y2) (kinds_Small.l0 (k + 1) y0 y1 y2))
  | 0 => fun _ _ _ r h => by simp [kinds_Small.l0] at h
  | k + 1 => by
    have ih0 := kinds_Small.mono_l k
    · intro y0 y1 y2
      unfold kinds_Small.l0
      exact mB
theorem kinds_Small.mono : ∀ a0 k, LeO (kinds_Small.f k a0) (kinds_Small.f (k + 1) a0) := by
  intro a0 k
  have ih0 := kinds_Small.mono_l k
  unfold kinds_Small.f
  exact mB
def kinds_Small.T5 : Bool × List (List Nat × List Nat) := (true, [([], []), ([], []), ([], []), ([], []), ([2, 3], [2, 3]), ([4], [4]), ([], []), ([], []), ([7], [7]), ([6, 8], [6, 8]), ([9], [9]), ([5, 10], [5, 10]), ([11], [11]), ([12], [12]), ([12], [12]), ([13, 14, 12], [12, 13, 14]), ([15, 12], [12, 15]), ([12], [12]), ([12], [12]), ([18, 12], [12, 18]), ([17, 19, 12], [12, 17, 19]), ([20, 12], [12, 20]), ([16, 21, 12], [12, 16, 21]), ([22, 12, 12], [12, 22]), ([23], [23]), ([23], [23]), ([25, 23], [23, 25]), ([24, 26, 23], [23, 24, 26]), ([27, 23], [23, 27]), ([23, 28, 12], [12, 23, 28]), ([12, 29], [12, 29]), ([0, 1, 0, 1, 2, 3, 4, 5, 6, 7, 8, 9, 10, 11, 12, 13, 14, 15, 16, 17, 18, 19, 20, 21, 22, 23, 24, 25, 26, 27, 28, 29, 30], [0, 1]), ([31, 30, 23, 0, 1, 2, 3, 4, 5, 6, 7, 8, 9, 10, 11, 12, 13, 14, 15, 16, 17, 18, 19, 20, 21, 22, 23, 24, 25, 26, 27, 28, 29, 30], [30, 31])])
def kinds_Small.B5 : List Nat := [0, 0, 0, 0, 12, 28, 0, 0, 128, 448, 960, 2044, 4092, 8188, 8188, 32764, 65532, 8188, 8188, 270332, 925692, 1974268, 4194300, 8388604, 16777212, 16777212, 50331644, 134217724, 268435452, 536870908, 1073741820, 2147483647, 4294967295]
theorem kinds_Small.tab5 : rtab .any (opsOf Tryz.f120 5) = kinds_Small.T5 := by kernel_rfl
theorem kinds_Small.bits5 : waitsOk kinds_Small.T5.2 kinds_Small.B5 = true := by kernel_rfl
theorem kinds_Small.calls (k : Nat) (A0 : Option Addr) (c0 : Nat) (l0 : List Int) (r : List Bool) (w : World) (hr0 : Kd.C (Kd.int .i64) w A0 l0.length l0) (hc0 : l0.length ≤ c0) (h : kinds_Small.f k l0 = some r) :
    Calls Tryz.prog 120 #[.slice A0 l0.length c0] w fun e w' => ∃ v0_ : Value, e = .returned (v0_) ∧ Kd.R Kd.bool 4 w' w.heap.size (fun _ => True) v0_ r ∧ Below w.heap.size w w' := by
 have HR0 := Aside0.mk hr0
 have HC0 := Aside0.mk hc0
 clear hr0 hc0
 have HB := Aside0.mk (Below.refl w.heap.size w)
 have H := h
 clear h
 unfold kinds_Small.f at H
 obtain ⟨c2b0, c2b1, H⟩ := ifE H
 obtain ⟨c3b0, c3b1, H⟩ := ifE H
 generalize hy107 : (List.replicate ((l0.length : Int) : Int).toNat false : List Bool) = y107 at H
 try simp only [Option.bind_some] at H
 have Ny107 := Aside0.mk hy107.symm
 clear hy107
 have H' := Aside0.mk H
 clear H
 go_enter Tryz.func120, Tryz.ntmps120
 go_wp2_with (first | ((with_reducible refine gate_dst (N := 7) rfl ?_); refine Kd.R_make Kd.bool _ 4 rfl (N := 7) rfl 122 _ _ rfl (l0.length : Int) rfl rfl Tryz.underlying122 (.bool false) 1 info4 rfl (by decide) (by omega) false (ok := fun _ => True) (okp := fun _ => True) rfl (fun _ hk => hk) trivial dT (Nat.le_trans (Nat.mul_le_mul_right _ (dT : (l0.length : Int).toNat ≤ 281474976710656)) (by omega)) (Below.refl _ _) (Nat.le_refl _) ?_; intro v108 w4 ho5 hb hg_ hnew_; clear hg_ hnew_; (first | rw [← Ny107.out] at ho5 | (simp only [Int.reduceToNat] at ho5; rw [← Ny107.out] at ho5)); have n0_ := Aside0.mk (Kd.R_lower ho5 (below_size uB)); have n1_ := Aside0.mk (below_step uB hb); clear HB; have HO109 := n0_; have HB := n1_; clear n0_ n1_; clear hb ho5))
 go_loopg [4] k (fun kq v4 w' => ∃ (x3_1 : List Bool) (x4_1 : Int), v4 = .int .i64 x4_1 ∧ Aside0 (kinds_Small.l0 kq l0 x3_1 x4_1 = some r) ∧ Aside0 (kq ≤ k) ∧ Aside0 (Kd.R Kd.bool 4 w' w.heap.size (fun _ => True) v108 x3_1) ∧ Aside0 (Below w.heap.size w w'))
 case atStart => exact ⟨(y107), (wrap64 ((l0.length : Int) - 2)), sD, H', ⟨Nat.le_refl _⟩, ⟨uR HO109.out⟩, ⟨uB⟩⟩
 case round =>
  clear H'
  obtain ⟨x3_1, x4_1, rfl, HA, HK1, HO_3, HB⟩ := hrel
  cases gk with
  | zero => exact absurd HA.out (by simp [kinds_Small.l0])
  | succ k1 =>
   have H := HA.out
   clear HA
   simp only [kinds_Small.l0] at H
   rcases ifG H with ⟨c6b0, H⟩ | ⟨c6b0, H⟩
   ·obtain ⟨c7b0, c8b0, H⟩ := ifD2 H
    obtain ⟨ji9, hji9⟩ : ∃ j_ : Int, (wrap64 (x4_1 + 1)) = j_ := ⟨_, rfl⟩
    first | rw [hji9] at H | simp only [hji9] at H
    have hji9w : (IntKind.i64.wrap (x4_1 + 1)) = ji9 := (i64_w _).trans hji9
    obtain ⟨c10b0, c11b0, H⟩ := ifD2 H
    rcases ifC H with ⟨c12b0, H⟩ | ⟨c12b0, H⟩
    ·obtain ⟨c13b0, H⟩ := ifD H
     generalize hy112 : (x3_1.set (x4_1 : Int).toNat true : List Bool) = y112 at H
     try simp only [Option.bind_some] at H
     have Ny112 := Aside0.mk hy112.symm
     clear hy112
     have H' := Aside0.mk H
     clear H
     try go_wp2
     have n0_ := Aside0.mk (Kd.R_drew HO_3.out)
     have n1_ := Aside0.mk (below_drew1 HB.out)
     clear HO_3
     clear HB
     have HO_3 := n0_
     have HB := n1_
     clear n0_ n1_
     obtain ⟨ad110, e110, hx110_0, p110, q110⟩ := rI HR0.out x4_1
     have hw110_0 := hx110_0
     cases e110
     replace hx110_0 := (HB.out.cell (World.block_lt_of_cell? w _ hx110_0)).trans hx110_0
     obtain ⟨ad111, e111, hx111_0, p111, q111⟩ := rI HR0.out (ji9)
     have hw111_0 := hx111_0
     obtain rfl : ad110 = ad111 := (by injection e111)
     replace hx111_0 := (HB.out.cell (World.block_lt_of_cell? w _ hx111_0)).trans hx111_0
     have p14 : 0 ≤ (x4_1 : Int) := dT
     have q14 : (x4_1 : Int) < ((x3_1.length : Int) : Int) := dT
     obtain ⟨go14, co14, eo14, gb14, gl14, cl14, HG14⟩ := Kd.R_form HO_3.out (by omega)
     (first | cases eo14 | (injection eo14 with ea_ en_ ec_; (first | subst ea_ | (injection ea_ with ea_; subst ea_)); subst ec_; clear en_))
     have GB14 := Aside0.mk gb14
     have GG14 := Aside0.mk HG14
     clear gb14 gl14 HG14
     obtain ⟨hx14_0, hf14_0⟩ := Kd.R_celln false HO_3.out (x4_1 : Int) p14 q14
     replace p14 := eq_true p14
     replace q14 := eq_true q14
     have HP16 := Kd.R_putn HO_3.out (x4_1 : Int) true
     rw [← Ny112.out] at HP16
     have HQ16 := Aside0.mk HP16
     clear HP16
     refine start_ (n := 33) (S := fun w' => w'.cell? (ad110.add (x4_1).toNat) = some (.int .i64 (rd l0 x4_1)) ∧ w'.cell? (ad110.add ((ji9)).toNat) = some (.int .i64 (rd l0 (ji9)))) (ds := [32]) #[false, false, false, false, false, false, false, false, false, false, false, false, false, false, false, false, false, false, false, false, false, false, false, false, false, false, false, false, false, false, false, false, false] (by kernel_rfl) rfl rfl ⟨((HB.out.cell (World.block_lt_of_cell? w _ hw110_0)).trans hw110_0), ((HB.out.cell (World.block_lt_of_cell? w _ hw111_0)).trans hw111_0)⟩ (fun hHeld => ?_); refine with_tabW kinds_Small.tab5 kinds_Small.bits5 (fun HT_ HW_ => ?_)
     generalize wr.drew = w15 at HO_3 HB GG14 HQ16 hf14_0 hx110_0 hx111_0 hx14_0 hHeld ⊢
     refine pY (i := 0) (N := some 15) (bs 0 33) ?_
     refine pY (i := 1) (N := some 16) (bs 1 33) ?_
     refine pY (i := 2) (N := some 17) (bs 2 33) ?_
     refine pY (i := 3) (N := some 18) (bs 3 33) ?_
     refine pY (i := 4) (N := some 19) (bs 4 33) ?_
     refine pY (i := 6) (N := some 21) #[true, true, true, true, true, false, true, false, false, false, false, false, false, false, false, false, false, false, false, false, false, false, false, false, false, false, false, false, false, false, false, false, false] ?_
     refine pY (i := 7) (N := some 22) #[true, true, true, true, true, false, true, true, false, false, false, false, false, false, false, false, false, false, false, false, false, false, false, false, false, false, false, false, false, false, false, false, false] ?_
     refine pY (i := 8) (N := some 23) #[true, true, true, true, true, false, true, true, true, false, false, false, false, false, false, false, false, false, false, false, false, false, false, false, false, false, false, false, false, false, false, false, false] ?_
     refine pY (i := 9) (N := some 24) #[true, true, true, true, true, false, true, true, true, true, false, false, false, false, false, false, false, false, false, false, false, false, false, false, false, false, false, false, false, false, false, false, false] ?_
     refine take_ (i := 5) (N := some 20) (v := ?_) (a' := ?_) (bs 9 33) rfl rfl (take_ofW HT_.out HW_.out (by kernel_rfl)) (fun _ _ _ h => h) (Or.inl ⟨by rfl, ?_⟩) hHeld ?_ ?_
     rotate_left
     ·rintro w' ⟨s0, s1⟩
      go_simp
      with_reducible rfl
     rotate_left
     ·simp only [Act.put, List.setIfInBounds_toArray, List.set_cons_zero, List.set_cons_succ, i64_w, i32_w]
      rfl
     refine take_ (i := 10) (N := some 25) (v := ?_) (a' := ?_) (bs 10 33) rfl rfl (take_ofW HT_.out HW_.out (by kernel_rfl)) (fun _ _ _ h => h) (Or.inl ⟨by rfl, ?_⟩) hHeld ?_ ?_
     rotate_left
     ·rintro w' ⟨s0, s1⟩
      go_simp
      with_reducible rfl
     rotate_left
     ·simp only [Act.put, List.setIfInBounds_toArray, List.set_cons_zero, List.set_cons_succ, i64_w, i32_w]
      rfl
     refine pY (i := 11) (N := some 26) (bs 11 33) ?_
     refine pY (i := 12) (N := some 27) (bs 12 33) ?_
     refine pU (i := 13) (N := some 28) (bs 13 33) ?_
     refine pU (i := 14) (N := some 29) (bs 14 33) ?_
     refine pU (i := 15) (N := some 30) (bs 15 33) ?_
     refine pU (i := 16) (N := some 31) (bs 16 33) ?_
     refine pU (i := 17) (N := some 32) (bs 17 33) ?_
     refine pU (i := 18) (N := some 33) (bs 18 33) ?_
     refine pU (i := 19) (N := some 34) (bs 19 33) ?_
     refine pU (i := 20) (N := some 35) (bs 20 33) ?_
     refine pU (i := 21) (N := some 36) (bs 21 33) ?_
     refine pU (i := 22) (N := some 37) (bs 22 33) ?_
     refine pU (i := 23) (N := some 38) (bs 23 33) ?_
     refine pU (i := 24) (N := some 39) (bs 24 33) ?_
     refine pU (i := 25) (N := some 40) (bs 25 33) ?_
     refine pU (i := 26) (N := some 41) (bs 26 33) ?_
     refine pU (i := 27) (N := some 42) (bs 27 33) ?_
     refine pU (i := 28) (N := some 43) (bs 28 33) ?_
     refine pU (i := 29) (N := some 44) (bs 29 33) ?_
     refine pY (i := 30) (N := some 45) (bs 30 33) ?_
     refine pY (i := 31) (N := some 46) (bs 31 33) ?_
     refine last_ (i := 32) (N := none) (bs 32 33) rfl rfl (one_of HT_.out (by kernel_rfl)) (by decide) (fun K hK => ?_)
     refine skip_ (w1 := ?_) (by rfl) rfl ?_ ?_
     rotate_left
     ·go_simp
      rfl
     refine hK.out _ _ ?_
     clear hK K
     refine done_ (done_of HT_.out (by kernel_rfl)) ?_
     try go_wp2
     go_roundg k1
     case measure => have := HK1.out; omega
     case rel => exact ⟨(y112), (wrap64 (x4_1 - 1)), sD, H', ⟨by have := HK1.out; omega⟩, ⟨uR HQ16.out⟩, ⟨by repeat (first | (with_reducible first | exact HB.out | apply below_alloc | apply pw_below_drewN | apply below_drew1 | refine below_set ?_ GB14.out) | exact HB.out)⟩⟩
    ·by_cases c17 : (rd l0 x4_1) = (rd l0 (ji9))
     ·rw [if_pos c17] at H
      have c17b0 : ((rd l0 x4_1) == (rd l0 (ji9))) = true := beq_iff_eq.mpr c17
      have c17b1 : ((rd l0 x4_1) != (rd l0 (ji9))) = false := bne_eq_false_iff_eq.mpr c17
      clear c17
      obtain ⟨c18b0, c19b0, H⟩ := ifD2 H
      generalize hy116 : (x3_1.set (x4_1 : Int).toNat (rdOf false x3_1 (ji9)) : List Bool) = y116 at H
      try simp only [Option.bind_some] at H
      have Ny116 := Aside0.mk hy116.symm
      clear hy116
      have H' := Aside0.mk H
      clear H
      try go_wp2
      have n0_ := Aside0.mk (Kd.R_drew HO_3.out)
      have n1_ := Aside0.mk (below_drew1 HB.out)
      clear HO_3
      clear HB
      have HO_3 := n0_
      have HB := n1_
      clear n0_ n1_
      obtain ⟨ad110, e110, hx110_0, p110, q110⟩ := rI HR0.out x4_1
      have hw110_0 := hx110_0
      cases e110
      replace hx110_0 := (HB.out.cell (World.block_lt_of_cell? w _ hx110_0)).trans hx110_0
      obtain ⟨ad111, e111, hx111_0, p111, q111⟩ := rI HR0.out (ji9)
      have hw111_0 := hx111_0
      obtain rfl : ad110 = ad111 := (by injection e111)
      replace hx111_0 := (HB.out.cell (World.block_lt_of_cell? w _ hx111_0)).trans hx111_0
      obtain ⟨ad113, e113, hx113_0, p113, q113⟩ := rI HR0.out x4_1
      have hw113_0 := hx113_0
      obtain rfl : ad110 = ad113 := (by injection e113)
      replace hx113_0 := (HB.out.cell (World.block_lt_of_cell? w _ hx113_0)).trans hx113_0
      obtain ⟨ad114, e114, hx114_0, p114, q114⟩ := rI HR0.out (ji9)
      have hw114_0 := hx114_0
      obtain rfl : ad110 = ad114 := (by injection e114)
      replace hx114_0 := (HB.out.cell (World.block_lt_of_cell? w _ hx114_0)).trans hx114_0
      obtain ⟨Ao22, co22, eo22⟩ := Kd.R_slice HO_3.out
      (first | subst eo22 | (injection eo22 with f1_ f2_ f3_; have f4_ := f1_.symm; have f5_ := f3_.symm; clear f1_ f2_ f3_; subst f4_; subst f5_))
      obtain ⟨ad115, e115, hx115_0, p115, q115⟩ := rL (Kd.R_reads' HO_3.out).2.2 (ji9)
      cases e115
      have p20 : 0 ≤ (x4_1 : Int) := dT
      have q20 : (x4_1 : Int) < ((x3_1.length : Int) : Int) := dT
      obtain ⟨go20, co20, eo20, gb20, gl20, cl20, HG20⟩ := Kd.R_form HO_3.out (by omega)
      (first | cases eo20 | (injection eo20 with ea_ en_ ec_; (first | subst ea_ | (injection ea_ with ea_; subst ea_)); subst ec_; clear en_))
      have GB20 := Aside0.mk gb20
      have GG20 := Aside0.mk HG20
      clear gb20 gl20 HG20
      (first | simp only [add_plain] at hx115_0 | skip)
      obtain ⟨hx20_0, hf20_0⟩ := Kd.R_celln false HO_3.out (x4_1 : Int) p20 q20
      replace p20 := eq_true p20
      replace q20 := eq_true q20
      have HP23 := Kd.R_putn HO_3.out (x4_1 : Int) (rdOf false x3_1 (ji9))
      rw [← Ny116.out] at HP23
      have HQ23 := Aside0.mk HP23
      clear HP23
      refine start_ (n := 33) (S := fun w' => w'.cell? (ad110.add (x4_1).toNat) = some (.int .i64 (rd l0 x4_1)) ∧ w'.cell? (ad110.add ((ji9)).toNat) = some (.int .i64 (rd l0 (ji9))) ∧ w'.cell? (ad110.add (x4_1).toNat) = some (.int .i64 (rd l0 x4_1)) ∧ w'.cell? (ad110.add ((ji9)).toNat) = some (.int .i64 (rd l0 (ji9))) ∧ w'.cell? ⟨go20, ((ji9)).toNat, none⟩ = some (.bool (rdOf false x3_1 (ji9)))) (ds := [32]) #[false, false, false, false, false, false, false, false, false, false, false, false, false, false, false, false, false, false, false, false, false, false, false, false, false, false, false, false, false, false, false, false, false] (by kernel_rfl) rfl rfl ⟨((HB.out.cell (World.block_lt_of_cell? w _ hw110_0)).trans hw110_0), ((HB.out.cell (World.block_lt_of_cell? w _ hw111_0)).trans hw111_0), ((HB.out.cell (World.block_lt_of_cell? w _ hw113_0)).trans hw113_0), ((HB.out.cell (World.block_lt_of_cell? w _ hw114_0)).trans hw114_0), hx115_0⟩ (fun hHeld => ?_); refine with_tabW kinds_Small.tab5 kinds_Small.bits5 (fun HT_ HW_ => ?_)
      generalize wr.drew = w21 at HO_3 HB GG20 HQ23 hf20_0 hx110_0 hx111_0 hx113_0 hx114_0 hx115_0 hx20_0 hHeld ⊢
      refine pY (i := 0) (N := some 15) (bs 0 33) ?_
      refine pY (i := 1) (N := some 16) (bs 1 33) ?_
      refine pY (i := 2) (N := some 17) (bs 2 33) ?_
      refine pY (i := 3) (N := some 18) (bs 3 33) ?_
      refine pY (i := 4) (N := some 19) (bs 4 33) ?_
      refine pY (i := 6) (N := some 21) #[true, true, true, true, true, false, true, false, false, false, false, false, false, false, false, false, false, false, false, false, false, false, false, false, false, false, false, false, false, false, false, false, false] ?_
      refine pY (i := 7) (N := some 22) #[true, true, true, true, true, false, true, true, false, false, false, false, false, false, false, false, false, false, false, false, false, false, false, false, false, false, false, false, false, false, false, false, false] ?_
      refine pY (i := 8) (N := some 23) #[true, true, true, true, true, false, true, true, true, false, false, false, false, false, false, false, false, false, false, false, false, false, false, false, false, false, false, false, false, false, false, false, false] ?_
      refine pY (i := 9) (N := some 24) #[true, true, true, true, true, false, true, true, true, true, false, false, false, false, false, false, false, false, false, false, false, false, false, false, false, false, false, false, false, false, false, false, false] ?_
      refine take_ (i := 5) (N := some 20) (v := ?_) (a' := ?_) (bs 9 33) rfl rfl (take_ofW HT_.out HW_.out (by kernel_rfl)) (fun _ _ _ h => h) (Or.inl ⟨by rfl, ?_⟩) hHeld ?_ ?_
      rotate_left
      ·rintro w' ⟨s0, s1, s2, s3, s4⟩
       go_simp
       with_reducible rfl
      rotate_left
      ·simp only [Act.put, List.setIfInBounds_toArray, List.set_cons_zero, List.set_cons_succ, i64_w, i32_w]
       rfl
      refine take_ (i := 10) (N := some 25) (v := ?_) (a' := ?_) (bs 10 33) rfl rfl (take_ofW HT_.out HW_.out (by kernel_rfl)) (fun _ _ _ h => h) (Or.inl ⟨by rfl, ?_⟩) hHeld ?_ ?_
      rotate_left
      ·rintro w' ⟨s0, s1, s2, s3, s4⟩
       go_simp
       with_reducible rfl
      rotate_left
      ·simp only [Act.put, List.setIfInBounds_toArray, List.set_cons_zero, List.set_cons_succ, i64_w, i32_w]
       rfl
      refine pY (i := 11) (N := some 26) (bs 11 33) ?_
      refine pY (i := 12) (N := some 27) (bs 12 33) ?_
      refine pY (i := 13) (N := some 28) (bs 13 33) ?_
      refine pY (i := 14) (N := some 29) (bs 14 33) ?_
      refine pY (i := 15) (N := some 30) (bs 15 33) ?_
      refine pY (i := 17) (N := some 32) #[true, true, true, true, true, true, true, true, true, true, true, true, true, true, true, true, false, true, false, false, false, false, false, false, false, false, false, false, false, false, false, false, false] ?_
      refine pY (i := 18) (N := some 33) #[true, true, true, true, true, true, true, true, true, true, true, true, true, true, true, true, false, true, true, false, false, false, false, false, false, false, false, false, false, false, false, false, false] ?_
      refine pY (i := 19) (N := some 34) #[true, true, true, true, true, true, true, true, true, true, true, true, true, true, true, true, false, true, true, true, false, false, false, false, false, false, false, false, false, false, false, false, false] ?_
      refine pY (i := 20) (N := some 35) #[true, true, true, true, true, true, true, true, true, true, true, true, true, true, true, true, false, true, true, true, true, false, false, false, false, false, false, false, false, false, false, false, false] ?_
      refine take_ (i := 16) (N := some 31) (v := ?_) (a' := ?_) (bs 20 33) rfl rfl (take_ofW HT_.out HW_.out (by kernel_rfl)) (fun _ _ _ h => h) (Or.inl ⟨by rfl, ?_⟩) hHeld ?_ ?_
      rotate_left
      ·rintro w' ⟨s0, s1, s2, s3, s4⟩
       go_simp
       with_reducible rfl
      rotate_left
      ·simp only [Act.put, List.setIfInBounds_toArray, List.set_cons_zero, List.set_cons_succ, i64_w, i32_w]
       rfl
      refine take_ (i := 21) (N := some 36) (v := ?_) (a' := ?_) (bs 21 33) rfl rfl (take_ofW HT_.out HW_.out (by kernel_rfl)) (fun _ _ _ h => h) (Or.inl ⟨by rfl, ?_⟩) hHeld ?_ ?_
      rotate_left
      ·rintro w' ⟨s0, s1, s2, s3, s4⟩
       go_simp
       with_reducible rfl
      rotate_left
      ·simp only [Act.put, List.setIfInBounds_toArray, List.set_cons_zero, List.set_cons_succ, i64_w, i32_w]
       rfl
      refine pY (i := 22) (N := some 37) (bs 22 33) ?_
      refine pY (i := 23) (N := some 38) (bs 23 33) ?_
      refine pY (i := 24) (N := some 39) (bs 24 33) ?_
      refine pY (i := 25) (N := some 40) (bs 25 33) ?_
      refine pY (i := 26) (N := some 41) (bs 26 33) ?_
      refine pY (i := 27) (N := some 42) (bs 27 33) ?_
      refine take_ (i := 28) (N := some 43) (v := ?_) (a' := ?_) (bs 28 33) rfl rfl (take_ofW HT_.out HW_.out (by kernel_rfl)) (fun _ _ _ h => h) (Or.inl ⟨by rfl, ?_⟩) hHeld ?_ ?_
      rotate_left
      ·rintro w' ⟨s0, s1, s2, s3, s4⟩
       go_simp
       with_reducible rfl
      rotate_left
      ·simp only [Act.put, List.setIfInBounds_toArray, List.set_cons_zero, List.set_cons_succ, i64_w, i32_w]
       rfl
      refine pY (i := 29) (N := some 44) (bs 29 33) ?_
      refine pY (i := 30) (N := some 45) (bs 30 33) ?_
      refine pY (i := 31) (N := some 46) (bs 31 33) ?_
      refine last_ (i := 32) (N := none) (bs 32 33) rfl rfl (one_of HT_.out (by kernel_rfl)) (by decide) (fun K hK => ?_)
      refine skip_ (w1 := ?_) (by rfl) rfl ?_ ?_
      rotate_left
      ·go_simp
       rfl
      refine hK.out _ _ ?_
      clear hK K
      refine done_ (done_of HT_.out (by kernel_rfl)) ?_
      try go_wp2
      go_roundg k1
      case measure => have := HK1.out; omega
      case rel => exact ⟨(y116), (wrap64 (x4_1 - 1)), sD, H', ⟨by have := HK1.out; omega⟩, ⟨uR HQ23.out⟩, ⟨by repeat (first | (with_reducible first | exact HB.out | apply below_alloc | apply pw_below_drewN | apply below_drew1 | refine below_set ?_ GB20.out) | exact HB.out)⟩⟩
     ·rw [if_neg c17] at H
      have c17b0 : ((rd l0 x4_1) == (rd l0 (ji9))) = false := beq_eq_false_iff_ne.mpr c17
      have c17b1 : ((rd l0 x4_1) != (rd l0 (ji9))) = true := bne_iff_ne.mpr c17
      obtain ⟨c24b0, H⟩ := ifD H
      generalize hy117 : (x3_1.set (x4_1 : Int).toNat false : List Bool) = y117 at H
      try simp only [Option.bind_some] at H
      have Ny117 := Aside0.mk hy117.symm
      clear hy117
      have H' := Aside0.mk H
      clear H
      try go_wp2
      have n0_ := Aside0.mk (Kd.R_drew HO_3.out)
      have n1_ := Aside0.mk (below_drew1 HB.out)
      clear HO_3
      clear HB
      have HO_3 := n0_
      have HB := n1_
      clear n0_ n1_
      obtain ⟨ad110, e110, hx110_0, p110, q110⟩ := rI HR0.out x4_1
      have hw110_0 := hx110_0
      cases e110
      replace hx110_0 := (HB.out.cell (World.block_lt_of_cell? w _ hx110_0)).trans hx110_0
      obtain ⟨ad111, e111, hx111_0, p111, q111⟩ := rI HR0.out (ji9)
      have hw111_0 := hx111_0
      obtain rfl : ad110 = ad111 := (by injection e111)
      replace hx111_0 := (HB.out.cell (World.block_lt_of_cell? w _ hx111_0)).trans hx111_0
      obtain ⟨ad113, e113, hx113_0, p113, q113⟩ := rI HR0.out x4_1
      have hw113_0 := hx113_0
      obtain rfl : ad110 = ad113 := (by injection e113)
      replace hx113_0 := (HB.out.cell (World.block_lt_of_cell? w _ hx113_0)).trans hx113_0
      obtain ⟨ad114, e114, hx114_0, p114, q114⟩ := rI HR0.out (ji9)
      have hw114_0 := hx114_0
      obtain rfl : ad110 = ad114 := (by injection e114)
      replace hx114_0 := (HB.out.cell (World.block_lt_of_cell? w _ hx114_0)).trans hx114_0
      have p25 : 0 ≤ (x4_1 : Int) := dT
      have q25 : (x4_1 : Int) < ((x3_1.length : Int) : Int) := dT
      obtain ⟨go25, co25, eo25, gb25, gl25, cl25, HG25⟩ := Kd.R_form HO_3.out (by omega)
      (first | cases eo25 | (injection eo25 with ea_ en_ ec_; (first | subst ea_ | (injection ea_ with ea_; subst ea_)); subst ec_; clear en_))
      have GB25 := Aside0.mk gb25
      have GG25 := Aside0.mk HG25
      clear gb25 gl25 HG25
      obtain ⟨hx25_0, hf25_0⟩ := Kd.R_celln false HO_3.out (x4_1 : Int) p25 q25
      replace p25 := eq_true p25
      replace q25 := eq_true q25
      have HP27 := Kd.R_putn HO_3.out (x4_1 : Int) false
      rw [← Ny117.out] at HP27
      have HQ27 := Aside0.mk HP27
      clear HP27
      refine start_ (n := 33) (S := fun w' => w'.cell? (ad110.add (x4_1).toNat) = some (.int .i64 (rd l0 x4_1)) ∧ w'.cell? (ad110.add ((ji9)).toNat) = some (.int .i64 (rd l0 (ji9))) ∧ w'.cell? (ad110.add (x4_1).toNat) = some (.int .i64 (rd l0 x4_1)) ∧ w'.cell? (ad110.add ((ji9)).toNat) = some (.int .i64 (rd l0 (ji9)))) (ds := [32]) #[false, false, false, false, false, false, false, false, false, false, false, false, false, false, false, false, false, false, false, false, false, false, false, false, false, false, false, false, false, false, false, false, false] (by kernel_rfl) rfl rfl ⟨((HB.out.cell (World.block_lt_of_cell? w _ hw110_0)).trans hw110_0), ((HB.out.cell (World.block_lt_of_cell? w _ hw111_0)).trans hw111_0), ((HB.out.cell (World.block_lt_of_cell? w _ hw113_0)).trans hw113_0), ((HB.out.cell (World.block_lt_of_cell? w _ hw114_0)).trans hw114_0)⟩ (fun hHeld => ?_); refine with_tabW kinds_Small.tab5 kinds_Small.bits5 (fun HT_ HW_ => ?_)
      generalize wr.drew = w26 at HO_3 HB GG25 HQ27 hf25_0 hx110_0 hx111_0 hx113_0 hx114_0 hx25_0 hHeld ⊢
      refine pY (i := 0) (N := some 15) (bs 0 33) ?_
      refine pY (i := 1) (N := some 16) (bs 1 33) ?_
      refine pY (i := 2) (N := some 17) (bs 2 33) ?_
      refine pY (i := 3) (N := some 18) (bs 3 33) ?_
      refine pY (i := 4) (N := some 19) (bs 4 33) ?_
      refine pY (i := 6) (N := some 21) #[true, true, true, true, true, false, true, false, false, false, false, false, false, false, false, false, false, false, false, false, false, false, false, false, false, false, false, false, false, false, false, false, false] ?_
      refine pY (i := 7) (N := some 22) #[true, true, true, true, true, false, true, true, false, false, false, false, false, false, false, false, false, false, false, false, false, false, false, false, false, false, false, false, false, false, false, false, false] ?_
      refine pY (i := 8) (N := some 23) #[true, true, true, true, true, false, true, true, true, false, false, false, false, false, false, false, false, false, false, false, false, false, false, false, false, false, false, false, false, false, false, false, false] ?_
      refine pY (i := 9) (N := some 24) #[true, true, true, true, true, false, true, true, true, true, false, false, false, false, false, false, false, false, false, false, false, false, false, false, false, false, false, false, false, false, false, false, false] ?_
      refine take_ (i := 5) (N := some 20) (v := ?_) (a' := ?_) (bs 9 33) rfl rfl (take_ofW HT_.out HW_.out (by kernel_rfl)) (fun _ _ _ h => h) (Or.inl ⟨by rfl, ?_⟩) hHeld ?_ ?_
      rotate_left
      ·rintro w' ⟨s0, s1, s2, s3⟩
       go_simp
       with_reducible rfl
      rotate_left
      ·simp only [Act.put, List.setIfInBounds_toArray, List.set_cons_zero, List.set_cons_succ, i64_w, i32_w]
       rfl
      refine take_ (i := 10) (N := some 25) (v := ?_) (a' := ?_) (bs 10 33) rfl rfl (take_ofW HT_.out HW_.out (by kernel_rfl)) (fun _ _ _ h => h) (Or.inl ⟨by rfl, ?_⟩) hHeld ?_ ?_
      rotate_left
      ·rintro w' ⟨s0, s1, s2, s3⟩
       go_simp
       with_reducible rfl
      rotate_left
      ·simp only [Act.put, List.setIfInBounds_toArray, List.set_cons_zero, List.set_cons_succ, i64_w, i32_w]
       rfl
      refine pY (i := 11) (N := some 26) (bs 11 33) ?_
      refine pY (i := 12) (N := some 27) (bs 12 33) ?_
      refine pY (i := 13) (N := some 28) (bs 13 33) ?_
      refine pY (i := 14) (N := some 29) (bs 14 33) ?_
      refine pY (i := 15) (N := some 30) (bs 15 33) ?_
      refine pY (i := 17) (N := some 32) #[true, true, true, true, true, true, true, true, true, true, true, true, true, true, true, true, false, true, false, false, false, false, false, false, false, false, false, false, false, false, false, false, false] ?_
      refine pY (i := 18) (N := some 33) #[true, true, true, true, true, true, true, true, true, true, true, true, true, true, true, true, false, true, true, false, false, false, false, false, false, false, false, false, false, false, false, false, false] ?_
      refine pY (i := 19) (N := some 34) #[true, true, true, true, true, true, true, true, true, true, true, true, true, true, true, true, false, true, true, true, false, false, false, false, false, false, false, false, false, false, false, false, false] ?_
      refine pY (i := 20) (N := some 35) #[true, true, true, true, true, true, true, true, true, true, true, true, true, true, true, true, false, true, true, true, true, false, false, false, false, false, false, false, false, false, false, false, false] ?_
      refine take_ (i := 16) (N := some 31) (v := ?_) (a' := ?_) (bs 20 33) rfl rfl (take_ofW HT_.out HW_.out (by kernel_rfl)) (fun _ _ _ h => h) (Or.inl ⟨by rfl, ?_⟩) hHeld ?_ ?_
      rotate_left
      ·rintro w' ⟨s0, s1, s2, s3⟩
       go_simp
       with_reducible rfl
      rotate_left
      ·simp only [Act.put, List.setIfInBounds_toArray, List.set_cons_zero, List.set_cons_succ, i64_w, i32_w]
       rfl
      refine take_ (i := 21) (N := some 36) (v := ?_) (a' := ?_) (bs 21 33) rfl rfl (take_ofW HT_.out HW_.out (by kernel_rfl)) (fun _ _ _ h => h) (Or.inl ⟨by rfl, ?_⟩) hHeld ?_ ?_
      rotate_left
      ·rintro w' ⟨s0, s1, s2, s3⟩
       go_simp
       with_reducible rfl
      rotate_left
      ·simp only [Act.put, List.setIfInBounds_toArray, List.set_cons_zero, List.set_cons_succ, i64_w, i32_w]
       rfl
      refine pY (i := 22) (N := some 37) (bs 22 33) ?_
      refine pY (i := 23) (N := some 38) (bs 23 33) ?_
      refine pU (i := 24) (N := some 39) (bs 24 33) ?_
      refine pU (i := 25) (N := some 40) (bs 25 33) ?_
      refine pU (i := 26) (N := some 41) (bs 26 33) ?_
      refine pU (i := 27) (N := some 42) (bs 27 33) ?_
      refine pU (i := 28) (N := some 43) (bs 28 33) ?_
      refine pY (i := 29) (N := some 44) (bs 29 33) ?_
      refine pY (i := 30) (N := some 45) (bs 30 33) ?_
      refine pY (i := 31) (N := some 46) (bs 31 33) ?_
      refine last_ (i := 32) (N := none) (bs 32 33) rfl rfl (one_of HT_.out (by kernel_rfl)) (by decide) (fun K hK => ?_)
      refine skip_ (w1 := ?_) (by rfl) rfl ?_ ?_
      rotate_left
      ·go_simp
       rfl
      refine hK.out _ _ ?_
      clear hK K
      refine done_ (done_of HT_.out (by kernel_rfl)) ?_
      try go_wp2
      go_roundg k1
      case measure => have := HK1.out; omega
      case rel => exact ⟨(y117), (wrap64 (x4_1 - 1)), sD, H', ⟨by have := HK1.out; omega⟩, ⟨uR HQ27.out⟩, ⟨by repeat (first | (with_reducible first | exact HB.out | apply below_alloc | apply pw_below_drewN | apply below_drew1 | refine below_set ?_ GB25.out) | exact HB.out)⟩⟩
   ·obtain rfl := Option.some.inj H
    go_wp2
    go_ret
    exact ⟨_, eR, uR HO_3.out, uB⟩
def kinds_First.l0 : Nat → List Int → List Bool → Int → Int → Option (List Int)
  | 0, _, _, _, _ => none
  | k + 1, x3, x4, x9, x10 => if x10 < x9 then (if x10 > 0 then (if 0 ≤ x10 then (if x10 < (x4.length : Int) then (if rdOf false x4 x10 = true then (if 0 ≤ (wrap64 (x10 - 1)) then (if (wrap64 (x10 - 1)) < (x4.length : Int) then (if (rdOf false x4 (wrap64 (x10 - 1)) = true) then (kinds_First.l0 k x3 x4 x9 (wrap64 (x10 + 1))) else (if x3.length < 17592186044416 then (kinds_First.l0 k (x3 ++ [x10]) x4 x9 (wrap64 (x10 + 1))) else (none))) else (none)) else (none)) else (kinds_First.l0 k x3 x4 x9 (wrap64 (x10 + 1)))) else (none)) else (none)) else (kinds_First.l0 k x3 x4 x9 (wrap64 (x10 + 1)))) else (some x3)
def kinds_First.f (k : Nat) (l0 : List Int) : Option (List Int) := (kinds_Small.f k l0).bind fun t118 => (kinds_First.l0 k ([] : List Int) t118 (l0.length : Int) 0)
theorem kinds_First.mono_l : ∀ k, (∀ y0 y1 y2 y3, LeO (kinds_First.l0 k y0 y1 y2 y3) (kinds_First.l0 (k + 1) y0 y1 y2 y3))
  | 0 => fun _ _ _ _ r h => by simp [kinds_First.l0] at h
  | k + 1 => by
    have ih0 := kinds_First.mono_l k
    · intro y0 y1 y2 y3
      unfold kinds_First.l0
      have m0 := @kinds_Small.mono
      exact mB
theorem kinds_First.mono : ∀ a0 k, LeO (kinds_First.f k a0) (kinds_First.f (k + 1) a0) := by
  intro a0 k
  have ih0 := kinds_First.mono_l k
  unfold kinds_First.f
  have m0 := @kinds_Small.mono
  exact mB
theorem kinds_First.calls (k : Nat) (A0 : Option Addr) (c0 : Nat) (l0 : List Int) (r : List Int) (w : World) (hr0 : Kd.C (Kd.int .i64) w A0 l0.length l0) (hc0 : l0.length ≤ c0) (h : kinds_First.f k l0 = some r) :
    Calls Tryz.prog 104 #[.slice A0 l0.length c0] w fun e w' => ∃ v0_ : Value, e = .returned (v0_) ∧ Kd.R (Kd.int .i64) 3 w' w.heap.size (fun _ => True) v0_ r ∧ Below w.heap.size w w' := by
 have HR0 := Aside0.mk hr0
 have HC0 := Aside0.mk hc0
 clear hr0 hc0
 have HB := Aside0.mk (Below.refl w.heap.size w)
 have H := h
 clear h
 unfold kinds_First.f at H
 obtain ⟨t118, A2, H⟩ := bdS H
 try dsimp only at H
 have H' := Aside0.mk H
 clear H
 go_enter Tryz.func104, Tryz.ntmps104
 go_wp2_with (first | ((with_reducible refine gate_callee (f := 120) rfl ?_); refine goesL_ (some 7) rfl rfl Tryz.func120 (by kernel_rfl) rfl #[.slice A0 l0.length c0] rfl aE ?_; (with_reducible refine (kinds_Small.calls k _ _ l0 t118 _ ?side1 ?side2 A2.out).mono ?_); (case side1 => exact uC HR0.out); (case side2 => exact HC0.out); rintro e w3 ⟨v119, rfl, ho0, hb⟩; refine ⟨_, rfl, ?_⟩; have n0_ := Aside0.mk (Kd.R_lower ho0 (below_size uB)); have n1_ := Aside0.mk (below_step uB hb); clear HB; have HO120 := n0_; have HB := n1_; clear n0_ n1_))
 go_loopg [3, 10] k (fun kq v3 v10 w' => ∃ (x3_1 : List Int) (x10_1 : Int), v10 = .int .i64 x10_1 ∧ Aside0 (kinds_First.l0 kq x3_1 t118 (l0.length : Int) x10_1 = some r) ∧ Aside0 (kq ≤ k) ∧ Aside0 (Kd.R (Kd.int .i64) 3 w' w.heap.size (fun _ => True) v3 x3_1) ∧ Aside0 (Kd.R Kd.bool 4 w' w.heap.size (fun _ => True) v119 t118) ∧ Aside0 (Below w.heap.size w w'))
 case atStart => exact ⟨(([] : List Int)), (0), sD, H', ⟨Nat.le_refl _⟩, ⟨nL⟩, ⟨uR HO120.out⟩, ⟨uB⟩⟩
 case round =>
  clear H'
  obtain ⟨x3_1, x10_1, rfl, HA, HK1, HO_3, HO_4, HB⟩ := hrel
  cases gk with
  | zero => exact absurd HA.out (by simp [kinds_First.l0])
  | succ k1 =>
   have H := HA.out
   clear HA
   simp only [kinds_First.l0] at H
   rcases ifC H with ⟨c4b0, H⟩ | ⟨c4b0, H⟩
   ·rcases ifK H with ⟨c5b0, H⟩ | ⟨c5b0, H⟩
    ·obtain ⟨c6b0, c7b0, H⟩ := ifD2 H
     obtain ⟨bq8, hbq8⟩ : ∃ b_ : Bool, b_ = (rdOf false t118 x10_1) := ⟨_, rfl⟩
     replace H : (if bq8 = true then (if 0 ≤ (wrap64 (x10_1 - 1)) then (if (wrap64 (x10_1 - 1)) < (t118.length : Int) then (if (rdOf false t118 (wrap64 (x10_1 - 1)) = true) then (kinds_First.l0 k1 x3_1 t118 (l0.length : Int) (wrap64 (x10_1 + 1))) else (if x3_1.length < 17592186044416 then (kinds_First.l0 k1 (x3_1 ++ [x10_1]) t118 (l0.length : Int) (wrap64 (x10_1 + 1))) else (none))) else (none)) else (none)) else (kinds_First.l0 k1 x3_1 t118 (l0.length : Int) (wrap64 (x10_1 + 1)))) = some r := by rw [← hbq8] at H; exact H
     have Nbq8 := Aside0.mk hbq8
     clear hbq8
     by_cases c9 : bq8 = true
     ·subst c9
      rw [if_pos rfl] at H
      obtain ⟨ji10, hji10⟩ : ∃ j_ : Int, (wrap64 (x10_1 - 1)) = j_ := ⟨_, rfl⟩
      first | rw [hji10] at H | simp only [hji10] at H
      have hji10w : (IntKind.i64.wrap (x10_1 - 1)) = ji10 := (i64_w _).trans hji10
      obtain ⟨c11b0, c12b0, H⟩ := ifD2 H
      obtain ⟨bq13, hbq13⟩ : ∃ b_ : Bool, b_ = (rdOf false t118 (ji10)) := ⟨_, rfl⟩
      replace H : (if (bq13 = true) then (kinds_First.l0 k1 x3_1 t118 (l0.length : Int) (wrap64 (x10_1 + 1))) else (if x3_1.length < 17592186044416 then (kinds_First.l0 k1 (x3_1 ++ [x10_1]) t118 (l0.length : Int) (wrap64 (x10_1 + 1))) else (none))) = some r := by rw [← hbq13] at H; exact H
      have Nbq13 := Aside0.mk hbq13
      clear hbq13
      by_cases c14 : (bq13 = true)
      ·subst c14
       rw [if_pos rfl] at H
       have H' := Aside0.mk H
       clear H
       obtain ⟨Ao15, co15, eo15⟩ := Kd.R_slice HO_4.out
       subst eo15
       have p121 : 0 ≤ (x10_1 : Int) := dT
       have q121 : x10_1 < (t118.length : Int) := dT
       obtain ⟨ad121, e121, hx121_0⟩ := Kd.at_bool (Kd.R_reads' HO_4.out).2.2 x10_1 p121 q121
       (try rw [← Nbq8.out] at hx121_0)
       (try rw [← Nbq13.out] at hx121_0)
       cases e121
       replace p121 := eq_true p121
       replace q121 := eq_true q121
       have p122 : 0 ≤ ((ji10) : Int) := dT
       have q122 : (ji10) < (t118.length : Int) := dT
       obtain ⟨ad122, e122, hx122_0⟩ := Kd.at_bool (Kd.R_reads' HO_4.out).2.2 (ji10) p122 q122
       (try rw [← Nbq8.out] at hx122_0)
       (try rw [← Nbq13.out] at hx122_0)
       obtain rfl : ad121 = ad122 := (by injection e122)
       replace p122 := eq_true p122
       replace q122 := eq_true q122
       go_wp2
       go_roundg k1
       case measure => have := HK1.out; omega
       case rel => exact ⟨(x3_1), (wrap64 (x10_1 + 1)), sD, H', ⟨by have := HK1.out; omega⟩, ⟨uR HO_3.out⟩, ⟨uR HO_4.out⟩, ⟨uB⟩⟩
      ·replace c14 := Bool.eq_false_iff.mpr c14
       subst c14
       rw [if_neg (by decide)] at H
       obtain ⟨c16, H⟩ := ifP H
       have LMc16 := Aside0.mk c16
       clear c16
       generalize hy123 : (x3_1 ++ [x10_1] : List Int) = y123 at H
       try simp only [Option.bind_some] at H
       have Ny123 := Aside0.mk hy123.symm
       clear hy123
       have H' := Aside0.mk H
       clear H
       obtain ⟨Ao17, co17, eo17⟩ := Kd.R_slice HO_4.out
       subst eo17
       have p121 : 0 ≤ (x10_1 : Int) := dT
       have q121 : x10_1 < (t118.length : Int) := dT
       obtain ⟨ad121, e121, hx121_0⟩ := Kd.at_bool (Kd.R_reads' HO_4.out).2.2 x10_1 p121 q121
       (try rw [← Nbq8.out] at hx121_0)
       (try rw [← Nbq13.out] at hx121_0)
       cases e121
       replace p121 := eq_true p121
       replace q121 := eq_true q121
       have p122 : 0 ≤ ((ji10) : Int) := dT
       have q122 : (ji10) < (t118.length : Int) := dT
       obtain ⟨ad122, e122, hx122_0⟩ := Kd.at_bool (Kd.R_reads' HO_4.out).2.2 (ji10) p122 q122
       (try rw [← Nbq8.out] at hx122_0)
       (try rw [← Nbq13.out] at hx122_0)
       obtain rfl : ad121 = ad122 := (by injection e122)
       replace p122 := eq_true p122
       replace q122 := eq_true q122
       go_wp2_with (first | ((with_reducible refine gate_builtin (b := .append) (xs := #[.tmp 29, .tmp 31]) rfl ?_); at_builtin; refine Kd.R_append (Kd.int .i64) (w0 := w) w.heap.size rfl (.tmp 29) (.tmp 31) 29 3 (.int .i64 0) 8 rfl Tryz.underlying29 info3 rfl (by decide) (by omega) u3 x3_1 x10_1 [.int .i64 x10_1] (fun _ => True) (fun _ => False) rfl rfl ?aP (fun _ hk => hk.elim) ?aF ?aO ?aB ?aS ?aL ?_; (case aP => exact rfl); (case aB => exact uB); (case aF => exact (fun _ _ => trivial)); (case aO => exact (uR HO_3.out)); (case aS => exact (below_size uB)); (case aL => have := LMc16.out; omega); intro v124 w18 ho hb hg hat; rw [← Ny123.out] at ho; have n0_ := Aside0.mk (Kd.R_over' (uR HO_4.out) (Kd.R_typed (uR HO_3.out)) (by decide) hg); have n1_ := Aside0.mk (hb); have n2_ := Aside0.mk (ho); clear HO_4 HB HO_3; have HO_4 := n0_; have HB := n1_; have HO125 := n2_; clear n0_ n1_ n2_; clear ho hb hg hat))
       go_roundg k1
       case measure => have := HK1.out; omega
       case rel => exact ⟨(y123), (wrap64 (x10_1 + 1)), sD, H', ⟨by have := HK1.out; omega⟩, ⟨uR HO125.out⟩, ⟨uR HO_4.out⟩, ⟨uB⟩⟩
     ·replace c9 := Bool.eq_false_iff.mpr c9
      subst c9
      rw [if_neg (by decide)] at H
      have H' := Aside0.mk H
      clear H
      obtain ⟨Ao19, co19, eo19⟩ := Kd.R_slice HO_4.out
      subst eo19
      have p121 : 0 ≤ (x10_1 : Int) := dT
      have q121 : x10_1 < (t118.length : Int) := dT
      obtain ⟨ad121, e121, hx121_0⟩ := Kd.at_bool (Kd.R_reads' HO_4.out).2.2 x10_1 p121 q121
      (try rw [← Nbq8.out] at hx121_0)
      cases e121
      replace p121 := eq_true p121
      replace q121 := eq_true q121
      go_wp2
      go_roundg k1
      case measure => have := HK1.out; omega
      case rel => exact ⟨(x3_1), (wrap64 (x10_1 + 1)), sD, H', ⟨by have := HK1.out; omega⟩, ⟨uR HO_3.out⟩, ⟨uR HO_4.out⟩, ⟨uB⟩⟩
    ·have H' := Aside0.mk H
     clear H
     go_wp2
     go_roundg k1
     case measure => have := HK1.out; omega
     case rel => exact ⟨(x3_1), (wrap64 (x10_1 + 1)), sD, H', ⟨by have := HK1.out; omega⟩, ⟨uR HO_3.out⟩, ⟨uR HO_4.out⟩, ⟨uB⟩⟩
   ·obtain rfl := Option.some.inj H
    go_wp2
    go_ret
    exact ⟨_, eR, uR HO_3.out, uB⟩
def slices_Equal_int_int.l0 : Nat → List Int → List Int → Int → Int → Option (Bool)
  | 0, _, _, _, _ => none
  | k + 1, x0, x1, x12, x13 => if x13 < x12 then (if 0 ≤ x13 then (if x13 < (x0.length : Int) then (if x13 < (x1.length : Int) then (if (rd x0 x13) = (rd x1 x13) then (slices_Equal_int_int.l0 k x0 x1 x12 (wrap64 (x13 + 1))) else (some false)) else (none)) else (none)) else (none)) else (some true)
def slices_Equal_int_int.f (k : Nat) (l0 : List Int) (l1 : List Int) : Option (Bool) := if (l0.length : Int) = (l1.length : Int) then (slices_Equal_int_int.l0 k l0 l1 (l0.length : Int) 0) else (some false)
theorem slices_Equal_int_int.mono_l : ∀ k, (∀ y0 y1 y2 y3, LeO (slices_Equal_int_int.l0 k y0 y1 y2 y3) (slices_Equal_int_int.l0 (k + 1) y0 y1 y2 y3))
  | 0 => fun _ _ _ _ r h => by simp [slices_Equal_int_int.l0] at h
  | k + 1 => by
    have ih0 := slices_Equal_int_int.mono_l k
    · intro y0 y1 y2 y3
      unfold slices_Equal_int_int.l0
      exact mB
theorem slices_Equal_int_int.mono : ∀ a0 a1 k, LeO (slices_Equal_int_int.f k a0 a1) (slices_Equal_int_int.f (k + 1) a0 a1) := by
  intro a0 a1 k
  have ih0 := slices_Equal_int_int.mono_l k
  unfold slices_Equal_int_int.f
  exact mB
theorem slices_Equal_int_int.calls (k : Nat) (A0 : Option Addr) (c0 : Nat) (l0 : List Int) (A1 : Option Addr) (c1 : Nat) (l1 : List Int) (r : Bool) (w : World) (hr0 : Kd.C (Kd.int .i64) w A0 l0.length l0) (hc0 : l0.length ≤ c0) (hr1 : Kd.C (Kd.int .i64) w A1 l1.length l1) (hc1 : l1.length ≤ c1) (h : slices_Equal_int_int.f k l0 l1 = some r) :
    Calls Tryz.prog 63 #[.slice A0 l0.length c0, .slice A1 l1.length c1] w fun e w' => e = .returned (.bool r) ∧ Drawn0 w w' := by
 have HR0 := Aside0.mk hr0
 have HC0 := Aside0.mk hc0
 clear hr0 hc0
 have HR1 := Aside0.mk hr1
 have HC1 := Aside0.mk hc1
 clear hr1 hc1
 have H := h
 clear h
 unfold slices_Equal_int_int.f at H
 by_cases c3 : (l0.length : Int) = (l1.length : Int)
 ·rw [if_pos c3] at H
  have c3b0 : ((l0.length : Int) == (l1.length : Int)) = true := beq_iff_eq.mpr c3
  have c3b1 : ((l0.length : Int) != (l1.length : Int)) = false := bne_eq_false_iff_eq.mpr c3
  have c3b2 : (l0.length == l1.length) = true := by first | simpa using c3 | (simp at c3 ⊢; omega)
  clear c3
  have H' := Aside0.mk H
  clear H
  go_enter Tryz.func63, Tryz.ntmps63
  go_wp2
  repeat (go_quiet (fail); try go_wp2)
  go_loopg [13] k (fun kq v13 w' => ∃ (x13_1 : Int), v13 = .int .i64 x13_1 ∧ Aside0 (slices_Equal_int_int.l0 kq l0 l1 (l0.length : Int) x13_1 = some r) ∧ Aside0 (kq ≤ k) ∧ Drawn0 w w')
  case atStart => exact ⟨(0), sD, H', ⟨Nat.le_refl _⟩, dD⟩
  case round =>
   clear H'
   obtain ⟨x13_1, rfl, HA, HK1, ⟨m1, rfl⟩⟩ := hrel
   cases gk with
   | zero => exact absurd HA.out (by simp [slices_Equal_int_int.l0])
   | succ k1 =>
    have H := HA.out
    clear HA
    simp only [slices_Equal_int_int.l0] at H
    rcases ifC H with ⟨c4b0, H⟩ | ⟨c4b0, H⟩
    ·obtain ⟨c5b0, H⟩ := ifD H
     obtain ⟨c6b0, c7b0, H⟩ := ifD2 H
     by_cases c8 : (rd l0 x13_1) = (rd l1 x13_1)
     ·rw [if_pos c8] at H
      have c8b0 : ((rd l0 x13_1) == (rd l1 x13_1)) = true := beq_iff_eq.mpr c8
      have c8b1 : ((rd l0 x13_1) != (rd l1 x13_1)) = false := bne_eq_false_iff_eq.mpr c8
      clear c8
      have H' := Aside0.mk H
      clear H
      obtain ⟨ad126, e126, hx126_0, p126, q126⟩ := rI HR0.out x13_1
      cases e126
      obtain ⟨ad127, e127, hx127_0, p127, q127⟩ := rI HR1.out x13_1
      cases e127
      go_wp2
      repeat (go_quiet (fail); try go_wp2)
      go_roundg k1
      case measure => have := HK1.out; omega
      case rel => exact ⟨(wrap64 (x13_1 + 1)), sD, H', ⟨by have := HK1.out; omega⟩, dD⟩
     ·rw [if_neg c8] at H
      have c8b0 : ((rd l0 x13_1) == (rd l1 x13_1)) = false := beq_eq_false_iff_ne.mpr c8
      have c8b1 : ((rd l0 x13_1) != (rd l1 x13_1)) = true := bne_iff_ne.mpr c8
      obtain rfl := Option.some.inj H
      obtain ⟨ad126, e126, hx126_0, p126, q126⟩ := rI HR0.out x13_1
      cases e126
      obtain ⟨ad127, e127, hx127_0, p127, q127⟩ := rI HR1.out x13_1
      cases e127
      go_wp2
      repeat (go_quiet (fail); try go_wp2)
      go_ret
      exact ⟨sD, dD⟩
    ·obtain rfl := Option.some.inj H
     go_wp2
     repeat (go_quiet (fail); try go_wp2)
     go_ret
     exact ⟨sD, dD⟩
 ·rw [if_neg c3] at H
  have c3b0 : ((l0.length : Int) == (l1.length : Int)) = false := beq_eq_false_iff_ne.mpr c3
  have c3b1 : ((l0.length : Int) != (l1.length : Int)) = true := bne_iff_ne.mpr c3
  have c3b2 : (l0.length == l1.length) = false := by first | simpa using c3 | (simp at c3 ⊢; omega)
  obtain rfl := Option.some.inj H
  go_enter Tryz.func63, Tryz.ntmps63
  go_wp2
  repeat (go_quiet (fail); try go_wp2)
  go_ret
  exact ⟨sD, dD⟩
def cmp_isNaN_int.f (a0 : Int) : Option (Bool) := some (a0 != a0)
theorem cmp_isNaN_int.calls (a0 : Int) (r : Bool) (w : World) (h : cmp_isNaN_int.f a0 = some r) :
    Calls Tryz.prog 103 #[.int .i64 a0] w fun e w' => e = .returned (.bool r) ∧ Drawn0 w w' := by
 have H := h
 clear h
 unfold cmp_isNaN_int.f at H
 obtain rfl := Option.some.inj H
 go_enter Tryz.func103, Tryz.ntmps103
 go_wp2
 go_ret
 exact ⟨sD, dD⟩
def cmp_Less_int.f (a0 : Int) (a1 : Int) : Option (Bool) := (cmp_isNaN_int.f a0).bind fun t128 => (if t128 = true then ((cmp_isNaN_int.f a1).bind fun t129 => (if t129 = true then (some (decide (a0 < a1))) else (some true))) else (some (decide (a0 < a1))))
theorem cmp_Less_int.calls (a0 : Int) (a1 : Int) (r : Bool) (w : World) (h : cmp_Less_int.f a0 a1 = some r) :
    Calls Tryz.prog 155 #[.int .i64 a0, .int .i64 a1] w fun e w' => e = .returned (.bool r) ∧ Drawn0 w w' := by
 have H := h
 clear h
 unfold cmp_Less_int.f at H
 obtain ⟨t128, A3, H⟩ := bdS H
 try dsimp only at H
 by_cases c4 : t128 = true
 ·subst c4
  rw [if_pos rfl] at H
  obtain ⟨t129, A5, H⟩ := bdS H
  try dsimp only at H
  by_cases c6 : t129 = true
  ·subst c6
   rw [if_pos rfl] at H
   obtain rfl := Option.some.inj H
   go_enter Tryz.func155, Tryz.ntmps155
   go_wp2_with (first | ((with_reducible refine gate_callee (f := 103) rfl ?_); refine goesL_ (some 6) rfl rfl Tryz.func103 (by kernel_rfl) rfl #[.int .i64 a0] rfl aE ?_; (with_reducible refine (cmp_isNaN_int.calls a0 true _ A3.out).mono ?_); rintro e w' ⟨rfl, ⟨nd, rfl⟩⟩; refine ⟨_, rfl, ?_⟩) | (go_at_call 103; (with_reducible refine (cmp_isNaN_int.calls a1 true _ A5.out).mono ?_); rintro e w' ⟨rfl, ⟨nd, rfl⟩⟩))
   go_ret
   exact ⟨sD, dD⟩
  ·replace c6 := Bool.eq_false_iff.mpr c6
   subst c6
   rw [if_neg (by decide)] at H
   obtain rfl := Option.some.inj H
   go_enter Tryz.func155, Tryz.ntmps155
   go_wp2_with (first | ((with_reducible refine gate_callee (f := 103) rfl ?_); refine goesL_ (some 6) rfl rfl Tryz.func103 (by kernel_rfl) rfl #[.int .i64 a0] rfl aE ?_; (with_reducible refine (cmp_isNaN_int.calls a0 true _ A3.out).mono ?_); rintro e w' ⟨rfl, ⟨nd, rfl⟩⟩; refine ⟨_, rfl, ?_⟩) | (go_at_call 103; (with_reducible refine (cmp_isNaN_int.calls a1 false _ A5.out).mono ?_); rintro e w' ⟨rfl, ⟨nd, rfl⟩⟩))
   go_ret
   exact ⟨sD, dD⟩
 ·replace c4 := Bool.eq_false_iff.mpr c4
  subst c4
  rw [if_neg (by decide)] at H
  obtain rfl := Option.some.inj H
  go_enter Tryz.func155, Tryz.ntmps155
  go_wp2_with (first | ((with_reducible refine gate_callee (f := 103) rfl ?_); refine goesL_ (some 6) rfl rfl Tryz.func103 (by kernel_rfl) rfl #[.int .i64 a0] rfl aE ?_; (with_reducible refine (cmp_isNaN_int.calls a0 false _ A3.out).mono ?_); rintro e w' ⟨rfl, ⟨nd, rfl⟩⟩; refine ⟨_, rfl, ?_⟩))
  go_ret
  exact ⟨sD, dD⟩
def bucket_Starts.l0 : Nat → List Int → Int → List Int → Int → Int → Option (List Int)
  | 0, _, _, _, _, _ => none
  | k + 1, x3, x4, x10, x11, x12 => if x12 < x11 then (if 0 ≤ x12 then (if x12 < (x10.length : Int) then (if x12 < (x3.length : Int) then (bucket_Starts.l0 k (x3.set (x12 : Int).toNat x4) (wrap64 (x4 + (rd x10 x12))) x10 x11 (wrap64 (x12 + 1))) else (none)) else (none)) else (none)) else (some x3)
def bucket_Starts.f (k : Nat) (l0 : List Int) : Option (List Int) := if 0 ≤ (l0.length : Int) then (if ((l0.length : Int) : Int).toNat ≤ 35184372088832 then (bucket_Starts.l0 k (List.replicate ((l0.length : Int) : Int).toNat 0) 0 l0 (l0.length : Int) 0) else (none)) else (none)
theorem bucket_Starts.mono_l : ∀ k, (∀ y0 y1 y2 y3 y4, LeO (bucket_Starts.l0 k y0 y1 y2 y3 y4) (bucket_Starts.l0 (k + 1) y0 y1 y2 y3 y4))
  | 0 => fun _ _ _ _ _ r h => by simp [bucket_Starts.l0] at h
  | k + 1 => by
    have ih0 := bucket_Starts.mono_l k
    · intro y0 y1 y2 y3 y4
      unfold bucket_Starts.l0
      exact mB
theorem bucket_Starts.mono : ∀ a0 k, LeO (bucket_Starts.f k a0) (bucket_Starts.f (k + 1) a0) := by
  intro a0 k
  have ih0 := bucket_Starts.mono_l k
  unfold bucket_Starts.f
  exact mB
theorem bucket_Starts.calls (k : Nat) (A0 : Option Addr) (c0 : Nat) (l0 : List Int) (r : List Int) (w : World) (hr0 : Kd.C (Kd.int .i64) w A0 l0.length l0) (hc0 : l0.length ≤ c0) (h : bucket_Starts.f k l0 = some r) :
    Calls Tryz.prog 93 #[.slice A0 l0.length c0] w fun e w' => ∃ v0_ : Value, e = .returned (v0_) ∧ Kd.R (Kd.int .i64) 3 w' w.heap.size (fun _ => True) v0_ r ∧ Below w.heap.size w w' := by
 have HR0 := Aside0.mk hr0
 have HC0 := Aside0.mk hc0
 clear hr0 hc0
 have HB := Aside0.mk (Below.refl w.heap.size w)
 have H := h
 clear h
 unfold bucket_Starts.f at H
 obtain ⟨c2b0, c2b1, H⟩ := ifE H
 obtain ⟨c3b0, c3b1, H⟩ := ifE H
 generalize hy130 : (List.replicate ((l0.length : Int) : Int).toNat 0 : List Int) = y130 at H
 try simp only [Option.bind_some] at H
 have Ny130 := Aside0.mk hy130.symm
 clear hy130
 have H' := Aside0.mk H
 clear H
 go_enter Tryz.func93, Tryz.ntmps93
 go_wp2_with (first | ((with_reducible refine gate_dst (N := 9) rfl ?_); refine Kd.R_make (Kd.int .i64) _ 3 rfl (N := 9) rfl 29 _ _ rfl (l0.length : Int) rfl rfl Tryz.underlying29 (.int .i64 0) 8 info3 rfl (by decide) (by omega) 0 (ok := fun _ => True) (okp := fun _ => True) rfl (fun _ hk => hk) trivial dT (Nat.le_trans (Nat.mul_le_mul_right _ (dT : (l0.length : Int).toNat ≤ 35184372088832)) (by omega)) (Below.refl _ _) (Nat.le_refl _) ?_; intro v131 w4 ho5 hb hg_ hnew_; clear hg_ hnew_; (first | rw [← Ny130.out] at ho5 | (simp only [Int.reduceToNat] at ho5; rw [← Ny130.out] at ho5)); have n0_ := Aside0.mk (Kd.R_lower ho5 (below_size uB)); have n1_ := Aside0.mk (below_step uB hb); clear HB; have HO132 := n0_; have HB := n1_; clear n0_ n1_; clear hb ho5))
 go_loopg [4, 12] k (fun kq v4 v12 w' => ∃ (x3_1 : List Int) (x4_1 : Int) (x12_1 : Int), v4 = .int .i64 x4_1 ∧ v12 = .int .i64 x12_1 ∧ Aside0 (bucket_Starts.l0 kq x3_1 x4_1 l0 (l0.length : Int) x12_1 = some r) ∧ Aside0 (kq ≤ k) ∧ Aside0 (Kd.R (Kd.int .i64) 3 w' w.heap.size (fun _ => True) v131 x3_1) ∧ Aside0 (Below w.heap.size w w'))
 case atStart => exact ⟨(y130), (0), (0), sD, sD, H', ⟨Nat.le_refl _⟩, ⟨uR HO132.out⟩, ⟨uB⟩⟩
 case round =>
  clear H'
  obtain ⟨x3_1, x4_1, x12_1, rfl, rfl, HA, HK1, HO_3, HB⟩ := hrel
  cases gk with
  | zero => exact absurd HA.out (by simp [bucket_Starts.l0])
  | succ k1 =>
   have H := HA.out
   clear HA
   simp only [bucket_Starts.l0] at H
   rcases ifC H with ⟨c6b0, H⟩ | ⟨c6b0, H⟩
   ·obtain ⟨c7b0, H⟩ := ifD H
    obtain ⟨c8b0, c9b0, H⟩ := ifD2 H
    generalize hy134 : (x3_1.set (x12_1 : Int).toNat x4_1 : List Int) = y134 at H
    try simp only [Option.bind_some] at H
    have Ny134 := Aside0.mk hy134.symm
    clear hy134
    have H' := Aside0.mk H
    clear H
    obtain ⟨ad133, e133, hx133_0, p133, q133⟩ := rIO HB.out HR0.out x12_1
    cases e133
    have p10 : 0 ≤ (x12_1 : Int) := dT
    have q10 : (x12_1 : Int) < ((x3_1.length : Int) : Int) := dT
    obtain ⟨go10, co10, eo10, gb10, gl10, cl10, HG10⟩ := Kd.R_form HO_3.out (by omega)
    (first | cases eo10 | (injection eo10 with ea_ en_ ec_; (first | subst ea_ | (injection ea_ with ea_; subst ea_)); subst ec_; clear en_))
    have GB10 := Aside0.mk gb10
    have GG10 := Aside0.mk HG10
    clear gb10 gl10 HG10
    obtain ⟨hx10_0, hf10_0⟩ := Kd.R_celln 0 HO_3.out (x12_1 : Int) p10 q10
    replace p10 := eq_true p10
    replace q10 := eq_true q10
    have HP11 := Kd.R_putg HO_3.out (x12_1 : Int) x4_1
    go_wp2_with (first | ((with_reducible refine gate_store (t := 3) (p := 20) rfl ?_); refine store_event (t := 3) (p := 20) (v := ?vo_w12) (w1 := (wr.setCell ⟨go10, (x12_1 : Int).toNat, none⟩ (.int .i64 x4_1))) ?hg ?ho ?hn ?hr ?_; (case ho => rfl); (case hg => rfl); (case hn => rfl); (case hr => first | (go_simp; done) | (go_simp; rfl)); intro w12 hw; have hg : wr.grownBy w12 (some go10) := (by rw [hw]; exact HP11.2); have hp_ : Kd.R (Kd.int .i64) 3 w12 w.heap.size (fun _ => True) (.slice (some ⟨go10, 0, none⟩) x3_1.length co10) y134 := (by rw [hw, Ny134.out]; exact HP11.1); clear HP11; have n0_ := Aside0.mk (hp_); have n1_ := Aside0.mk ((by rw [hw]; exact below_set (HB.out) GB10.out : Below w.heap.size w w12)); clear HO_3 HB; have HO_3 := n0_; have HB := n1_; clear n0_ n1_; clear hg hw hp_))
    go_roundg k1
    case measure => have := HK1.out; omega
    case rel => exact ⟨(y134), (wrap64 (x4_1 + (rd l0 x12_1))), (wrap64 (x12_1 + 1)), sD, sD, H', ⟨by have := HK1.out; omega⟩, ⟨uR HO_3.out⟩, ⟨uB⟩⟩
   ·obtain rfl := Option.some.inj H
    go_wp2
    go_ret
    exact ⟨_, eR, uR HO_3.out, uB⟩
def induce_Sort.f (k : Nat) (l0 : List Int) (a1 : Int) (l2 : List Int) : Option (List Int × Bool) :=
  (bucket_Counts.f k l0 a1).bind fun co => (kinds_First.f k l0).bind fun fs => (slices_Equal_int_int.f k (Go.Proofs.YtbbpplnnegdenaaGreat.Srt.srt l2) fs).bind fun eq => (kinds_Small.f k l0).bind fun sm => (bucket_Starts.f k co.1).bind fun st =>
    if co.2 = true then (if eq = true then (if l2.length ≤ 1000000 then (if l0.length = 0 then some (([] : List Int), true) else (if l0.length ≤ 1000000 then (if st.length = co.1.length then (if 0 < co.1.length then (if co.1.length < 4611686018427387904 then (if sm.length < 4611686018427387904 then
      (Go.Proofs.YtbbpplnnegdenaaGreat.St.sortL l0 l2 co.1 sm st).bind fun r => some (r, true) else none) else none) else none) else none) else none)) else none) else none) else none
theorem induce_Sort.mono : ∀ a0 a1 a2 k, LeO (induce_Sort.f k a0 a1 a2) (induce_Sort.f (k + 1) a0 a1 a2) := by
  intro a0 a1 a2 k
  unfold induce_Sort.f
  refine LeO.bind (bucket_Counts.mono _ _ _) (fun co => ?_)
  refine LeO.bind (kinds_First.mono _ _) (fun fs => ?_)
  refine LeO.bind (slices_Equal_int_int.mono _ _ _) (fun eq => ?_)
  refine LeO.bind (kinds_Small.mono _ _) (fun sm => ?_)
  refine LeO.bind (bucket_Starts.mono _ _) (fun st => ?_)
  exact LeO.refl _
theorem induce_Sort.calls (k : Nat) (A0 : Option Addr) (c0 : Nat) (l0 : List Int) (a1 : Int) (A2 : Option Addr) (c2 : Nat) (l2 : List Int) (r1 : List Int) (r2 : Bool) (w : World) (hr0 : Kd.C (Kd.int .i64) w A0 l0.length l0) (hc0 : l0.length ≤ c0) (hr2 : Kd.C (Kd.int .i64) w A2 l2.length l2) (hc2 : l2.length ≤ c2) (h : induce_Sort.f k l0 a1 l2 = some (r1, r2)) :
    Calls Tryz.prog 105 #[.slice A0 l0.length c0, .int .i64 a1, .slice A2 l2.length c2] w fun e w' => ∃ v0_ : Value, e = .returned (.tuple #[v0_, .bool r2]) ∧ Kd.R (Kd.int .i64) 3 w' w.heap.size (fun _ => True) v0_ r1 ∧ Below w.heap.size w w' := by
 unfold induce_Sort.f at h
 cases h1 : bucket_Counts.f k l0 a1 with
 | none => rw [h1] at h; simp at h
 | some co =>
 obtain ⟨co, ok⟩ := co
 rw [h1, Option.bind_some] at h
 cases h2 : kinds_First.f k l0 with
 | none => rw [h2] at h; simp at h
 | some fs =>
 rw [h2, Option.bind_some] at h
 rw [Go.Proofs.YtbbpplnnegdenaaGreat.Srt.srt_eq] at h
 generalize hri : l2.mergeSort (fun x y => decide (x ≤ y)) = ri at h
 cases h3 : slices_Equal_int_int.f k ri fs with
 | none => rw [h3] at h; simp at h
 | some eq =>
 rw [h3, Option.bind_some] at h
 cases h4 : kinds_Small.f k l0 with
 | none => rw [h4] at h; simp at h
 | some sm =>
 rw [h4, Option.bind_some] at h
 cases h5 : bucket_Starts.f k (co, ok).1 with
 | none => rw [h5] at h; simp at h
 | some st =>
 rw [h5, Option.bind_some] at h
 dsimp only at h h5
 by_cases c1 : ok = true
 case neg => rw [if_neg c1] at h; exact absurd h (by simp)
 rw [if_pos c1] at h
 subst c1
 by_cases c2' : eq = true
 case neg => rw [if_neg c2'] at h; exact absurd h (by simp)
 rw [if_pos c2'] at h
 subst c2'
 by_cases c3 : l2.length ≤ 1000000
 case neg => rw [if_neg c3] at h; exact absurd h (by simp)
 rw [if_pos c3] at h
 have q1 := fun W hW => bucket_Counts.calls k A0 c0 l0 a1 co true W hW hc0 h1
 have q2 := fun W hW => kinds_First.calls k A0 c0 l0 fs W hW hc0 h2
 have q3 := fun W A B c d e1 e2 hA hB => slices_Equal_int_int.calls k A c ri B d fs true W hA e1 hB e2 h3
 by_cases c4 : l0.length = 0
 ·rw [if_pos c4] at h
  cases h
  exact (callsIn_wide (n := 6)).1 (Go.Proofs.YtbbpplnnegdenaaGreat.St.sort_empty 6 (by omega) hr0 hr2 c3 c4 hri q1 q2 q3)
 ·rw [if_neg c4] at h
  by_cases c5 : l0.length ≤ 1000000
  case neg => rw [if_neg c5] at h; exact absurd h (by simp)
  rw [if_pos c5] at h
  by_cases c6 : st.length = co.length
  case neg => rw [if_neg c6] at h; exact absurd h (by simp)
  rw [if_pos c6] at h
  by_cases c7 : 0 < co.length
  case neg => rw [if_neg c7] at h; exact absurd h (by simp)
  rw [if_pos c7] at h
  by_cases c8 : co.length < 4611686018427387904
  case neg => rw [if_neg c8] at h; exact absurd h (by simp)
  rw [if_pos c8] at h
  by_cases c9 : sm.length < 4611686018427387904
  case neg => rw [if_neg c9] at h; exact absurd h (by simp)
  rw [if_pos c9] at h
  cases h6 : Go.Proofs.YtbbpplnnegdenaaGreat.St.sortL l0 l2 co sm st with
  | none => rw [h6] at h; simp at h
  | some r =>
  rw [h6, Option.bind_some] at h
  cases h
  exact Go.Proofs.YtbbpplnnegdenaaGreat.St.sort_calls hr0 hr2 c3 (by omega) c5 c6 c7 c8 c9 h6 hri q1 q2 q3 (fun W hW => kinds_Small.calls k A0 c0 l0 sm W hW hc0 h4) (fun W A c e1 hA => bucket_Starts.calls k A c co st W hA e1 h5)
def sais_named.f (k : Nat) (l0 : List Int) (l1 : List Int) (l2 : List Int) : Option (List Int × Int) :=
  if l0.length ≤ 1000000 then (if l1.length ≤ 1000000 then (if l2.length ≤ 1000000 then
    (Go.Proofs.YtbbpplnnegdenaaGreat.Nm.nextL l0.length l1 l1.length 0 (List.replicate l0.length 0)).bind fun nx => (Go.Proofs.YtbbpplnnegdenaaGreat.Nm.namesL (slices_Equal_int_int.f k) l0 nx l2 l2.length 0 (List.replicate l0.length 0) 0 (-1)).bind fun x =>
      (Go.Proofs.YtbbpplnnegdenaaGreat.Nm.outL x.1 l1 l1.length 0 []).bind fun o => some (o, wrap64 (x.2 + 1)) else none) else none) else none
theorem sais_named.mono : ∀ a0 a1 a2 k, LeO (sais_named.f k a0 a1 a2) (sais_named.f (k + 1) a0 a1 a2) := by
  intro a0 a1 a2 k
  unfold sais_named.f
  refine LeO.ite (LeO.ite (LeO.ite ?_ (LeO.none _)) (LeO.none _)) (LeO.none _)
  refine LeO.bind (LeO.refl _) (fun nx => ?_)
  refine LeO.bind ?_ (fun x => LeO.refl _)
  have hd : ∀ last j, LeO (Go.Proofs.YtbbpplnnegdenaaGreat.Nm.differL (slices_Equal_int_int.f k) a0 nx last j) (Go.Proofs.YtbbpplnnegdenaaGreat.Nm.differL (slices_Equal_int_int.f (k + 1)) a0 nx last j) := by
    intro last j
    unfold Go.Proofs.YtbbpplnnegdenaaGreat.Nm.differL
    refine LeO.ite (LeO.ite (LeO.refl _) (LeO.ite (LeO.ite (LeO.refl _) ?_) (LeO.refl _))) (LeO.refl _)
    exact LeO.bind (LeO.refl _) (fun p => LeO.bind (LeO.refl _) (fun q => LeO.bind (slices_Equal_int_int.mono _ _ _) (fun b => LeO.refl _)))
  have hm : ∀ d i nm n last, LeO (Go.Proofs.YtbbpplnnegdenaaGreat.Nm.namesL (slices_Equal_int_int.f k) a0 nx a2 d i nm n last) (Go.Proofs.YtbbpplnnegdenaaGreat.Nm.namesL (slices_Equal_int_int.f (k + 1)) a0 nx a2 d i nm n last) := by
    intro d
    induction d with
    | zero => intro i nm n last; exact LeO.refl _
    | succ d ih =>
      intro i nm n last
      unfold Go.Proofs.YtbbpplnnegdenaaGreat.Nm.namesL
      refine LeO.ite (LeO.ite (ih _ _ _ _) ?_) (LeO.refl _)
      exact LeO.bind (hd _ _) (fun b => LeO.ite (ih _ _ _ _) (LeO.refl _))
  exact hm _ _ _ _ _
theorem sais_named.calls (k : Nat) (A0 : Option Addr) (c0 : Nat) (l0 : List Int) (A1 : Option Addr) (c1 : Nat) (l1 : List Int) (A2 : Option Addr) (c2 : Nat) (l2 : List Int) (r1 : List Int) (r2 : Int) (w : World) (hr0 : Kd.C (Kd.int .i64) w A0 l0.length l0) (hc0 : l0.length ≤ c0) (hr1 : Kd.C (Kd.int .i64) w A1 l1.length l1) (hc1 : l1.length ≤ c1) (hr2 : Kd.C (Kd.int .i64) w A2 l2.length l2) (hc2 : l2.length ≤ c2) (h : sais_named.f k l0 l1 l2 = some (r1, r2)) :
    Calls Tryz.prog 106 #[.slice A0 l0.length c0, .slice A1 l1.length c1, .slice A2 l2.length c2] w fun e w' => ∃ v0_ : Value, e = .returned (.tuple #[v0_, .int .i64 r2]) ∧ Kd.R (Kd.int .i64) 3 w' w.heap.size (fun _ => True) v0_ r1 ∧ Below w.heap.size w w' := by
 unfold sais_named.f at h
 by_cases c3 : l0.length ≤ 1000000
 case neg => rw [if_neg c3] at h; exact absurd h (by simp)
 rw [if_pos c3] at h
 by_cases c4 : l1.length ≤ 1000000
 case neg => rw [if_neg c4] at h; exact absurd h (by simp)
 rw [if_pos c4] at h
 by_cases c5 : l2.length ≤ 1000000
 case neg => rw [if_neg c5] at h; exact absurd h (by simp)
 rw [if_pos c5] at h
 cases h1 : Go.Proofs.YtbbpplnnegdenaaGreat.Nm.nextL l0.length l1 l1.length 0 (List.replicate l0.length 0) with
 | none => rw [h1] at h; simp at h
 | some nx =>
 rw [h1, Option.bind_some] at h
 cases h2 : Go.Proofs.YtbbpplnnegdenaaGreat.Nm.namesL (slices_Equal_int_int.f k) l0 nx l2 l2.length 0 (List.replicate l0.length 0) 0 (-1) with
 | none => rw [h2] at h; simp at h
 | some x =>
 obtain ⟨nm, n0⟩ := x
 rw [h2, Option.bind_some] at h
 cases h3 : Go.Proofs.YtbbpplnnegdenaaGreat.Nm.outL nm l1 l1.length 0 [] with
 | none => rw [h3] at h; simp at h
 | some o =>
 rw [h3, Option.bind_some] at h
 cases h
 exact Go.Proofs.YtbbpplnnegdenaaGreat.Nm.named_calls hr0 hc0 hr1 hr2 c3 c4 c5 (fun W A B c d p q b e1 e2 hA hB he => slices_Equal_int_int.calls k A c p B d q b W hA e1 hB e2 he) h1 h2 h3
mutual
def sais_sorted.l0 : Nat → List Int → Int → List Int → List Int → List Int → Int → Int → Option (List Int)
  | 0, _, _, _, _, _, _, _ => none
  | k + 1, x0, x1, x5, x10, x35, x36, x37 => if x37 < x36 then (if 0 ≤ x37 then (if x37 < (x35.length : Int) then (if 0 ≤ (rd x35 x37) then (if (rd x35 x37) < (x5.length : Int) then (if x10.length < 17592186044416 then (sais_sorted.l0 k x0 x1 x5 (x10 ++ [rd x5 (rd x35 x37)]) x35 x36 (wrap64 (x37 + 1))) else (none)) else (none)) else (none)) else (none)) else (none)) else ((induce_Sort.f k x0 x1 x10).bind fun bt177 => (some bt177.1))
def sais_sorted.f : Nat → List Int → Int → Option (List Int)
  | 0, _, _ => none
  | k + 1, l0, a1 => (kinds_First.f k l0).bind fun t158 => ((induce_Sort.f k l0 a1 t158).bind fun bt161 => (if (t158.length : Int) < 2 then (some bt161.1) else ((sais_named.f k l0 t158 bt161.1).bind fun bt165 => ((sais_sorted.f k bt165.1 bt165.2).bind fun t169 => (sais_sorted.l0 k l0 a1 t158 ([] : List Int) t169 (t169.length : Int) 0)))))
end
theorem sais_sorted.mono_l : ∀ k, (∀ y0 y1, LeO (sais_sorted.f k y0 y1) (sais_sorted.f (k + 1) y0 y1)) ∧ (∀ y0 y1 y2 y3 y4 y5 y6, LeO (sais_sorted.l0 k y0 y1 y2 y3 y4 y5 y6) (sais_sorted.l0 (k + 1) y0 y1 y2 y3 y4 y5 y6))
  | 0 => ⟨fun _ _ r h => by simp [sais_sorted.f] at h, fun _ _ _ _ _ _ _ r h => by simp [sais_sorted.l0] at h⟩
  | k + 1 => by
    obtain ⟨ih0, ih1⟩ := sais_sorted.mono_l k
    refine ⟨?_, ?_⟩
    · intro y0 y1
      unfold sais_sorted.f
      have m0 := @induce_Sort.mono
      have m1 := @kinds_First.mono
      have m2 := @sais_named.mono
      exact mB
    · intro y0 y1 y2 y3 y4 y5 y6
      unfold sais_sorted.l0
      have m0 := @induce_Sort.mono
      have m1 := @kinds_First.mono
      have m2 := @sais_named.mono
      exact mB
theorem sais_sorted.mono : ∀ a0 a1 k, LeO (sais_sorted.f k a0 a1) (sais_sorted.f (k + 1) a0 a1) := by
  intro a0 a1 k
  obtain ⟨ih0, ih1⟩ := sais_sorted.mono_l k
  exact ih0 a0 a1
theorem sais_sorted.calls (k : Nat) : ∀ (A0 : Option Addr) (c0 : Nat) (l0 : List Int) (a1 : Int) (r : List Int) (w : World) (hr0 : Kd.C (Kd.int .i64) w A0 l0.length l0) (hc0 : l0.length ≤ c0) (h : sais_sorted.f k l0 a1 = some r),
    Calls Tryz.prog 92 #[.slice A0 l0.length c0, .int .i64 a1] w fun e w' => ∃ v0_ : Value, e = .returned (v0_) ∧ Kd.R (Kd.int .i64) 3 w' w.heap.size (fun _ => True) v0_ r ∧ Below w.heap.size w w' := by
 induction k using Nat.strongRecOn with
 | _ k ih =>
 intro A0 c0 l0 a1 r w hr0 hc0 h
 cases k with
 | zero => exact absurd h (by simp [sais_sorted.f])
 | succ k =>
 simp only [sais_sorted.f] at h
 have HR0 := Aside0.mk hr0
 have HC0 := Aside0.mk hc0
 clear hr0 hc0
 have HB := Aside0.mk (Below.refl w.heap.size w)
 have H : ((kinds_First.f k l0).bind fun t158 => ((induce_Sort.f k l0 a1 t158).bind fun bt161 => (if (t158.length : Int) < 2 then (some bt161.1) else ((sais_named.f k l0 t158 bt161.1).bind fun bt165 => ((sais_sorted.f k bt165.1 bt165.2).bind fun t169 => (sais_sorted.l0 k l0 a1 t158 ([] : List Int) t169 (t169.length : Int) 0)))))) = some r := h
 clear h
 obtain ⟨t158, A3, H⟩ := bdS H
 try dsimp only at H
 obtain ⟨⟨t161, t162⟩, A4, H⟩ := bdS H
 try dsimp only at H
 by_cases c5 : (t158.length : Int) < 2
 ·rw [if_pos c5] at H
  have c5b0 : decide ((t158.length : Int) < 2) = true := decide_eq_true c5
  have c5b1 : decide (t158.length < 2) = true := decide_eq_true (by omega)
  clear c5
  obtain rfl := Option.some.inj H
  go_enter Tryz.func92, Tryz.ntmps92
  go_wp2_with (first | ((with_reducible refine gate_callee (f := 104) rfl ?_); refine goesL_ (some 14) rfl rfl Tryz.func104 (by kernel_rfl) rfl #[.slice A0 l0.length c0] rfl aE ?_; (with_reducible refine (kinds_First.calls k _ _ l0 t158 _ ?side1 ?side2 A3.out).mono ?_); (case side1 => exact uC HR0.out); (case side2 => exact HC0.out); rintro e w6 ⟨v159, rfl, ho0, hb⟩; refine ⟨_, rfl, ?_⟩; have n0_ := Aside0.mk (Kd.R_lower ho0 (below_size uB)); have n1_ := Aside0.mk (below_step uB hb); clear HB; have HO160 := n0_; have HB := n1_; clear n0_ n1_; obtain ⟨Ao7, co7, eo7⟩ := Kd.R_slice HO160.out; subst eo7) | ((with_reducible refine gate_callee (f := 105) rfl ?_); refine goesL_ (some 19) rfl rfl Tryz.func105 (by kernel_rfl) rfl #[.slice A0 l0.length c0, .int .i64 a1, .slice Ao7 t158.length co7] rfl aE ?_; (with_reducible refine (induce_Sort.calls k _ _ l0 a1 _ _ t158 t161 t162 _ ?side1 ?side2 ?side3 ?side4 A4.out).mono ?_); (case side1 => exact uC (Kd.C_below HR0.out HB.out)); (case side2 => exact HC0.out); (case side3 => exact uC (Kd.R_reads' HO160.out).2.2); (case side4 => exact (Kd.R_reads' HO160.out).2.1); rintro e w8 ⟨v163, rfl, ho0, hb⟩; refine ⟨_, rfl, ?_⟩; have n0_ := Aside0.mk (Kd.R_elder' (uR HO160.out) (Kd.R_base ho0) hb); have n1_ := Aside0.mk (Kd.R_lower (Kd.R_new' ho0 (Kd.R_lt (uR HO160.out))) (below_size uB)); have n2_ := Aside0.mk (below_step uB hb); clear HO160 HB; have HO160 := n0_; have HO164 := n1_; have HB := n2_; clear n0_ n1_ n2_))
  go_ret
  exact ⟨_, eR, by (with_reducible repeat (first | apply Kd.R_alloc | apply Kd.R_drewN | apply Kd.R_drew)); exact Kd.R_mono HO164.out (fun _ hk => trivial), uB⟩
 ·rw [if_neg c5] at H
  have c5b0 : decide ((t158.length : Int) < 2) = false := decide_eq_false c5
  have c5b1 : decide (t158.length < 2) = false := decide_eq_false (by omega)
  clear c5
  obtain ⟨⟨t165, t166⟩, A9, H⟩ := bdS H
  try dsimp only at H
  obtain ⟨t169, A10, H⟩ := bdS H
  try dsimp only at H
  have H' := Aside0.mk H
  clear H
  go_enter Tryz.func92, Tryz.ntmps92
  go_wp2_with (first | ((with_reducible refine gate_callee (f := 104) rfl ?_); refine goesL_ (some 14) rfl rfl Tryz.func104 (by kernel_rfl) rfl #[.slice A0 l0.length c0] rfl aE ?_; (with_reducible refine (kinds_First.calls k _ _ l0 t158 _ ?side1 ?side2 A3.out).mono ?_); (case side1 => exact uC HR0.out); (case side2 => exact HC0.out); rintro e w11 ⟨v159, rfl, ho0, hb⟩; refine ⟨_, rfl, ?_⟩; have n0_ := Aside0.mk (Kd.R_lower ho0 (below_size uB)); have n1_ := Aside0.mk (below_step uB hb); clear HB; have HO160 := n0_; have HB := n1_; clear n0_ n1_; obtain ⟨Ao12, co12, eo12⟩ := Kd.R_slice HO160.out; subst eo12) | ((with_reducible refine gate_callee (f := 105) rfl ?_); refine goesL_ (some 19) rfl rfl Tryz.func105 (by kernel_rfl) rfl #[.slice A0 l0.length c0, .int .i64 a1, .slice Ao12 t158.length co12] rfl aE ?_; (with_reducible refine (induce_Sort.calls k _ _ l0 a1 _ _ t158 t161 t162 _ ?side1 ?side2 ?side3 ?side4 A4.out).mono ?_); (case side1 => exact uC (Kd.C_below HR0.out HB.out)); (case side2 => exact HC0.out); (case side3 => exact uC (Kd.R_reads' HO160.out).2.2); (case side4 => exact (Kd.R_reads' HO160.out).2.1); rintro e w13 ⟨v163, rfl, ho0, hb⟩; refine ⟨_, rfl, ?_⟩; have n0_ := Aside0.mk (Kd.R_elder' (uR HO160.out) (Kd.R_base ho0) hb); have n1_ := Aside0.mk (Kd.R_lower (Kd.R_new' ho0 (Kd.R_lt (uR HO160.out))) (below_size uB)); have n2_ := Aside0.mk (below_step uB hb); clear HO160 HB; have HO160 := n0_; have HO164 := n1_; have HB := n2_; clear n0_ n1_ n2_; obtain ⟨Ao14, co14, eo14⟩ := Kd.R_slice HO164.out; subst eo14) | ((with_reducible refine gate_callee (f := 106) rfl ?_); refine goesL_ (some 30) rfl rfl Tryz.func106 (by kernel_rfl) rfl #[.slice A0 l0.length c0, .slice Ao12 t158.length co12, .slice Ao14 t161.length co14] rfl aE ?_; (with_reducible refine (sais_named.calls k _ _ l0 _ _ t158 _ _ t161 t165 t166 _ ?side1 ?side2 ?side3 ?side4 ?side5 ?side6 A9.out).mono ?_); (case side1 => exact uC (Kd.C_below HR0.out HB.out)); (case side2 => exact HC0.out); (case side3 => exact uC (Kd.R_reads' HO160.out).2.2); (case side4 => exact (Kd.R_reads' HO160.out).2.1); (case side5 => exact uC (Kd.R_reads' HO164.out).2.2); (case side6 => exact (Kd.R_reads' HO164.out).2.1); rintro e w15 ⟨v167, rfl, ho0, hb⟩; refine ⟨_, rfl, ?_⟩; have n0_ := Aside0.mk (Kd.R_elder' (uR HO160.out) (Kd.R_base ho0) hb); have n1_ := Aside0.mk (Kd.R_elder' (uR HO164.out) (Kd.R_base ho0) hb); have n2_ := Aside0.mk (Kd.R_lower (Kd.R_new' (Kd.R_new' ho0 (Kd.R_lt (uR HO160.out))) (Kd.R_lt (uR HO164.out))) (below_size uB)); have n3_ := Aside0.mk (below_step uB hb); clear HO160 HO164 HB; have HO160 := n0_; have HO164 := n1_; have HO168 := n2_; have HB := n3_; clear n0_ n1_ n2_ n3_; obtain ⟨Ao16, co16, eo16⟩ := Kd.R_slice HO168.out; subst eo16) | ((with_reducible refine gate_callee (f := 92) rfl ?_); refine goesL_ (some 35) rfl rfl Tryz.func92 (by kernel_rfl) rfl #[.slice Ao16 t165.length co16, .int .i64 t166] rfl aE ?_; (with_reducible refine (ih k (by omega) _ _ t165 t166 t169 _ ?side1 ?side2 A10.out).mono ?_); (case side1 => exact uC (Kd.R_reads' HO168.out).2.2); (case side2 => exact (Kd.R_reads' HO168.out).2.1); rintro e w17 ⟨v170, rfl, ho0, hb⟩; refine ⟨_, rfl, ?_⟩; have n0_ := Aside0.mk (Kd.R_elder' (uR HO160.out) (Kd.R_base ho0) hb); have n1_ := Aside0.mk (Kd.R_elder' (uR HO164.out) (Kd.R_base ho0) hb); have n2_ := Aside0.mk (Kd.R_elder' (uR HO168.out) (Kd.R_base ho0) hb); have n3_ := Aside0.mk (Kd.R_lower (Kd.R_new' (Kd.R_new' (Kd.R_new' ho0 (Kd.R_lt (uR HO160.out))) (Kd.R_lt (uR HO164.out))) (Kd.R_lt (uR HO168.out))) (below_size uB)); have n4_ := Aside0.mk (below_step uB hb); clear HO160 HO164 HO168 HB; have HO160 := n0_; have HO164 := n1_; have HO168 := n2_; have HO171 := n3_; have HB := n4_; clear n0_ n1_ n2_ n3_ n4_; obtain ⟨Ao18, co18, eo18⟩ := Kd.R_slice HO171.out; subst eo18))
  go_loopg [10, 37] k (fun kq v10 v37 w' => ∃ (x10_1 : List Int) (x37_1 : Int), v37 = .int .i64 x37_1 ∧ Aside0 (sais_sorted.l0 kq l0 a1 t158 x10_1 t169 (t169.length : Int) x37_1 = some r) ∧ Aside0 (kq ≤ k) ∧ Aside0 (Kd.R (Kd.int .i64) 3 w' w.heap.size (fun k_ => some k_ ≠ (v10 : Value).ownBlock ∧ some k_ ≠ ((.slice Ao18 t169.length co18) : Value).ownBlock) (.slice Ao12 t158.length co12) t158) ∧ Aside0 (Kd.R (Kd.int .i64) 3 w' w.heap.size (fun k_ => some k_ ≠ ((.slice Ao12 t158.length co12) : Value).ownBlock ∧ some k_ ≠ ((.slice Ao18 t169.length co18) : Value).ownBlock) v10 x10_1) ∧ Aside0 (Kd.R (Kd.int .i64) 3 w' w.heap.size (fun k_ => some k_ ≠ ((.slice Ao12 t158.length co12) : Value).ownBlock ∧ some k_ ≠ (v10 : Value).ownBlock) (.slice Ao18 t169.length co18) t169) ∧ Aside0 (Below w.heap.size w w'))
  case atStart => exact ⟨(([] : List Int)), (0), sD, H', ⟨Nat.le_refl _⟩, ⟨by (with_reducible repeat (first | apply Kd.R_alloc | apply Kd.R_drewN | apply Kd.R_drew)); exact Kd.R_mono HO160.out (fun _ hk => ⟨(by simp [Value.ownBlock]), hk.2⟩)⟩, ⟨nL⟩, ⟨by (with_reducible repeat (first | apply Kd.R_alloc | apply Kd.R_drewN | apply Kd.R_drew)); exact Kd.R_mono HO171.out (fun _ hk => ⟨hk.1.1.2, (by simp [Value.ownBlock])⟩)⟩, ⟨uB⟩⟩
  case round =>
   clear H'
   obtain ⟨x10_1, x37_1, rfl, HA, HK1, HO_5, HO_10, HO_35, HB⟩ := hrel
   cases gk with
   | zero => exact absurd HA.out (by simp [sais_sorted.l0])
   | succ k1 =>
    have H := HA.out
    clear HA
    simp only [sais_sorted.l0] at H
    rcases ifC H with ⟨c19b0, H⟩ | ⟨c19b0, H⟩
    ·obtain ⟨c20b0, c21b0, H⟩ := ifD2 H
     obtain ⟨c22b0, c23b0, H⟩ := ifD2 H
     obtain ⟨c24, H⟩ := ifP H
     have LMc24 := Aside0.mk c24
     clear c24
     generalize hy174 : (x10_1 ++ [rd t158 (rd t169 x37_1)] : List Int) = y174 at H
     try simp only [Option.bind_some] at H
     have Ny174 := Aside0.mk hy174.symm
     clear hy174
     have H' := Aside0.mk H
     clear H
     obtain ⟨ad172, e172, hx172_0, p172, q172⟩ := rI (Kd.R_reads' HO_35.out).2.2 x37_1
     cases e172
     obtain ⟨ad173, e173, hx173_0, p173, q173⟩ := rI (Kd.R_reads' HO_5.out).2.2 (rd t169 x37_1)
     cases e173
     go_wp2_with (first | ((with_reducible refine gate_builtin (b := .append) (xs := #[.tmp 41, .tmp 46]) rfl ?_); at_builtin; refine Kd.R_append (Kd.int .i64) (w0 := w) w.heap.size rfl (.tmp 41) (.tmp 46) 29 3 (.int .i64 0) 8 rfl Tryz.underlying29 info3 rfl (by decide) (by omega) u10 x10_1 (rd t158 (rd t169 x37_1)) [.int .i64 (rd t158 (rd t169 x37_1))] (fun k_ => some k_ ≠ (.slice (some ad173) t158.length co12 : Value).ownBlock ∧ some k_ ≠ (.slice (some ad172) t169.length co18 : Value).ownBlock) (fun _ => False) rfl rfl ?aP (fun _ hk => hk.elim) ?aF ?aO ?aB ?aS ?aL ?_; (case aP => exact rfl); (case aB => exact uB); (case aF => exact (fun k_ hk => ⟨Kd.fresh' (Kd.R_lt (uR HO_5.out)) k_ hk, Kd.fresh' (Kd.R_lt (uR HO_35.out)) k_ hk⟩)); (case aO => exact (uR HO_10.out)); (case aS => exact (below_size uB)); (case aL => have := LMc24.out; omega); intro v175 w25 ho hb hg hat; rw [← Ny174.out] at ho; have n0_ := Aside0.mk (Kd.R_after (ok := (fun k_ => some k_ ≠ (.slice (some ad172) t169.length co18 : Value).ownBlock)) (by (with_reducible repeat (first | apply Kd.R_alloc | apply Kd.R_drewN | apply Kd.R_drew)); exact Kd.R_mono HO_5.out (fun _ hk => ⟨hk.2, hk.1⟩)) hg hat); have n1_ := Aside0.mk (Kd.R_after (ok := (fun k_ => some k_ ≠ (.slice (some ad173) t158.length co12 : Value).ownBlock)) (uR HO_35.out) hg hat); have n2_ := Aside0.mk (hb); have n3_ := Aside0.mk (ho); clear HO_5 HO_35 HB HO_10; have HO_5 := n0_; have HO_35 := n1_; have HB := n2_; have HO176 := n3_; clear n0_ n1_ n2_ n3_; clear ho hb hg hat))
     go_roundg k1
     case measure => have := HK1.out; omega
     case rel => exact ⟨(y174), (wrap64 (x37_1 + 1)), sD, H', ⟨by have := HK1.out; omega⟩, ⟨by (with_reducible repeat (first | apply Kd.R_alloc | apply Kd.R_drewN | apply Kd.R_drew)); exact Kd.R_mono HO_5.out (fun _ hk => ⟨hk.2, hk.1⟩)⟩, ⟨uR HO176.out⟩, ⟨uR HO_35.out⟩, ⟨uB⟩⟩
    ·obtain ⟨⟨t177, t178⟩, A26, H⟩ := bdS H
     try dsimp only at H
     obtain rfl := Option.some.inj H
     obtain ⟨Ao27, co27, eo27⟩ := Kd.R_slice HO_10.out
     subst eo27
     go_wp2_with (first | ((with_reducible refine gate_callee (f := 105) rfl ?_); refine goesL_ (some 53) rfl rfl Tryz.func105 (by kernel_rfl) rfl #[.slice A0 l0.length c0, .int .i64 a1, .slice Ao27 x10_1.length co27] rfl aE ?_; (with_reducible refine (induce_Sort.calls k1 _ _ l0 a1 _ _ x10_1 t177 t178 _ ?side1 ?side2 ?side3 ?side4 A26.out).mono ?_); (case side1 => exact uC (Kd.C_below HR0.out HB.out)); (case side2 => exact HC0.out); (case side3 => exact uC (Kd.R_reads' HO_10.out).2.2); (case side4 => exact (Kd.R_reads' HO_10.out).2.1); rintro e w28 ⟨v179, rfl, ho0, hb⟩; refine ⟨_, rfl, ?_⟩; have n0_ := Aside0.mk (Kd.R_elder' (uR HO_5.out) (Kd.R_base ho0) hb); have n1_ := Aside0.mk (Kd.R_elder' (uR HO_10.out) (Kd.R_base ho0) hb); have n2_ := Aside0.mk (Kd.R_elder' (uR HO_35.out) (Kd.R_base ho0) hb); have n3_ := Aside0.mk (Kd.R_lower (Kd.R_new' (Kd.R_new' (Kd.R_new' ho0 (Kd.R_lt (uR HO_5.out))) (Kd.R_lt (uR HO_10.out))) (Kd.R_lt (uR HO_35.out))) (below_size uB)); have n4_ := Aside0.mk (below_step uB hb); clear HO_5 HO_10 HO_35 HB; have HO_5 := n0_; have HO_10 := n1_; have HO_35 := n2_; have HO180 := n3_; have HB := n4_; clear n0_ n1_ n2_ n3_ n4_))
     go_ret
     exact ⟨_, eR, by (with_reducible repeat (first | apply Kd.R_alloc | apply Kd.R_drewN | apply Kd.R_drew)); exact Kd.R_mono HO180.out (fun _ hk => trivial), uB⟩
def sais_Ints.f (k : Nat) (l0 : List Int) (a1 : Int) : Option (List Int × Int) := if (l0.length : Int) > 100000 then (some (([] : List Int), 2)) else ((bucket_Counts.f k l0 a1).bind fun bt181 => (if bt181.2 = true then ((sais_sorted.f k l0 a1).bind fun t185 => (some (t185, 0))) else (some (([] : List Int), 1))))
theorem sais_Ints.mono : ∀ a0 a1 k, LeO (sais_Ints.f k a0 a1) (sais_Ints.f (k + 1) a0 a1) := by
  intro a0 a1 k
  unfold sais_Ints.f
  have m0 := @bucket_Counts.mono
  have m1 := @sais_sorted.mono
  exact mB
theorem sais_Ints.calls (k : Nat) (A0 : Option Addr) (c0 : Nat) (l0 : List Int) (a1 : Int) (r1 : List Int) (r2 : Int) (w : World) (hr0 : Kd.C (Kd.int .i64) w A0 l0.length l0) (hc0 : l0.length ≤ c0) (h : sais_Ints.f k l0 a1 = some (r1, r2)) :
    Calls Tryz.prog 69 #[.slice A0 l0.length c0, .int .i64 a1] w fun e w' => ∃ v0_ : Value, e = .returned (.tuple #[v0_, .int .i64 r2]) ∧ Kd.R (Kd.int .i64) 3 w' w.heap.size (fun _ => True) v0_ r1 ∧ Below w.heap.size w w' := by
 have HR0 := Aside0.mk hr0
 have HC0 := Aside0.mk hc0
 clear hr0 hc0
 have HB := Aside0.mk (Below.refl w.heap.size w)
 have H := h
 clear h
 unfold sais_Ints.f at H
 by_cases c3 : (l0.length : Int) > 100000
 ·rw [if_pos c3] at H
  have c3b0 : decide (100000 < (l0.length : Int)) = true := decide_eq_true c3
  have c3b1 : decide (100000 < l0.length) = true := decide_eq_true (by omega)
  clear c3
  simp only [Option.some.injEq, Prod.mk.injEq] at H
  obtain ⟨rfl, rfl⟩ := H
  go_enter Tryz.func69, Tryz.ntmps69
  go_wp2
  go_ret2
  exact ⟨_, eR, nL, uB⟩
 ·rw [if_neg c3] at H
  have c3b0 : decide (100000 < (l0.length : Int)) = false := decide_eq_false c3
  have c3b1 : decide (100000 < l0.length) = false := decide_eq_false (by omega)
  clear c3
  obtain ⟨⟨t181, t182⟩, A4, H⟩ := bdS H
  try dsimp only at H
  by_cases c5 : t182 = true
  ·subst c5
   rw [if_pos rfl] at H
   obtain ⟨t185, A6, H⟩ := bdS H
   try dsimp only at H
   simp only [Option.some.injEq, Prod.mk.injEq] at H
   obtain ⟨rfl, rfl⟩ := H
   go_enter Tryz.func69, Tryz.ntmps69
   go_wp2_with (first | ((with_reducible refine gate_callee (f := 91) rfl ?_); refine goesL_ (some 14) rfl rfl Tryz.func91 (by kernel_rfl) rfl #[.slice A0 l0.length c0, .int .i64 a1] rfl aE ?_; (with_reducible refine (bucket_Counts.calls k _ _ l0 a1 t181 true _ ?side1 ?side2 A4.out).mono ?_); (case side1 => exact uC HR0.out); (case side2 => exact HC0.out); rintro e w7 ⟨v183, rfl, ho0, hb⟩; refine ⟨_, rfl, ?_⟩; have n0_ := Aside0.mk (Kd.R_lower ho0 (below_size uB)); have n1_ := Aside0.mk (below_step uB hb); clear HB; have HO184 := n0_; have HB := n1_; clear n0_ n1_) | ((with_reducible refine gate_callee (f := 92) rfl ?_); refine goesL_ (some 21) rfl rfl Tryz.func92 (by kernel_rfl) rfl #[.slice A0 l0.length c0, .int .i64 a1] rfl aE ?_; (with_reducible refine (sais_sorted.calls k _ _ l0 a1 t185 _ ?side1 ?side2 A6.out).mono ?_); (case side1 => exact uC (Kd.C_below HR0.out HB.out)); (case side2 => exact HC0.out); rintro e w8 ⟨v186, rfl, ho0, hb⟩; refine ⟨_, rfl, ?_⟩; have n0_ := Aside0.mk (Kd.R_elder' (uR HO184.out) (Kd.R_base ho0) hb); have n1_ := Aside0.mk (Kd.R_lower (Kd.R_new' ho0 (Kd.R_lt (uR HO184.out))) (below_size uB)); have n2_ := Aside0.mk (below_step uB hb); clear HO184 HB; have HO184 := n0_; have HO187 := n1_; have HB := n2_; clear n0_ n1_ n2_))
   go_ret2
   exact ⟨_, eR, by (with_reducible repeat (first | apply Kd.R_alloc | apply Kd.R_drewN | apply Kd.R_drew)); exact Kd.R_mono HO187.out (fun _ hk => trivial), uB⟩
  ·replace c5 := Bool.eq_false_iff.mpr c5
   subst c5
   rw [if_neg (by decide)] at H
   simp only [Option.some.injEq, Prod.mk.injEq] at H
   obtain ⟨rfl, rfl⟩ := H
   go_enter Tryz.func69, Tryz.ntmps69
   go_wp2_with (first | ((with_reducible refine gate_callee (f := 91) rfl ?_); refine goesL_ (some 14) rfl rfl Tryz.func91 (by kernel_rfl) rfl #[.slice A0 l0.length c0, .int .i64 a1] rfl aE ?_; (with_reducible refine (bucket_Counts.calls k _ _ l0 a1 t181 false _ ?side1 ?side2 A4.out).mono ?_); (case side1 => exact uC HR0.out); (case side2 => exact HC0.out); rintro e w9 ⟨v183, rfl, ho0, hb⟩; refine ⟨_, rfl, ?_⟩; have n0_ := Aside0.mk (Kd.R_lower ho0 (below_size uB)); have n1_ := Aside0.mk (below_step uB hb); clear HB; have HO184 := n0_; have HB := n1_; clear n0_ n1_))
   go_ret2
   exact ⟨_, eR, nL, uB⟩
def sais_Bytes.l0 : Nat → List Int → List Int → Int → Int → Option (List Int × Int)
  | 0, _, _, _, _ => none
  | k + 1, x4, x10, x11, x12 => if x12 < x11 then (if 0 ≤ x12 then (if x12 < (x10.length : Int) then (if x4.length < 17592186044416 then (sais_Bytes.l0 k (x4 ++ [wrap64 (rd x10 x12)]) x10 x11 (wrap64 (x12 + 1))) else (none)) else (none)) else (none)) else ((sais_Ints.f k x4 256).bind fun bt192 => (some (bt192.1, bt192.2)))
def sais_Bytes.f (k : Nat) (l0 : List Int) : Option (List Int × Int) := if (l0.length : Int) ≤ 100000 then (sais_Bytes.l0 k ([] : List Int) l0 (l0.length : Int) 0) else (some (([] : List Int), 2))
theorem sais_Bytes.mono_l : ∀ k, (∀ y0 y1 y2 y3, LeO (sais_Bytes.l0 k y0 y1 y2 y3) (sais_Bytes.l0 (k + 1) y0 y1 y2 y3))
  | 0 => fun _ _ _ _ r h => by simp [sais_Bytes.l0] at h
  | k + 1 => by
    have ih0 := sais_Bytes.mono_l k
    · intro y0 y1 y2 y3
      unfold sais_Bytes.l0
      have m0 := @sais_Ints.mono
      exact mB
theorem sais_Bytes.mono : ∀ a0 k, LeO (sais_Bytes.f k a0) (sais_Bytes.f (k + 1) a0) := by
  intro a0 k
  have ih0 := sais_Bytes.mono_l k
  unfold sais_Bytes.f
  have m0 := @sais_Ints.mono
  exact mB
theorem sais_Bytes.calls (k : Nat) (A0 : Option Addr) (c0 : Nat) (l0 : List Int) (r1 : List Int) (r2 : Int) (w : World) (hr0 : Kd.C (Kd.int .u8) w A0 l0.length l0) (hc0 : l0.length ≤ c0) (h : sais_Bytes.f k l0 = some (r1, r2)) :
    Calls Tryz.prog 38 #[.slice A0 l0.length c0] w fun e w' => ∃ v0_ : Value, e = .returned (.tuple #[v0_, .int .i64 r2]) ∧ Kd.R (Kd.int .i64) 3 w' w.heap.size (fun _ => True) v0_ r1 ∧ Below w.heap.size w w' := by
 have HR0 := Aside0.mk hr0
 have HC0 := Aside0.mk hc0
 clear hr0 hc0
 have HB := Aside0.mk (Below.refl w.heap.size w)
 have H := h
 clear h
 unfold sais_Bytes.f at H
 by_cases c2 : (l0.length : Int) ≤ 100000
 ·rw [if_pos c2] at H
  have c2b0 : decide ((l0.length : Int) ≤ 100000) = true := decide_eq_true c2
  have c2b1 : decide (l0.length ≤ 100000) = true := decide_eq_true (by omega)
  clear c2
  have H' := Aside0.mk H
  clear H
  go_enter Tryz.func38, Tryz.ntmps38
  go_wp2
  go_loopg [4, 12] k (fun kq v4 v12 w' => ∃ (x4_1 : List Int) (x12_1 : Int), v12 = .int .i64 x12_1 ∧ Aside0 (sais_Bytes.l0 kq x4_1 l0 (l0.length : Int) x12_1 = some (r1, r2)) ∧ Aside0 (kq ≤ k) ∧ Aside0 (Kd.R (Kd.int .i64) 3 w' w.heap.size (fun _ => True) v4 x4_1) ∧ Aside0 (Below w.heap.size w w'))
  case atStart => exact ⟨(([] : List Int)), (0), sD, H', ⟨Nat.le_refl _⟩, ⟨nL⟩, ⟨uB⟩⟩
  case round =>
   clear H'
   obtain ⟨x4_1, x12_1, rfl, HA, HK1, HO_4, HB⟩ := hrel
   cases gk with
   | zero => exact absurd HA.out (by simp [sais_Bytes.l0])
   | succ k1 =>
    have H := HA.out
    clear HA
    simp only [sais_Bytes.l0] at H
    rcases ifC H with ⟨c3b0, H⟩ | ⟨c3b0, H⟩
    ·obtain ⟨c4b0, c5b0, H⟩ := ifD2 H
     obtain ⟨c6, H⟩ := ifP H
     have LMc6 := Aside0.mk c6
     clear c6
     generalize hy189 : (x4_1 ++ [wrap64 (rd l0 x12_1)] : List Int) = y189 at H
     try simp only [Option.bind_some] at H
     have Ny189 := Aside0.mk hy189.symm
     clear hy189
     have H' := Aside0.mk H
     clear H
     obtain ⟨ad188, e188, hx188_0, p188, q188⟩ := rIO HB.out HR0.out x12_1
     cases e188
     go_wp2_with (first | ((with_reducible refine gate_builtin (b := .append) (xs := #[.tmp 16, .tmp 19]) rfl ?_); at_builtin; refine Kd.R_append (Kd.int .i64) (w0 := w) w.heap.size rfl (.tmp 16) (.tmp 19) 29 3 (.int .i64 0) 8 rfl Tryz.underlying29 info3 rfl (by decide) (by omega) u4 x4_1 (wrap64 (rd l0 x12_1)) [.int .i64 (wrap64 (rd l0 x12_1))] (fun _ => True) (fun _ => False) rfl rfl ?aP (fun _ hk => hk.elim) ?aF ?aO ?aB ?aS ?aL ?_; (case aP => exact rfl); (case aB => exact uB); (case aF => exact (fun _ _ => trivial)); (case aO => exact (uR HO_4.out)); (case aS => exact (below_size uB)); (case aL => have := LMc6.out; omega); intro v190 w7 ho hb hg hat; rw [← Ny189.out] at ho; have n0_ := Aside0.mk (hb); have n1_ := Aside0.mk (ho); clear HB HO_4; have HB := n0_; have HO191 := n1_; clear n0_ n1_; clear ho hb hg hat))
     go_roundg k1
     case measure => have := HK1.out; omega
     case rel => exact ⟨(y189), (wrap64 (x12_1 + 1)), sD, H', ⟨by have := HK1.out; omega⟩, ⟨uR HO191.out⟩, ⟨uB⟩⟩
    ·obtain ⟨⟨t192, t193⟩, A8, H⟩ := bdS H
     try dsimp only at H
     simp only [Option.some.injEq, Prod.mk.injEq] at H
     obtain ⟨rfl, rfl⟩ := H
     obtain ⟨Ao9, co9, eo9⟩ := Kd.R_slice HO_4.out
     subst eo9
     go_wp2_with (first | ((with_reducible refine gate_callee (f := 69) rfl ?_); refine goesL_ (some 23) rfl rfl Tryz.func69 (by kernel_rfl) rfl #[.slice Ao9 x4_1.length co9, .int .i64 256] rfl aE ?_; (with_reducible refine (sais_Ints.calls k1 _ _ x4_1 256 t192 t193 _ ?side1 ?side2 A8.out).mono ?_); (case side1 => exact uC (Kd.R_reads' HO_4.out).2.2); (case side2 => exact (Kd.R_reads' HO_4.out).2.1); rintro e w10 ⟨v194, rfl, ho0, hb⟩; refine ⟨_, rfl, ?_⟩; have n0_ := Aside0.mk (Kd.R_elder' (uR HO_4.out) (Kd.R_base ho0) hb); have n1_ := Aside0.mk (Kd.R_lower (Kd.R_new' ho0 (Kd.R_lt (uR HO_4.out))) (below_size uB)); have n2_ := Aside0.mk (below_step uB hb); clear HO_4 HB; have HO_4 := n0_; have HO195 := n1_; have HB := n2_; clear n0_ n1_ n2_))
     go_ret2
     exact ⟨_, eR, by (with_reducible repeat (first | apply Kd.R_alloc | apply Kd.R_drewN | apply Kd.R_drew)); exact Kd.R_mono HO195.out (fun _ hk => trivial), uB⟩
 ·rw [if_neg c2] at H
  have c2b0 : decide ((l0.length : Int) ≤ 100000) = false := decide_eq_false c2
  have c2b1 : decide (l0.length ≤ 100000) = false := decide_eq_false (by omega)
  clear c2
  simp only [Option.some.injEq, Prod.mk.injEq] at H
  obtain ⟨rfl, rfl⟩ := H
  go_enter Tryz.func38, Tryz.ntmps38
  go_wp2
  go_ret2
  exact ⟨_, eR, nL, uB⟩
mutual
def bucket_Pass.l0 : Nat → List Int → List Int → List Int → List Int → Int → Int → Option (List Int × Bool)
  | 0, _, _, _, _, _, _ => none
  | k + 1, x0, x1, x10, x27, x28, x29 => if x29 < x28 then (if 0 ≤ x29 then (if x29 < (x27.length : Int) then (if (rd x27 x29) < 0 then (some (([] : List Int), false)) else (if (rd x27 x29) ≥ (x1.length : Int) then (some (([] : List Int), false)) else (if 0 ≤ (rd x27 x29) then (if (rd x27 x29) < (x1.length : Int) then (if 0 ≤ (rd x1 (rd x27 x29)) then (if (rd x1 (rd x27 x29)) < (x10.length : Int) then (bucket_Pass.l0 k x0 x1 (x10.set ((rd x1 (rd x27 x29)) : Int).toNat (wrap64 ((rd x10 (rd x1 (rd x27 x29))) + 1))) x27 x28 (wrap64 (x29 + 1))) else (none)) else (none)) else (none)) else (none)))) else (none)) else (none)) else ((bucket_Starts.f k x10).bind fun t207 => (if 0 ≤ (x0.length : Int) then (if ((x0.length : Int) : Int).toNat ≤ 35184372088832 then (bucket_Pass.l1 k x1 t207 (List.replicate ((x0.length : Int) : Int).toNat 0) x0 (x0.length : Int) 0) else (none)) else (none)))
def bucket_Pass.l1 : Nat → List Int → List Int → List Int → List Int → Int → Int → Option (List Int × Bool)
  | 0, _, _, _, _, _, _ => none
  | k + 1, x1, x13, x14, x56, x57, x58 => if x58 < x57 then (if 0 ≤ x58 then (if x58 < (x56.length : Int) then (if 0 ≤ (rd x56 x58) then (if (rd x56 x58) < (x1.length : Int) then (if 0 ≤ (rd x1 (rd x56 x58)) then (if (rd x1 (rd x56 x58)) < (x13.length : Int) then (if 0 ≤ (rd x13 (rd x1 (rd x56 x58))) then (if (rd x13 (rd x1 (rd x56 x58))) < (x14.length : Int) then (bucket_Pass.l1 k x1 (x13.set ((rd x1 (rd x56 x58)) : Int).toNat (wrap64 ((rd x13 (rd x1 (rd x56 x58))) + 1))) (x14.set ((rd x13 (rd x1 (rd x56 x58))) : Int).toNat (rd x56 x58)) x56 x57 (wrap64 (x58 + 1))) else (none)) else (none)) else (none)) else (none)) else (none)) else (none)) else (none)) else (none)) else (some (x14, true))
end
def bucket_Pass.f (k : Nat) (l0 : List Int) (l1 : List Int) (a2 : Int) : Option (List Int × Bool) := (bucket_Counts.f k l1 a2).bind fun bt196 => (if bt196.2 = true then (if 0 ≤ a2 then (if (a2 : Int).toNat ≤ 35184372088832 then (bucket_Pass.l0 k l0 l1 (List.replicate (a2 : Int).toNat 0) l0 (l0.length : Int) 0) else (none)) else (none)) else (some (([] : List Int), false)))
theorem bucket_Pass.mono_l : ∀ k, (∀ y0 y1 y2 y3 y4 y5, LeO (bucket_Pass.l0 k y0 y1 y2 y3 y4 y5) (bucket_Pass.l0 (k + 1) y0 y1 y2 y3 y4 y5)) ∧ (∀ y0 y1 y2 y3 y4 y5, LeO (bucket_Pass.l1 k y0 y1 y2 y3 y4 y5) (bucket_Pass.l1 (k + 1) y0 y1 y2 y3 y4 y5))
  | 0 => ⟨fun _ _ _ _ _ _ r h => by simp [bucket_Pass.l0] at h, fun _ _ _ _ _ _ r h => by simp [bucket_Pass.l1] at h⟩
  | k + 1 => by
    obtain ⟨ih0, ih1⟩ := bucket_Pass.mono_l k
    refine ⟨?_, ?_⟩
    · intro y0 y1 y2 y3 y4 y5
      unfold bucket_Pass.l0
      have m0 := @bucket_Counts.mono
      have m1 := @bucket_Starts.mono
      exact mB
    · intro y0 y1 y2 y3 y4 y5
      unfold bucket_Pass.l1
      have m0 := @bucket_Counts.mono
      have m1 := @bucket_Starts.mono
      exact mB
theorem bucket_Pass.mono : ∀ a0 a1 a2 k, LeO (bucket_Pass.f k a0 a1 a2) (bucket_Pass.f (k + 1) a0 a1 a2) := by
  intro a0 a1 a2 k
  obtain ⟨ih0, ih1⟩ := bucket_Pass.mono_l k
  unfold bucket_Pass.f
  have m0 := @bucket_Counts.mono
  have m1 := @bucket_Starts.mono
  exact mB
theorem bucket_Pass.calls (k : Nat) (A0 : Option Addr) (c0 : Nat) (l0 : List Int) (A1 : Option Addr) (c1 : Nat) (l1 : List Int) (a2 : Int) (r1 : List Int) (r2 : Bool) (w : World) (hr0 : Kd.C (Kd.int .i64) w A0 l0.length l0) (hc0 : l0.length ≤ c0) (hr1 : Kd.C (Kd.int .i64) w A1 l1.length l1) (hc1 : l1.length ≤ c1) (h : bucket_Pass.f k l0 l1 a2 = some (r1, r2)) :
    Calls Tryz.prog 71 #[.slice A0 l0.length c0, .slice A1 l1.length c1, .int .i64 a2] w fun e w' => ∃ v0_ : Value, e = .returned (.tuple #[v0_, .bool r2]) ∧ Kd.R (Kd.int .i64) 3 w' w.heap.size (fun _ => True) v0_ r1 ∧ Below w.heap.size w w' := by
 have HR0 := Aside0.mk hr0
 have HC0 := Aside0.mk hc0
 clear hr0 hc0
 have HR1 := Aside0.mk hr1
 have HC1 := Aside0.mk hc1
 clear hr1 hc1
 have HB := Aside0.mk (Below.refl w.heap.size w)
 have H := h
 clear h
 unfold bucket_Pass.f at H
 obtain ⟨⟨t196, t197⟩, A4, H⟩ := bdS H
 try dsimp only at H
 by_cases c5 : t197 = true
 ·subst c5
  rw [if_pos rfl] at H
  obtain ⟨c6b0, c6b1, H⟩ := ifE H
  obtain ⟨c7b0, c7b1, H⟩ := ifE H
  generalize hy200 : (List.replicate (a2 : Int).toNat 0 : List Int) = y200 at H
  try simp only [Option.bind_some] at H
  have Ny200 := Aside0.mk hy200.symm
  clear hy200
  have H' := Aside0.mk H
  clear H
  go_enter Tryz.func71, Tryz.ntmps71
  go_wp2_with (first | ((with_reducible refine gate_callee (f := 91) rfl ?_); refine goesL_ (some 20) rfl rfl Tryz.func91 (by kernel_rfl) rfl #[.slice A1 l1.length c1, .int .i64 a2] rfl aE ?_; (with_reducible refine (bucket_Counts.calls k _ _ l1 a2 t196 true _ ?side1 ?side2 A4.out).mono ?_); (case side1 => exact uC HR1.out); (case side2 => exact HC1.out); rintro e w8 ⟨v198, rfl, ho0, hb⟩; refine ⟨_, rfl, ?_⟩; have n0_ := Aside0.mk (Kd.R_lower ho0 (below_size uB)); have n1_ := Aside0.mk (below_step uB hb); clear HB; have HO199 := n0_; have HB := n1_; clear n0_ n1_) | ((with_reducible refine gate_dst (N := 26) rfl ?_); (try (refine gate_guard (by rfl) ?_; dsimp only)); refine Kd.R_make (Kd.int .i64) _ 3 rfl (N := 26) rfl 29 _ _ rfl a2 rfl rfl Tryz.underlying29 (.int .i64 0) 8 info3 rfl (by decide) (by omega) 0 (ok := fun _ => True) (okp := fun _ => True) rfl (fun _ hk => hk) trivial dT (Nat.le_trans (Nat.mul_le_mul_right _ (dT : a2.toNat ≤ 35184372088832)) (by omega)) (Below.refl _ _) (Nat.le_refl _) ?_; intro v201 w9 ho10 hb hg_ hnew_; clear hg_ hnew_; (first | rw [← Ny200.out] at ho10 | (simp only [Int.reduceToNat] at ho10; rw [← Ny200.out] at ho10)); have n0_ := Aside0.mk (Kd.R_elder' (uR HO199.out) (Kd.R_base ho10) hb); have n1_ := Aside0.mk (Kd.R_lower (Kd.R_new' ho10 (Kd.R_lt (uR HO199.out))) (below_size uB)); have n2_ := Aside0.mk (below_step uB hb); clear HO199 HB; have HO199 := n0_; have HO202 := n1_; have HB := n2_; clear n0_ n1_ n2_; clear hb ho10))
  go_loopg [29] k (fun kq v29 w' => ∃ (x10_1 : List Int) (x29_1 : Int), v29 = .int .i64 x29_1 ∧ Aside0 (bucket_Pass.l0 kq l0 l1 x10_1 l0 (l0.length : Int) x29_1 = some (r1, r2)) ∧ Aside0 (kq ≤ k) ∧ Aside0 (Kd.R (Kd.int .i64) 3 w' w.heap.size (fun _ => True) v201 x10_1) ∧ Aside0 (Below w.heap.size w w'))
  case atStart => exact ⟨(y200), (0), sD, H', ⟨Nat.le_refl _⟩, ⟨by (with_reducible repeat (first | apply Kd.R_alloc | apply Kd.R_drewN | apply Kd.R_drew)); exact Kd.R_mono HO202.out (fun _ hk => trivial)⟩, ⟨uB⟩⟩
  case round =>
   clear H'
   obtain ⟨x10_1, x29_1, rfl, HA, HK1, HO_10, HB⟩ := hrel
   cases gk with
   | zero => exact absurd HA.out (by simp [bucket_Pass.l0])
   | succ k1 =>
    have H := HA.out
    clear HA
    simp only [bucket_Pass.l0] at H
    rcases ifC H with ⟨c11b0, H⟩ | ⟨c11b0, H⟩
    ·obtain ⟨c12b0, c13b0, H⟩ := ifD2 H
     rcases ifC H with ⟨c14b0, H⟩ | ⟨c14b0, H⟩
     ·simp only [Option.some.injEq, Prod.mk.injEq] at H
      obtain ⟨rfl, rfl⟩ := H
      obtain ⟨ad203, e203, hx203_0, p203, q203⟩ := rIO HB.out HR0.out x29_1
      cases e203
      go_wp2
      go_ret2
      exact ⟨_, eR, nL, uB⟩
     ·rcases ifG H with ⟨c15b0, H⟩ | ⟨c15b0, H⟩
      ·simp only [Option.some.injEq, Prod.mk.injEq] at H
       obtain ⟨rfl, rfl⟩ := H
       obtain ⟨ad203, e203, hx203_0, p203, q203⟩ := rIO HB.out HR0.out x29_1
       cases e203
       go_wp2
       go_ret2
       exact ⟨_, eR, nL, uB⟩
      ·obtain ⟨c16b0, c17b0, H⟩ := ifD2 H
       obtain ⟨c18b0, c19b0, H⟩ := ifD2 H
       generalize hy206 : (x10_1.set ((rd l1 (rd l0 x29_1)) : Int).toNat (wrap64 ((rd x10_1 (rd l1 (rd l0 x29_1))) + 1)) : List Int) = y206 at H
       try simp only [Option.bind_some] at H
       have Ny206 := Aside0.mk hy206.symm
       clear hy206
       have H' := Aside0.mk H
       clear H
       obtain ⟨ad203, e203, hx203_0, p203, q203⟩ := rIO HB.out HR0.out x29_1
       cases e203
       obtain ⟨ad204, e204, hx204_0, p204, q204⟩ := rIO HB.out HR1.out (rd l0 x29_1)
       cases e204
       obtain ⟨Ao21, co21, eo21⟩ := Kd.R_slice HO_10.out
       subst eo21
       obtain ⟨ad205, e205, hx205_0, p205, q205⟩ := rI (Kd.R_reads' HO_10.out).2.2 (rd l1 (rd l0 x29_1))
       cases e205
       have p20 : 0 ≤ ((rd l1 (rd l0 x29_1)) : Int) := dT
       have q20 : ((rd l1 (rd l0 x29_1)) : Int) < ((x10_1.length : Int) : Int) := dT
       obtain ⟨go20, co20, eo20, gb20, gl20, cl20, HG20⟩ := Kd.R_form HO_10.out (by omega)
       (first | cases eo20 | (injection eo20 with ea_ en_ ec_; (first | subst ea_ | (injection ea_ with ea_; subst ea_)); subst ec_; clear en_))
       have GB20 := Aside0.mk gb20
       have GG20 := Aside0.mk HG20
       clear gb20 gl20 HG20
       (first | simp only [add_plain] at hx205_0 | skip)
       obtain ⟨hx20_0, hf20_0⟩ := Kd.R_celln 0 HO_10.out ((rd l1 (rd l0 x29_1)) : Int) p20 q20
       replace p20 := eq_true p20
       replace q20 := eq_true q20
       have HP22 := Kd.R_putg HO_10.out ((rd l1 (rd l0 x29_1)) : Int) (wrap64 ((rd x10_1 (rd l1 (rd l0 x29_1))) + 1))
       go_wp2_with (first | ((with_reducible refine gate_store (t := 3) (p := 49) rfl ?_); refine store_event (t := 3) (p := 49) (v := ?vo_w23) (w1 := (wr.setCell ⟨go20, ((rd l1 (rd l0 x29_1)) : Int).toNat, none⟩ (.int .i64 (wrap64 ((rd x10_1 (rd l1 (rd l0 x29_1))) + 1))))) ?hg ?ho ?hn ?hr ?_; (case ho => rfl); (case hg => rfl); (case hn => rfl); (case hr => first | (go_simp; done) | (go_simp; rfl)); intro w23 hw; have hg : wr.grownBy w23 (some go20) := (by rw [hw]; exact HP22.2); have hp_ : Kd.R (Kd.int .i64) 3 w23 w.heap.size (fun _ => True) (.slice (some ⟨go20, 0, none⟩) x10_1.length co21) y206 := (by rw [hw, Ny206.out]; exact HP22.1); clear HP22; have n0_ := Aside0.mk (hp_); have n1_ := Aside0.mk ((by rw [hw]; exact below_set (HB.out) GB20.out : Below w.heap.size w w23)); clear HO_10 HB; have HO_10 := n0_; have HB := n1_; clear n0_ n1_; clear hg hw hp_))
       go_roundg k1
       case measure => have := HK1.out; omega
       case rel => exact ⟨(y206), (wrap64 (x29_1 + 1)), sD, H', ⟨by have := HK1.out; omega⟩, ⟨uR HO_10.out⟩, ⟨uB⟩⟩
    ·obtain ⟨t207, A24, H⟩ := bdS H
     try dsimp only at H
     obtain ⟨c25b0, c25b1, H⟩ := ifE H
     obtain ⟨c26b0, c26b1, H⟩ := ifE H
     generalize hy210 : (List.replicate ((l0.length : Int) : Int).toNat 0 : List Int) = y210 at H
     try simp only [Option.bind_some] at H
     have Ny210 := Aside0.mk hy210.symm
     clear hy210
     have H' := Aside0.mk H
     clear H
     obtain ⟨Ao27, co27, eo27⟩ := Kd.R_slice HO_10.out
     subst eo27
     go_wp2_with (first | ((with_reducible refine gate_callee (f := 93) rfl ?_); refine goesL_ (some 52) rfl rfl Tryz.func93 (by kernel_rfl) rfl #[.slice Ao27 x10_1.length co27] rfl aE ?_; (with_reducible refine (bucket_Starts.calls k1 _ _ x10_1 t207 _ ?side1 ?side2 A24.out).mono ?_); (case side1 => exact uC (Kd.R_reads' HO_10.out).2.2); (case side2 => exact (Kd.R_reads' HO_10.out).2.1); rintro e w28 ⟨v208, rfl, ho0, hb⟩; refine ⟨_, rfl, ?_⟩; have n0_ := Aside0.mk (Kd.R_elder' (uR HO_10.out) (Kd.R_base ho0) hb); have n1_ := Aside0.mk (Kd.R_lower (Kd.R_new' ho0 (Kd.R_lt (uR HO_10.out))) (below_size uB)); have n2_ := Aside0.mk (below_step uB hb); clear HO_10 HB; have HO_10 := n0_; have HO209 := n1_; have HB := n2_; clear n0_ n1_ n2_) | ((with_reducible refine gate_dst (N := 55) rfl ?_); (try (refine gate_guard (by rfl) ?_; dsimp only)); refine Kd.R_make (Kd.int .i64) _ 3 rfl (N := 55) rfl 29 _ _ rfl (l0.length : Int) rfl rfl Tryz.underlying29 (.int .i64 0) 8 info3 rfl (by decide) (by omega) 0 (ok := fun _ => True) (okp := fun _ => True) rfl (fun _ hk => hk) trivial dT (Nat.le_trans (Nat.mul_le_mul_right _ (dT : (l0.length : Int).toNat ≤ 35184372088832)) (by omega)) (Below.refl _ _) (Nat.le_refl _) ?_; intro v211 w29 ho30 hb hg_ hnew_; clear hg_ hnew_; (first | rw [← Ny210.out] at ho30 | (simp only [Int.reduceToNat] at ho30; rw [← Ny210.out] at ho30)); have n0_ := Aside0.mk (Kd.R_elder' (uR HO_10.out) (Kd.R_base ho30) hb); have n1_ := Aside0.mk (Kd.R_elder' (uR HO209.out) (Kd.R_base ho30) hb); have n2_ := Aside0.mk (Kd.R_lower (Kd.R_new' (Kd.R_new' ho30 (Kd.R_lt (uR HO_10.out))) (Kd.R_lt (uR HO209.out))) (below_size uB)); have n3_ := Aside0.mk (below_step uB hb); clear HO_10 HO209 HB; have HO_10 := n0_; have HO209 := n1_; have HO212 := n2_; have HB := n3_; clear n0_ n1_ n2_ n3_; clear hb ho30))
     go_loopg [58] k1 (fun kq v58 w' => ∃ (x13_2 : List Int) (x14_2 : List Int) (x58_2 : Int), v58 = .int .i64 x58_2 ∧ Aside0 (bucket_Pass.l1 kq l1 x13_2 x14_2 l0 (l0.length : Int) x58_2 = some (r1, r2)) ∧ Aside0 (kq ≤ k1) ∧ Aside0 (Kd.R (Kd.int .i64) 3 w' w.heap.size (fun k_ => some k_ ≠ (v211 : Value).ownBlock) v208 x13_2) ∧ Aside0 (Kd.R (Kd.int .i64) 3 w' w.heap.size (fun k_ => some k_ ≠ (v208 : Value).ownBlock) v211 x14_2) ∧ Aside0 (Below w.heap.size w w'))
     case atStart => exact ⟨(t207), (y210), (0), sD, H', ⟨Nat.le_refl _⟩, ⟨by (with_reducible repeat (first | apply Kd.R_alloc | apply Kd.R_drewN | apply Kd.R_drew)); exact Kd.R_mono HO209.out (fun _ hk => hk.2)⟩, ⟨by (with_reducible repeat (first | apply Kd.R_alloc | apply Kd.R_drewN | apply Kd.R_drew)); exact Kd.R_mono HO212.out (fun _ hk => hk.2)⟩, ⟨uB⟩⟩
     case round =>
      clear H'
      obtain ⟨x13_2, x14_2, x58_2, rfl, HA, HK2, HO_13, HO_14, HB⟩ := hrel
      cases gk with
      | zero => exact absurd HA.out (by simp [bucket_Pass.l1])
      | succ k2 =>
       have H := HA.out
       clear HA
       simp only [bucket_Pass.l1] at H
       rcases ifC H with ⟨c31b0, H⟩ | ⟨c31b0, H⟩
       ·obtain ⟨c32b0, c33b0, H⟩ := ifD2 H
        obtain ⟨c34b0, c35b0, H⟩ := ifD2 H
        obtain ⟨c36b0, c37b0, H⟩ := ifD2 H
        obtain ⟨c38b0, c39b0, H⟩ := ifD2 H
        generalize hy216 : (x14_2.set ((rd x13_2 (rd l1 (rd l0 x58_2))) : Int).toNat (rd l0 x58_2) : List Int) = y216 at H
        try simp only [Option.bind_some] at H
        have Ny216 := Aside0.mk hy216.symm
        clear hy216
        generalize hy219 : (x13_2.set ((rd l1 (rd l0 x58_2)) : Int).toNat (wrap64 ((rd x13_2 (rd l1 (rd l0 x58_2))) + 1)) : List Int) = y219 at H
        try simp only [Option.bind_some] at H
        have Ny219 := Aside0.mk hy219.symm
        clear hy219
        have H' := Aside0.mk H
        clear H
        obtain ⟨ad213, e213, hx213_0, p213, q213⟩ := rIO HB.out HR0.out x58_2
        cases e213
        obtain ⟨ad214, e214, hx214_0, p214, q214⟩ := rIO HB.out HR1.out (rd l0 x58_2)
        cases e214
        obtain ⟨Ao42, co42, eo42⟩ := Kd.R_slice HO_13.out
        subst eo42
        obtain ⟨ad215, e215, hx215_0, p215, q215⟩ := rI (Kd.R_reads' HO_13.out).2.2 (rd l1 (rd l0 x58_2))
        cases e215
        have p40 : 0 ≤ ((rd x13_2 (rd l1 (rd l0 x58_2))) : Int) := dT
        have q40 : ((rd x13_2 (rd l1 (rd l0 x58_2))) : Int) < ((x14_2.length : Int) : Int) := dT
        obtain ⟨go40, co40, eo40, gb40, gl40, cl40, HG40⟩ := Kd.R_form HO_14.out (by omega)
        (first | cases eo40 | (injection eo40 with ea_ en_ ec_; (first | subst ea_ | (injection ea_ with ea_; subst ea_)); subst ec_; clear en_))
        have GB40 := Aside0.mk gb40
        have GG40 := Aside0.mk HG40
        clear gb40 gl40 HG40
        obtain ⟨hx40_0, hf40_0⟩ := Kd.R_celln 0 HO_14.out ((rd x13_2 (rd l1 (rd l0 x58_2))) : Int) p40 q40
        replace p40 := eq_true p40
        replace q40 := eq_true q40
        have HP43 := Kd.R_putg HO_14.out ((rd x13_2 (rd l1 (rd l0 x58_2))) : Int) (rd l0 x58_2)
        go_wp2_with (first | ((with_reducible refine gate_store (t := 3) (p := 71) rfl ?_); refine store_event (t := 3) (p := 71) (v := ?vo_w44) (w1 := (wr.setCell ⟨go40, ((rd x13_2 (rd l1 (rd l0 x58_2))) : Int).toNat, none⟩ (.int .i64 (rd l0 x58_2)))) ?hg ?ho ?hn ?hr ?_; (case ho => rfl); (case hg => rfl); (case hn => rfl); (case hr => first | (go_simp; done) | (go_simp; rfl)); intro w44 hw; have hg : wr.grownBy w44 (some go40) := (by rw [hw]; exact HP43.2); have hp_ : Kd.R (Kd.int .i64) 3 w44 w.heap.size (fun k_ => some k_ ≠ (.slice (some ad215) x13_2.length co42 : Value).ownBlock) (.slice (some ⟨go40, 0, none⟩) x14_2.length co40) y216 := (by rw [hw, Ny216.out]; exact HP43.1); clear HP43; have n0_ := Aside0.mk (Kd.R_after (v := (.slice (some ⟨go40, 0, none⟩) x14_2.length co40)) (v1 := (.slice (some ⟨go40, 0, none⟩) x14_2.length co40)) (ok := (fun _ => True)) (by (with_reducible repeat (first | apply Kd.R_alloc | apply Kd.R_drewN | apply Kd.R_drew)); exact Kd.R_mono HO_13.out (fun _ hk => ⟨trivial, hk⟩)) hg (.inl rfl)); have n1_ := Aside0.mk (hp_); have n2_ := Aside0.mk ((by rw [hw]; exact below_set (HB.out) GB40.out : Below w.heap.size w w44)); clear HO_13 HO_14 HB; have HO_13 := n0_; have HO_14 := n1_; have HB := n2_; clear n0_ n1_ n2_; clear hg hw hp_; have p217 : 0 ≤ ((rd l0 x58_2) : Int) := dT; have q217 : (rd l0 x58_2) < (l1.length : Int) := dT; obtain ⟨ad217, e217, hx217_0⟩ := Kd.at_int HR1.out (rd l0 x58_2) p217 q217; obtain rfl : ad214 = ad217 := (by injection e217); replace hx217_0 := (HB.out.cell (World.block_lt_of_cell? w _ hx217_0)).trans hx217_0; replace p217 := eq_true p217; replace q217 := eq_true q217; have p218 : 0 ≤ ((rd l1 (rd l0 x58_2)) : Int) := dT; have q218 : (rd l1 (rd l0 x58_2)) < (x13_2.length : Int) := dT; obtain ⟨ad218, e218, hx218_0⟩ := Kd.at_int (Kd.R_reads' HO_13.out).2.2 (rd l1 (rd l0 x58_2)) p218 q218; obtain rfl : ad215 = ad218 := (by injection e218); replace p218 := eq_true p218; replace q218 := eq_true q218; have p41 : 0 ≤ ((rd l1 (rd l0 x58_2)) : Int) := dT; have q41 : ((rd l1 (rd l0 x58_2)) : Int) < ((x13_2.length : Int) : Int) := dT; obtain ⟨go41, co41, eo41, gb41, gl41, cl41, HG41⟩ := Kd.R_form HO_13.out (by omega); (first | cases eo41 | (injection eo41 with ea_ en_ ec_; (first | subst ea_ | (injection ea_ with ea_; subst ea_)); subst ec_; clear en_)); have GB41 := Aside0.mk gb41; have GG41 := Aside0.mk HG41; clear gb41 gl41 HG41; (first | simp only [add_plain] at hx215_0 | skip); (first | simp only [add_plain] at hx218_0 | skip); obtain ⟨hx41_0, hf41_0⟩ := Kd.R_celln 0 HO_13.out ((rd l1 (rd l0 x58_2)) : Int) p41 q41; replace p41 := eq_true p41; replace q41 := eq_true q41; have n_ := Aside0.mk (Kd.R_mono (ok' := (fun k_ => some k_ ≠ (.slice (some ⟨go40, 0, none⟩) x14_2.length co40 : Value).ownBlock)) HO_13.out (fun k_ hk => hk.2)); clear HO_13; have HO_13 := n_; clear n_; obtain ⟨hy45_, hz45_⟩ := Kd.R_celln 0 HO_13.out ((rd l1 (rd l0 x58_2)) : Int) dT dT; have HP45 := Kd.R_putg HO_13.out ((rd l1 (rd l0 x58_2)) : Int) (wrap64 ((rd x13_2 (rd l1 (rd l0 x58_2))) + 1))) | ((with_reducible refine gate_store (t := 3) (p := 80) rfl ?_); refine store_event (t := 3) (p := 80) (v := ?vo_w46) (w1 := (w44.setCell ⟨go41, ((rd l1 (rd l0 x58_2)) : Int).toNat, none⟩ (.int .i64 (wrap64 ((rd x13_2 (rd l1 (rd l0 x58_2))) + 1))))) ?hg ?ho ?hn ?hr ?_; (case ho => rfl); (case hg => rfl); (case hn => rfl); (case hr => first | (go_simp; done) | (go_simp; rfl)); intro w46 hw; have hg : w44.grownBy w46 (some go41) := (by rw [hw]; exact HP45.2); have hp_ : Kd.R (Kd.int .i64) 3 w46 w.heap.size (fun k_ => some k_ ≠ (.slice (some ⟨go40, 0, none⟩) x14_2.length co40 : Value).ownBlock) (.slice (some ⟨go41, 0, none⟩) x13_2.length co42) y219 := (by rw [hw, Ny219.out]; exact HP45.1); clear HP45; have n0_ := Aside0.mk (hp_); have n1_ := Aside0.mk (Kd.R_after (v := (.slice (some ⟨go41, 0, none⟩) x13_2.length co42)) (v1 := (.slice (some ⟨go41, 0, none⟩) x13_2.length co42)) (ok := (fun _ => True)) (by (with_reducible repeat (first | apply Kd.R_alloc | apply Kd.R_drewN | apply Kd.R_drew)); exact Kd.R_mono HO_14.out (fun _ hk => ⟨trivial, hk⟩)) hg (.inl rfl)); have n2_ := Aside0.mk ((by rw [hw]; exact below_set (HB.out) GB41.out : Below w.heap.size w w46)); clear HO_13 HO_14 HB; have HO_13 := n0_; have HO_14 := n1_; have HB := n2_; clear n0_ n1_ n2_; clear hg hw hp_))
        go_roundg k2
        case measure => have := HK1.out; have := HK2.out; omega
        case rel => exact ⟨(y219), (y216), (wrap64 (x58_2 + 1)), sD, H', ⟨by have := HK1.out; have := HK2.out; omega⟩, ⟨uR HO_13.out⟩, ⟨by (with_reducible repeat (first | apply Kd.R_alloc | apply Kd.R_drewN | apply Kd.R_drew)); exact Kd.R_mono HO_14.out (fun _ hk => hk.2)⟩, ⟨uB⟩⟩
       ·simp only [Option.some.injEq, Prod.mk.injEq] at H
        obtain ⟨rfl, rfl⟩ := H
        go_wp2
        go_ret2
        exact ⟨_, eR, by (with_reducible repeat (first | apply Kd.R_alloc | apply Kd.R_drewN | apply Kd.R_drew)); exact Kd.R_mono HO_14.out (fun _ hk => trivial), uB⟩
 ·replace c5 := Bool.eq_false_iff.mpr c5
  subst c5
  rw [if_neg (by decide)] at H
  simp only [Option.some.injEq, Prod.mk.injEq] at H
  obtain ⟨rfl, rfl⟩ := H
  go_enter Tryz.func71, Tryz.ntmps71
  go_wp2_with (first | ((with_reducible refine gate_callee (f := 91) rfl ?_); refine goesL_ (some 20) rfl rfl Tryz.func91 (by kernel_rfl) rfl #[.slice A1 l1.length c1, .int .i64 a2] rfl aE ?_; (with_reducible refine (bucket_Counts.calls k _ _ l1 a2 t196 false _ ?side1 ?side2 A4.out).mono ?_); (case side1 => exact uC HR1.out); (case side2 => exact HC1.out); rintro e w47 ⟨v198, rfl, ho0, hb⟩; refine ⟨_, rfl, ?_⟩; have n0_ := Aside0.mk (Kd.R_lower ho0 (below_size uB)); have n1_ := Aside0.mk (below_step uB hb); clear HB; have HO199 := n0_; have HB := n1_; clear n0_ n1_))
  go_ret2
  exact ⟨_, eR, nL, uB⟩
def skew_places.l0 : Nat → Int → List Int → Int → Option (List Int)
  | 0, _, _, _ => none
  | k + 1, x0, x5, x6 => if x6 < x0 then (if x5.length < 17592186044416 then (skew_places.l0 k x0 (x5 ++ [x6]) (wrap64 (x6 + 3))) else (none)) else (some x5)
def skew_places.f (k : Nat) (a0 : Int) (a1 : Int) : Option (List Int) := skew_places.l0 k a0 ([] : List Int) a1
theorem skew_places.mono_l : ∀ k, (∀ y0 y1 y2, LeO (skew_places.l0 k y0 y1 y2) (skew_places.l0 (k + 1) y0 y1 y2))
  | 0 => fun _ _ _ r h => by simp [skew_places.l0] at h
  | k + 1 => by
    have ih0 := skew_places.mono_l k
    · intro y0 y1 y2
      unfold skew_places.l0
      exact mB
theorem skew_places.mono : ∀ a0 a1 k, LeO (skew_places.f k a0 a1) (skew_places.f (k + 1) a0 a1) := by
  intro a0 a1 k
  have ih0 := skew_places.mono_l k
  unfold skew_places.f
  exact mB
theorem skew_places.calls (k : Nat) (a0 : Int) (a1 : Int) (r : List Int) (w : World) (h : skew_places.f k a0 a1 = some r) :
    Calls Tryz.prog 129 #[.int .i64 a0, .int .i64 a1] w fun e w' => ∃ v0_ : Value, e = .returned (v0_) ∧ Kd.R (Kd.int .i64) 3 w' w.heap.size (fun _ => True) v0_ r ∧ Below w.heap.size w w' := by
 have HB := Aside0.mk (Below.refl w.heap.size w)
 have H := h
 clear h
 unfold skew_places.f at H
 have H' := Aside0.mk H
 clear H
 go_enter Tryz.func129, Tryz.ntmps129
 go_wp2
 go_loopg [5, 6] k (fun kq v5 v6 w' => ∃ (x5_1 : List Int) (x6_1 : Int), v6 = .int .i64 x6_1 ∧ Aside0 (skew_places.l0 kq a0 x5_1 x6_1 = some r) ∧ Aside0 (kq ≤ k) ∧ Aside0 (Kd.R (Kd.int .i64) 3 w' w.heap.size (fun _ => True) v5 x5_1) ∧ Aside0 (Below w.heap.size w w'))
 case atStart => exact ⟨(([] : List Int)), (a1), sD, H', ⟨Nat.le_refl _⟩, ⟨nL⟩, ⟨uB⟩⟩
 case round =>
  clear H'
  obtain ⟨x5_1, x6_1, rfl, HA, HK1, HO_5, HB⟩ := hrel
  cases gk with
  | zero => exact absurd HA.out (by simp [skew_places.l0])
  | succ k1 =>
   have H := HA.out
   clear HA
   simp only [skew_places.l0] at H
   rcases ifC H with ⟨c3b0, H⟩ | ⟨c3b0, H⟩
   ·obtain ⟨c4, H⟩ := ifP H
    have LMc4 := Aside0.mk c4
    clear c4
    generalize hy220 : (x5_1 ++ [x6_1] : List Int) = y220 at H
    try simp only [Option.bind_some] at H
    have Ny220 := Aside0.mk hy220.symm
    clear hy220
    have H' := Aside0.mk H
    clear H
    go_wp2_with (first | ((with_reducible refine gate_builtin (b := .append) (xs := #[.tmp 13, .tmp 15]) rfl ?_); at_builtin; refine Kd.R_append (Kd.int .i64) (w0 := w) w.heap.size rfl (.tmp 13) (.tmp 15) 29 3 (.int .i64 0) 8 rfl Tryz.underlying29 info3 rfl (by decide) (by omega) u5 x5_1 x6_1 [.int .i64 x6_1] (fun _ => True) (fun _ => False) rfl rfl ?aP (fun _ hk => hk.elim) ?aF ?aO ?aB ?aS ?aL ?_; (case aP => exact rfl); (case aB => exact uB); (case aF => exact (fun _ _ => trivial)); (case aO => exact (uR HO_5.out)); (case aS => exact (below_size uB)); (case aL => have := LMc4.out; omega); intro v221 w5 ho hb hg hat; rw [← Ny220.out] at ho; have n0_ := Aside0.mk (hb); have n1_ := Aside0.mk (ho); clear HB HO_5; have HB := n0_; have HO222 := n1_; clear n0_ n1_; clear ho hb hg hat))
    go_roundg k1
    case measure => have := HK1.out; omega
    case rel => exact ⟨(y220), (wrap64 (x6_1 + 3)), sD, H', ⟨by have := HK1.out; omega⟩, ⟨uR HO222.out⟩, ⟨uB⟩⟩
   ·obtain rfl := Option.some.inj H
    go_wp2
    go_ret
    exact ⟨_, eR, uR HO_5.out, uB⟩
def skew_key.f (l0 : List Int) (a1 : Int) : Option (Int) := if a1 ≥ (l0.length : Int) then (some 0) else (if 0 ≤ a1 then (if a1 < (l0.length : Int) then (some (wrap64 ((rd l0 a1) + 1))) else (none)) else (none))
theorem skew_key.calls (A0 : Option Addr) (c0 : Nat) (l0 : List Int) (a1 : Int) (r : Int) (w : World) (hr0 : Kd.C (Kd.int .i64) w A0 l0.length l0) (hc0 : l0.length ≤ c0) (h : skew_key.f l0 a1 = some r) :
    Calls Tryz.prog 147 #[.slice A0 l0.length c0, .int .i64 a1] w fun e w' => e = .returned (.int .i64 r) ∧ Drawn0 w w' := by
 have HR0 := Aside0.mk hr0
 have HC0 := Aside0.mk hc0
 clear hr0 hc0
 have H := h
 clear h
 unfold skew_key.f at H
 rcases ifG H with ⟨c3b0, H⟩ | ⟨c3b0, H⟩
 ·obtain rfl := Option.some.inj H
  go_enter Tryz.func147, Tryz.ntmps147
  go_wp2
  go_ret
  exact ⟨sD, dD⟩
 ·obtain ⟨c4b0, c5b0, H⟩ := ifD2 H
  obtain rfl := Option.some.inj H
  obtain ⟨ad223, e223, hx223_0, p223, q223⟩ := rI HR0.out a1
  cases e223
  go_enter Tryz.func147, Tryz.ntmps147
  go_wp2
  go_ret
  exact ⟨sD, dD⟩
def skew_keys.l0 : Nat → List Int → Int → List Int → Int → Int → Option (List Int)
  | 0, _, _, _, _, _ => none
  | k + 1, x0, x1, x5, x11, x12 => if x12 < x11 then ((skew_key.f x0 (wrap64 (x12 + x1))).bind fun t227 => (if 0 ≤ x12 then (if x12 < (x5.length : Int) then (skew_keys.l0 k x0 x1 (x5.set (x12 : Int).toNat t227) x11 (wrap64 (x12 + 1))) else (none)) else (none))) else (some x5)
def skew_keys.f (k : Nat) (l0 : List Int) (a1 : Int) : Option (List Int) := if 0 ≤ (l0.length : Int) then (if ((l0.length : Int) : Int).toNat ≤ 35184372088832 then ((some (List.replicate ((l0.length : Int) : Int).toNat 0 : List Int)).bind fun y224 => (skew_keys.l0 k l0 a1 y224 (y224.length : Int) 0)) else (none)) else (none)
theorem skew_keys.mono_l : ∀ k, (∀ y0 y1 y2 y3 y4, LeO (skew_keys.l0 k y0 y1 y2 y3 y4) (skew_keys.l0 (k + 1) y0 y1 y2 y3 y4))
  | 0 => fun _ _ _ _ _ r h => by simp [skew_keys.l0] at h
  | k + 1 => by
    have ih0 := skew_keys.mono_l k
    · intro y0 y1 y2 y3 y4
      unfold skew_keys.l0
      exact mB
theorem skew_keys.mono : ∀ a0 a1 k, LeO (skew_keys.f k a0 a1) (skew_keys.f (k + 1) a0 a1) := by
  intro a0 a1 k
  have ih0 := skew_keys.mono_l k
  unfold skew_keys.f
  exact mB
theorem skew_keys.calls (k : Nat) (A0 : Option Addr) (c0 : Nat) (l0 : List Int) (a1 : Int) (r : List Int) (w : World) (hr0 : Kd.C (Kd.int .i64) w A0 l0.length l0) (hc0 : l0.length ≤ c0) (h : skew_keys.f k l0 a1 = some r) :
    Calls Tryz.prog 131 #[.slice A0 l0.length c0, .int .i64 a1] w fun e w' => ∃ v0_ : Value, e = .returned (v0_) ∧ Kd.R (Kd.int .i64) 3 w' w.heap.size (fun _ => True) v0_ r ∧ Below w.heap.size w w' := by
 have HR0 := Aside0.mk hr0
 have HC0 := Aside0.mk hc0
 clear hr0 hc0
 have HB := Aside0.mk (Below.refl w.heap.size w)
 have H := h
 clear h
 unfold skew_keys.f at H
 obtain ⟨c3b0, c3b1, H⟩ := ifE H
 obtain ⟨c4b0, c4b1, H⟩ := ifE H
 generalize hy224 : (List.replicate ((l0.length : Int) : Int).toNat 0 : List Int) = y224 at H
 try simp only [Option.bind_some] at H
 have Ny224 := Aside0.mk hy224.symm
 clear hy224
 have H' := Aside0.mk H
 clear H
 go_enter Tryz.func131, Tryz.ntmps131
 go_wp2_with (first | ((with_reducible refine gate_dst (N := 9) rfl ?_); refine Kd.R_make (Kd.int .i64) _ 3 rfl (N := 9) rfl 29 _ _ rfl (l0.length : Int) rfl rfl Tryz.underlying29 (.int .i64 0) 8 info3 rfl (by decide) (by omega) 0 (ok := fun _ => True) (okp := fun _ => True) rfl (fun _ hk => hk) trivial dT (Nat.le_trans (Nat.mul_le_mul_right _ (dT : (l0.length : Int).toNat ≤ 35184372088832)) (by omega)) (Below.refl _ _) (Nat.le_refl _) ?_; intro v225 w5 ho6 hb hg_ hnew_; clear hg_ hnew_; (first | rw [← Ny224.out] at ho6 | (simp only [Int.reduceToNat] at ho6; rw [← Ny224.out] at ho6)); have n0_ := Aside0.mk (Kd.R_lower ho6 (below_size uB)); have n1_ := Aside0.mk (below_step uB hb); clear HB; have HO226 := n0_; have HB := n1_; clear n0_ n1_; clear hb ho6; obtain ⟨Ao7, co7, eo7⟩ := Kd.R_slice HO226.out; subst eo7))
 go_loopg [12] k (fun kq v12 w' => ∃ (x5_1 : List Int) (x12_1 : Int), v12 = .int .i64 x12_1 ∧ Aside0 (skew_keys.l0 kq l0 a1 x5_1 (y224.length : Int) x12_1 = some r) ∧ Aside0 (kq ≤ k) ∧ Aside0 (Kd.R (Kd.int .i64) 3 w' w.heap.size (fun _ => True) (.slice Ao7 y224.length co7) x5_1) ∧ Aside0 (Below w.heap.size w w'))
 case atStart => exact ⟨(y224), (0), sD, H', ⟨Nat.le_refl _⟩, ⟨uR HO226.out⟩, ⟨uB⟩⟩
 case round =>
  clear H'
  obtain ⟨x5_1, x12_1, rfl, HA, HK1, HO_5, HB⟩ := hrel
  have hl5_1 := (Kd.R_reads' HO_5.out).1
  rw [hl5_1] at HO_5
  (try simp only [hl5_1])
  cases gk with
  | zero => exact absurd HA.out (by simp [skew_keys.l0])
  | succ k1 =>
   have H := HA.out
   clear HA
   simp only [skew_keys.l0] at H
   by_cases c8 : x12_1 < (y224.length : Int)
   ·rw [if_pos c8] at H
    have c8b0 : decide (x12_1 < (y224.length : Int)) = true := decide_eq_true c8
    clear c8
    obtain ⟨t227, A9, H⟩ := bdS H
    try dsimp only at H
    obtain ⟨c10b0, c11b0, H⟩ := ifD2 H
    generalize hy228 : (x5_1.set (x12_1 : Int).toNat t227 : List Int) = y228 at H
    try simp only [Option.bind_some] at H
    have Ny228 := Aside0.mk hy228.symm
    clear hy228
    have H' := Aside0.mk H
    clear H
    go_wp2_with (first | ((with_reducible refine gate_callee (f := 147) rfl ?_); refine goesL_ (some 21) rfl rfl Tryz.func147 (by kernel_rfl) rfl #[.slice A0 l0.length c0, .int .i64 (wrap64 (x12_1 + a1))] rfl aE ?_; (with_reducible refine (skew_key.calls _ _ l0 (wrap64 (x12_1 + a1)) t227 _ ?side1 ?side2 A9.out).mono ?_); (case side1 => exact uC (Kd.C_below HR0.out HB.out)); (case side2 => exact HC0.out); rintro e w' ⟨rfl, ⟨nd, rfl⟩⟩; refine ⟨_, rfl, ?_⟩; (try (rw [drewN_self wr]; generalize hq_ : World.drewN wr _ = wr; have n0_ : Aside0 (Kd.R (Kd.int .i64) 3 wr w.heap.size (fun _ => True) (.slice Ao7 x5_1.length co7) x5_1) := ⟨by rw [← hq_]; exact (uR HO_5.out)⟩; have n1_ : Aside0 (Below w.heap.size w wr) := ⟨by rw [← hq_]; exact uB⟩; clear HO_5 HB hq_; have HO_5 := n0_; have HB := n1_; clear n0_ n1_)); have p12 : 0 ≤ (x12_1 : Int) := dT; have q12 : (x12_1 : Int) < ((x5_1.length : Int) : Int) := dT; obtain ⟨go12, co12, eo12, gb12, gl12, cl12, HG12⟩ := Kd.R_form HO_5.out (by omega); (first | cases eo12 | (injection eo12 with ea_ en_ ec_; (first | subst ea_ | (injection ea_ with ea_; subst ea_)); subst ec_; clear en_)); have GB12 := Aside0.mk gb12; have GG12 := Aside0.mk HG12; clear gb12 gl12 HG12; obtain ⟨hx12_0, hf12_0⟩ := Kd.R_celln 0 HO_5.out (x12_1 : Int) p12 q12; replace p12 := eq_true p12; replace q12 := eq_true q12; obtain ⟨hy13_, hz13_⟩ := Kd.R_celln 0 HO_5.out (x12_1 : Int) dT dT; have HP13 := Kd.R_putg HO_5.out (x12_1 : Int) t227) | ((with_reducible refine gate_store (t := 3) (p := 22) rfl ?_); refine store_event (t := 3) (p := 22) (v := ?vo_w14) (w1 := (wr.setCell ⟨go12, (x12_1 : Int).toNat, none⟩ (.int .i64 t227))) ?hg ?ho ?hn ?hr ?_; (case ho => rfl); (case hg => rfl); (case hn => rfl); (case hr => first | (go_simp; done) | (go_simp; rfl)); intro w14 hw; have hg : wr.grownBy w14 (some go12) := (by rw [hw]; exact HP13.2); have hp_ : Kd.R (Kd.int .i64) 3 w14 w.heap.size (fun _ => True) (.slice (some ⟨go12, 0, none⟩) x5_1.length co7) y228 := (by rw [hw, Ny228.out]; exact HP13.1); clear HP13; have n0_ := Aside0.mk (hp_); have n1_ := Aside0.mk ((by rw [hw]; exact below_set (HB.out) GB12.out : Below w.heap.size w w14)); clear HO_5 HB; have HO_5 := n0_; have HB := n1_; clear n0_ n1_; clear hg hw hp_))
    (try simp only [← hl5_1])
    go_roundg k1
    case measure => have := HK1.out; omega
    case rel => exact ⟨(y228), (wrap64 (x12_1 + 1)), sD, H', ⟨by have := HK1.out; omega⟩, ⟨by (try simp only [hl5_1]); (with_reducible repeat (first | apply Kd.R_alloc | apply Kd.R_drewN | apply Kd.R_drew)); exact HO_5.out⟩, ⟨uB⟩⟩
   ·rw [if_neg c8] at H
    have c8b0 : decide (x12_1 < (y224.length : Int)) = false := decide_eq_false c8
    (try simp only [hl5_1] at c8b0)
    clear c8
    obtain rfl := Option.some.inj H
    go_wp2
    go_ret
    exact ⟨_, eR, uR HO_5.out, uB⟩
def skew_Sample.j0 : Nat → Int → Bool → Option (List Int)
  | 0, _, _ => none
  | k + 1, x0, x8 => if x8 = true then (some ([] : List Int)) else ((skew_places.f k x0 1).bind fun t229 => ((skew_places.f k x0 2).bind fun t232 => (if t229.length + t232.length < 17592186044416 then (some (t229 ++ t232)) else (none))))
def skew_Sample.f (k : Nat) (a0 : Int) : Option (List Int) := if a0 < 0 then (skew_Sample.j0 k a0 true) else (skew_Sample.j0 k a0 (decide (a0 > 100000)))
theorem skew_Sample.mono_l : ∀ k, (∀ y0 y1, LeO (skew_Sample.j0 k y0 y1) (skew_Sample.j0 (k + 1) y0 y1))
  | 0 => fun _ _ r h => by simp [skew_Sample.j0] at h
  | k + 1 => by
    have ih0 := skew_Sample.mono_l k
    · intro y0 y1
      unfold skew_Sample.j0
      have m0 := @skew_places.mono
      exact mB
theorem skew_Sample.mono : ∀ a0 k, LeO (skew_Sample.f k a0) (skew_Sample.f (k + 1) a0) := by
  intro a0 k
  have ih0 := skew_Sample.mono_l k
  unfold skew_Sample.f
  have m0 := @skew_places.mono
  exact mB
theorem skew_Sample.calls (k : Nat) (a0 : Int) (r : List Int) (w : World) (h : skew_Sample.f k a0 = some r) :
    Calls Tryz.prog 145 #[.int .i64 a0] w fun e w' => ∃ v0_ : Value, e = .returned (v0_) ∧ Kd.R (Kd.int .i64) 3 w' w.heap.size (fun _ => True) v0_ r ∧ Below w.heap.size w w' := by
 have HB := Aside0.mk (Below.refl w.heap.size w)
 have H := h
 clear h
 unfold skew_Sample.f at H
 have HC2 := Aside0.mk H
 clear H
 go_enter Tryz.func145, Tryz.ntmps145
 go_upto_region 1 with (fail)
 go_cut [8] (fun v8 wc => ∃ (kq : Nat) (x8_1 : Bool), v8 = .bool x8_1 ∧ Aside0 (skew_Sample.j0 kq a0 x8_1 = some r) ∧ Aside0 (kq ≤ k) ∧ Aside0 (Below w.heap.size w wc))
 case first =>
  have H := HC2.out
  clear HC2
  rcases ifC H with ⟨c3b0, H⟩ | ⟨c3b0, H⟩
  ·(first | rw [c3b0] | (simp only [i64_w, i32_w]; rw [c3b0]) | skip)
   have H' := Aside0.mk H
   clear H
   go_wp2
   go_meet
   case rel => exact ⟨_, (true), sD, H', ⟨by first | omega | exact Nat.le_refl _⟩, ⟨uB⟩⟩
  ·(first | rw [c3b0] | (simp only [i64_w, i32_w]; rw [c3b0]) | skip)
   have H' := Aside0.mk H
   clear H
   go_wp2
   go_meet
   case rel => exact ⟨_, (decide (a0 > 100000)), sD, H', ⟨by first | omega | exact Nat.le_refl _⟩, ⟨uB⟩⟩
 case rest =>
  clear HC2
  obtain ⟨kq, x8_1, rfl, HA, HJ1, HB⟩ := hcut
  cases kq with
  | zero => exact absurd HA.out (by simp [skew_Sample.j0])
  | succ kj1 =>
   have H := HA.out
   clear HA
   simp only [skew_Sample.j0] at H
   by_cases c4 : x8_1 = true
   ·subst c4
    rw [if_pos rfl] at H
    obtain rfl := Option.some.inj H
    go_wp2
    go_ret
    exact ⟨_, eR, nL, uB⟩
   ·replace c4 := Bool.eq_false_iff.mpr c4
    subst c4
    rw [if_neg (by decide)] at H
    obtain ⟨t229, A5, H⟩ := bdS H
    try dsimp only at H
    obtain ⟨t232, A6, H⟩ := bdS H
    try dsimp only at H
    obtain ⟨c7, H⟩ := ifP H
    have LMc7 := Aside0.mk c7
    clear c7
    generalize hy235 : (t229 ++ t232 : List Int) = y235 at H
    try simp only [Option.bind_some] at H
    have Ny235 := Aside0.mk hy235.symm
    clear hy235
    obtain rfl := Option.some.inj H
    go_wp2_with (first | ((with_reducible refine gate_callee (f := 129) rfl ?_); refine goesL_ (some 10) rfl rfl Tryz.func129 (by kernel_rfl) rfl #[.int .i64 a0, .int .i64 1] rfl aE ?_; (with_reducible refine (skew_places.calls kj1 a0 1 t229 _ A5.out).mono ?_); rintro e w8 ⟨v230, rfl, ho0, hb⟩; refine ⟨_, rfl, ?_⟩; have n0_ := Aside0.mk (Kd.R_lower ho0 (below_size uB)); have n1_ := Aside0.mk (below_step uB hb); clear HB; have HO231 := n0_; have HB := n1_; clear n0_ n1_) | ((with_reducible refine gate_callee (f := 129) rfl ?_); refine goesL_ (some 12) rfl rfl Tryz.func129 (by kernel_rfl) rfl #[.int .i64 a0, .int .i64 2] rfl aE ?_; (with_reducible refine (skew_places.calls kj1 a0 2 t232 _ A6.out).mono ?_); rintro e w9 ⟨v233, rfl, ho0, hb⟩; refine ⟨_, rfl, ?_⟩; have n0_ := Aside0.mk (Kd.R_elder' (uR HO231.out) (Kd.R_base ho0) hb); have n1_ := Aside0.mk (Kd.R_lower (Kd.R_new' ho0 (Kd.R_lt (uR HO231.out))) (below_size uB)); have n2_ := Aside0.mk (below_step uB hb); clear HO231 HB; have HO231 := n0_; have HO234 := n1_; have HB := n2_; clear n0_ n1_ n2_; obtain ⟨Ao11, co11, eo11⟩ := Kd.R_slice HO234.out; subst eo11) | ((with_reducible refine gate_builtin (b := .append) (xs := #[.tmp 10, .tmp 12]) rfl ?_); at_builtin; refine Kd.R_append_rows (Kd.int .i64) (w0 := w) w.heap.size rfl (.tmp 10) (.tmp 12) 29 3 (.int .i64 0) 8 rfl Tryz.underlying29 info3 rfl (by decide) (by omega) v230 t229 t232 _ _ _ (fun k_ => some k_ ≠ (.slice Ao11 t232.length co11 : Value).ownBlock) (fun _ => False) rfl rfl ?aO ?aR (fun _ _ h => h) (fun _ h => h.elim) ?aF ?aB ?aS ?aL ?_; (case aR => repeat (first | exact (Kd.R_reads' HO234.out).2.2 | (with_reducible refine Kd.C_alloc ?_ _) | (with_reducible refine Kd.C_drewN ?_ _) | (with_reducible refine Kd.C_drew ?_))); (case aB => exact uB); (case aF => exact (fun k_ hk => Kd.fresh' (Kd.R_lt (uR HO234.out)) k_ hk)); (case aO => exact (by (with_reducible repeat (first | apply Kd.R_alloc | apply Kd.R_drewN | apply Kd.R_drew)); exact Kd.R_mono HO231.out (fun _ hk => hk.2))); (case aS => exact (below_size uB)); (case aL => have := LMc7.out; omega); intro v236 w10 ho hb hg hat; rw [← Ny235.out] at ho; have n0_ := Aside0.mk (Kd.R_after (ok := (fun _ => True)) (uR HO234.out) hg hat); have n1_ := Aside0.mk (hb); have n2_ := Aside0.mk (ho); clear HO234 HB HO231; have HO234 := n0_; have HB := n1_; have HO237 := n2_; clear n0_ n1_ n2_; clear ho hb hg hat))
    go_ret
    exact ⟨_, eR, by (with_reducible repeat (first | apply Kd.R_alloc | apply Kd.R_drewN | apply Kd.R_drew)); exact Kd.R_mono HO237.out (fun _ hk => trivial), uB⟩
def skew_alike.l0 : Nat → List Int → Int → Int → Int → Option (Bool)
  | 0, _, _, _, _ => none
  | k + 1, x0, x1, x2, x8 => if x8 < 3 then ((skew_key.f x0 (wrap64 (x1 + x8))).bind fun t238 => ((skew_key.f x0 (wrap64 (x2 + x8))).bind fun t239 => (if t238 = t239 then (skew_alike.l0 k x0 x1 x2 (wrap64 (x8 + 1))) else (some false)))) else (some true)
def skew_alike.f (k : Nat) (l0 : List Int) (a1 : Int) (a2 : Int) : Option (Bool) := skew_alike.l0 k l0 a1 a2 0
theorem skew_alike.mono_l : ∀ k, (∀ y0 y1 y2 y3, LeO (skew_alike.l0 k y0 y1 y2 y3) (skew_alike.l0 (k + 1) y0 y1 y2 y3))
  | 0 => fun _ _ _ _ r h => by simp [skew_alike.l0] at h
  | k + 1 => by
    have ih0 := skew_alike.mono_l k
    · intro y0 y1 y2 y3
      unfold skew_alike.l0
      exact mB
theorem skew_alike.mono : ∀ a0 a1 a2 k, LeO (skew_alike.f k a0 a1 a2) (skew_alike.f (k + 1) a0 a1 a2) := by
  intro a0 a1 a2 k
  have ih0 := skew_alike.mono_l k
  unfold skew_alike.f
  exact mB
theorem skew_alike.calls (k : Nat) (A0 : Option Addr) (c0 : Nat) (l0 : List Int) (a1 : Int) (a2 : Int) (r : Bool) (w : World) (hr0 : Kd.C (Kd.int .i64) w A0 l0.length l0) (hc0 : l0.length ≤ c0) (h : skew_alike.f k l0 a1 a2 = some r) :
    Calls Tryz.prog 146 #[.slice A0 l0.length c0, .int .i64 a1, .int .i64 a2] w fun e w' => e = .returned (.bool r) ∧ Drawn0 w w' := by
 have HR0 := Aside0.mk hr0
 have HC0 := Aside0.mk hc0
 clear hr0 hc0
 have H := h
 clear h
 unfold skew_alike.f at H
 have H' := Aside0.mk H
 clear H
 go_enter Tryz.func146, Tryz.ntmps146
 go_wp2
 go_loopg [8] k (fun kq v8 w' => ∃ (x8_1 : Int), v8 = .int .i64 x8_1 ∧ Aside0 (skew_alike.l0 kq l0 a1 a2 x8_1 = some r) ∧ Aside0 (kq ≤ k) ∧ Drawn0 w w')
 case atStart => exact ⟨(0), sD, H', ⟨Nat.le_refl _⟩, dD⟩
 case round =>
  clear H'
  obtain ⟨x8_1, rfl, HA, HK1, ⟨m1, rfl⟩⟩ := hrel
  cases gk with
  | zero => exact absurd HA.out (by simp [skew_alike.l0])
  | succ k1 =>
   have H := HA.out
   clear HA
   simp only [skew_alike.l0] at H
   rcases ifC H with ⟨c4b0, H⟩ | ⟨c4b0, H⟩
   ·obtain ⟨t238, A5, H⟩ := bdS H
    try dsimp only at H
    obtain ⟨t239, A6, H⟩ := bdS H
    try dsimp only at H
    by_cases c7 : t238 = t239
    ·rw [if_pos c7] at H
     have c7b0 : (t238 == t239) = true := beq_iff_eq.mpr c7
     have c7b1 : (t238 != t239) = false := bne_eq_false_iff_eq.mpr c7
     clear c7
     have H' := Aside0.mk H
     clear H
     go_wp2_with (first | ((with_reducible refine gate_callee (f := 147) rfl ?_); refine goesL_ (some 15) rfl rfl Tryz.func147 (by kernel_rfl) rfl #[.slice A0 l0.length c0, .int .i64 (wrap64 (a1 + x8_1))] rfl aE ?_; (with_reducible refine (skew_key.calls _ _ l0 (wrap64 (a1 + x8_1)) t238 _ ?side1 ?side2 A5.out).mono ?_); (case side1 => exact uC HR0.out); (case side2 => exact HC0.out); rintro e w' ⟨rfl, ⟨nd, rfl⟩⟩; refine ⟨_, rfl, ?_⟩) | ((with_reducible refine gate_callee (f := 147) rfl ?_); refine goesL_ (some 20) rfl rfl Tryz.func147 (by kernel_rfl) rfl #[.slice A0 l0.length c0, .int .i64 (wrap64 (a2 + x8_1))] rfl aE ?_; (with_reducible refine (skew_key.calls _ _ l0 (wrap64 (a2 + x8_1)) t239 _ ?side1 ?side2 A6.out).mono ?_); (case side1 => exact uC HR0.out); (case side2 => exact HC0.out); rintro e w' ⟨rfl, ⟨nd, rfl⟩⟩; refine ⟨_, rfl, ?_⟩))
     go_roundg k1
     case measure => have := HK1.out; omega
     case rel => exact ⟨(wrap64 (x8_1 + 1)), sD, H', ⟨by have := HK1.out; omega⟩, dD⟩
    ·rw [if_neg c7] at H
     have c7b0 : (t238 == t239) = false := beq_eq_false_iff_ne.mpr c7
     have c7b1 : (t238 != t239) = true := bne_iff_ne.mpr c7
     obtain rfl := Option.some.inj H
     go_wp2_with (first | ((with_reducible refine gate_callee (f := 147) rfl ?_); refine goesL_ (some 15) rfl rfl Tryz.func147 (by kernel_rfl) rfl #[.slice A0 l0.length c0, .int .i64 (wrap64 (a1 + x8_1))] rfl aE ?_; (with_reducible refine (skew_key.calls _ _ l0 (wrap64 (a1 + x8_1)) t238 _ ?side1 ?side2 A5.out).mono ?_); (case side1 => exact uC HR0.out); (case side2 => exact HC0.out); rintro e w' ⟨rfl, ⟨nd, rfl⟩⟩; refine ⟨_, rfl, ?_⟩) | ((with_reducible refine gate_callee (f := 147) rfl ?_); refine goesL_ (some 20) rfl rfl Tryz.func147 (by kernel_rfl) rfl #[.slice A0 l0.length c0, .int .i64 (wrap64 (a2 + x8_1))] rfl aE ?_; (with_reducible refine (skew_key.calls _ _ l0 (wrap64 (a2 + x8_1)) t239 _ ?side1 ?side2 A6.out).mono ?_); (case side1 => exact uC HR0.out); (case side2 => exact HC0.out); rintro e w' ⟨rfl, ⟨nd, rfl⟩⟩; refine ⟨_, rfl, ?_⟩))
     go_ret
     exact ⟨sD, dD⟩
   ·obtain rfl := Option.some.inj H
    go_wp2
    go_ret
    exact ⟨sD, dD⟩
end Go.Proofs.YtbbpplnnegdenaaGreat.PTopBij
end
