/- Words, functions, walks and plain mathematics for TopTurns, part 4: laid together by a program of this session (pack.py). -/
import Derived.Test.YtbbpplnnegdenaaGreatKTopTurnsc
import Derived.Lib.SlBytesConst
import Derived.RegionCalls
import Derived.Laws.MathBits
import Derived.Lib.SliceRun
import Derived.Lib.BytesEntry
import Derived.Laws.StructEq
set_option linter.unusedVariables false
set_option linter.unusedSimpArgs false
set_option maxHeartbeats 8000000
set_option maxRecDepth 100000
section
namespace Go.Proofs.YtbbpplnnegdenaaGreat.Bd
open Go Go.RowKit Go.Shelf Go.Proofs Go.Sort Go.Maps Go.Proofs.YtbbpplnnegdenaaGreatW.PrintWords Go.Proofs.YtbbpplnnegdenaaGreat.So Go.Proofs.YtbbpplnnegdenaaGreat.St Go.Proofs.YtbbpplnnegdenaaGreat.Mo Go.Proofs.YtbbpplnnegdenaaGreat.It Go.Proofs.YtbbpplnnegdenaaGreat.Oa Go.Proofs.YtbbpplnnegdenaaGreat.Bt Go.Proofs.YtbbpplnnegdenaaGreat.Bb Go.Proofs.YtbbpplnnegdenaaGreat.Bc
attribute [local go_sem] Oper.semAt_some
theorem range_rows {F : Fence} {n : Nat} {P : Program} {w : World} {g : Operand} {ps : Array Tmp} {assign body : Code} {Q : Exit → Act → World → Prop} {a : Act} (i j m : Nat)
  (hro : F.round = none) (h1 : 1 ≤ n) {gf : Nat} {lb : Array Value} (hg : a.eval g = .func (.func gf) #[] lb) (hFg : F.fn gf) (eg : ∀ args w, (callFunc gf args).run P w = .ok (.enter gf args) w)
  {vals : Nat → Array Value} {N : Nat} {Kp : World → World → Prop} (x y : Nat → Value) (hv : ∀ k, vals k = #[x k, y k]) (hps : ps.size = 2)
  (hKt : ∀ {A B C : World}, Kp A B → Kp B C → Kp A C) (hKb : ∀ (W : World) (l : Nat) (o o' : Obj), w.heap.size ≤ l → W.heap[l]? = some o → o.isCells = false → o.isWalk = false → Kp W (W.putObj l o'))
  (I : Nat → World → Prop) (hIa : ∀ W o, I 0 W → I 0 (W.alloc o)) (hIp : ∀ k W l o o', I k W → w.heap.size ≤ l → W.heap[l]? = some o → o.isCells = false → I k (W.putObj l o')) (h0 : I 0 w)
  (hseq : Rg.Gives F (n - 1) P gf lb vals N Kp w)
  (hassign : ∀ (l k : Nat) (W : World) (K : Act → World → Prop), K { tmps := ((a.tmps.setIfInBounds i (x k)).setIfInBounds j (y k)).setIfInBounds m (y k), defers := [] } W →
   assign.wpIn (F.inRound l) (n - 1 - 1) P (Exit.then K (fun _ _ _ => False)) { tmps := (ps.zip #[x k, y k]).foldl (fun t (p, v) => t.setIfInBounds p v) a.tmps, defers := [] } W)
  (hbody : ∀ (l k : Nat) (W : World), w.heap.size ≤ l → (∃ r, W.heap[l]? = some (.loop r)) → k < N → I k W → body.wpIn (F.inRound l) (n - 1 - 1) P (fun e _ W' => e = .normal ∧ KeepsFrom w.heap.size W W' ∧ Kp W W' ∧ I (k + 1) W')
   { tmps := ((a.tmps.setIfInBounds i (x k)).setIfInBounds j (y k)).setIfInBounds m (y k), defers := [] } W)
  (hdone : ∀ (D : Nat) (W : World), w.heap.size ≤ D → I N W → W.heap[D]? = some (.deferred (some [])) → Q .normal { a with defers := { target := .collected D, args := #[] } :: a.defers } W) :
  (Code.rangeFunc g ps assign body).wpIn F n P Q a w :=
 Rg2.range_H (Kp := Kp) hro h1 hg hFg eg (fun k => by rw [hv, hps]; rfl) hKt hKb I hIa hIp h0 hseq (fun k => { tmps := ((a.tmps.setIfInBounds i (x k)).setIfInBounds j (y k)).setIfInBounds m (y k), defers := [] }) (fun l k W K hK => by rw [hv]; exact hassign l k W K hK) hbody hdone
theorem range_ints {F : Fence} {n : Nat} {P : Program} {w : World} {g : Operand} {ps : Array Tmp} {assign body : Code} {Q : Exit → Act → World → Prop} {a : Act} (i j m : Nat) {l₀ : Nat} {r₀ : Loop}
  (hro : F.round = some l₀) (hl₀ : w.heap[l₀]? = some (.loop r₀)) (h1 : 1 ≤ n) {gf : Nat} {lb : Array Value} (hg : a.eval g = .func (.func gf) #[] lb) (hFg : F.fn gf) (eg : ∀ args w, (callFunc gf args).run P w = .ok (.enter gf args) w)
  {vals : Nat → Array Value} {N : Nat} {Kp : World → World → Prop} (x y : Nat → Value) (hv : ∀ k, vals k = #[x k, y k]) (hps : ps.size = 2)
  (hKt : ∀ {A B C : World}, Kp A B → Kp B C → Kp A C) (hKb : ∀ (W : World) (l : Nat) (o o' : Obj), w.heap.size ≤ l → W.heap[l]? = some o → o.isCells = false → o.isWalk = false → Kp W (W.putObj l o'))
  (I : Nat → World → Prop) (hIa : ∀ W o, I 0 W → I 0 (W.alloc o)) (hIp : ∀ k W l o o', I k W → w.heap.size ≤ l → W.heap[l]? = some o → o.isCells = false → I k (W.putObj l o')) (h0 : I 0 w)
  (hseq : Rg.Gives F (n - 1) P gf lb vals N Kp w)
  (hassign : ∀ (l k : Nat) (W : World) (K : Act → World → Prop), K { tmps := ((a.tmps.setIfInBounds i (x k)).setIfInBounds j (y k)).setIfInBounds m (y k), defers := [] } W →
   assign.wpIn (F.inRound l) (n - 1 - 1) P (Exit.then K (fun _ _ _ => False)) { tmps := (ps.zip #[x k, y k]).foldl (fun t (p, v) => t.setIfInBounds p v) a.tmps, defers := [] } W)
  (hbody : ∀ (l k : Nat) (W : World), k < N → I k W → body.wpIn (F.inRound l) (n - 1 - 1) P (fun e _ W' => e = .normal ∧ KeepsFrom w.heap.size W W' ∧ Kp W W' ∧ I (k + 1) W')
   { tmps := ((a.tmps.setIfInBounds i (x k)).setIfInBounds j (y k)).setIfInBounds m (y k), defers := [] } W)
  (hdone : ∀ (W : World), I N W → Q .normal a W) :
  (Code.rangeFunc g ps assign body).wpIn F n P Q a w :=
 Rg2.range_N (Kp := Kp) hro hl₀ h1 hg hFg eg (fun k => by rw [hv, hps]; rfl) hKt hKb I hIa hIp h0 hseq (fun k => { tmps := ((a.tmps.setIfInBounds i (x k)).setIfInBounds j (y k)).setIfInBounds m (y k), defers := [] }) (fun l k W K hK => by rw [hv]; exact hassign l k W K hK) hbody hdone
theorem rows_step (s : List Int) {cs : List (List Int)} {k : Nat} (hk : k < cs.length) : ((cs.reverse.take (k + 1)).map (rowL s)).flatten = ((cs.reverse.take k).map (rowL s)).flatten ++ rowL s (cs.getD (cs.length - 1 - k) []) := by
 have hr : k < cs.reverse.length := by rw [List.length_reverse]; exact hk
 rw [List.take_succ_eq_append_getElem hr, List.map_append, List.flatten_append, List.getElem_reverse, List.getD_eq_getElem?_getD, List.getElem?_eq_getElem (by omega)]
 simp
theorem rows_le (s : List Int) (cs : List (List Int)) (k : Nat) : (((cs.reverse.take k).map (rowL s)).flatten).length ≤ (backL s cs).length := by
 unfold backL
 have h : cs.reverse.map (rowL s) = (cs.reverse.take k).map (rowL s) ++ (cs.reverse.drop k).map (rowL s) := by rw [← List.map_append, List.take_append_drop]
 rw [h, List.flatten_append, List.length_append]
 exact Nat.le_add_right _ _
theorem back_main (n : Nat) (hn : 6 ≤ n) {W : World} {Al : Option Addr} {cl : Nat} {s p : List Int} {cs : List (List Int)} (hs : Kd.C (Kd.int .u8) W Al s.length s) (hsl : s.length ≤ 100000) (hcl : s.length ≤ cl)
  (hcs : ∀ c, c ∈ cs → ∀ x, x ∈ c → 0 ≤ x ∧ x < s.length) (hct : cs.length ≤ 100000) (hcr : ∀ c, c ∈ cs → c.length ≤ 100000) (hout : (backL s cs).length ≤ 100000)
  (hOf : ∀ W, Kd.C (Kd.int .u8) W Al s.length s → Calls Tryz.prog 42 #[.slice Al s.length cl] W fun e W' => ∃ v, e = .returned v ∧ Kd.R (Kd.int .i64) 3 W' W.heap.size (fun _ => True) v p ∧ Below W.heap.size W W')
  (hCyc : ∀ W A c, p.length ≤ c → Kd.C (Kd.int .i64) W A p.length p → Calls Tryz.prog 41 #[.slice A p.length c] W fun e W' => ∃ v, e = .returned (.tuple #[v, .bool true]) ∧ Kd.R (Kd.slice 3 (Kd.int .i64)) 29 W' W.heap.size (fun _ => True) v cs ∧ Below W.heap.size W W') :
  CallsIn Fence.wide n Tryz.prog 14 #[.slice Al s.length cl] W fun e W' => ∃ v, e = .returned (.tuple #[v, .int .i64 0]) ∧ Kd.R (Kd.int .u8) 5 W' W.heap.size (fun _ => True) v (backL s cs) ∧ Below W.heap.size W W' := by
 have h1 : 1 ≤ n := by omega
 refine callsIn_of_wp_marks Tryz.func14 rfl trivial ?_ rfl
 simp only [Tryz.ntmps14, List.size_toArray, List.length_cons, List.length_nil, Nat.reduceAdd, Nat.reduceSub, Array.replicate_succ, Array.replicate_zero, List.push_toArray, List.append_toArray, List.nil_append, List.cons_append]
 have HS := Aside0.mk hs
 have HOF := Aside0.mk hOf
 have HCY := Aside0.mk hCyc
 have HCS := Aside0.mk hcs
 have HCR := Aside0.mk hcr
 have HOUT := Aside0.mk hout
 clear hs hOf hCyc hcs hcr hout
 obtain ⟨w0, hw0⟩ : ∃ w0, W.alloc (.cells #[.slice Al s.length cl] 22) = w0 := ⟨_, rfl⟩
 have b0 : Below W.heap.size W w0 := by rw [← hw0]; exact (Below.refl _ W).alloc (Nat.le_refl _) _
 have g0 : w0.heap[W.heap.size]? = some (.cells #[.slice Al s.length cl] 22 (0, 0)) := by rw [← hw0]; exact World.alloc_heap_new W _
 have c0 : w0.cell? ⟨W.heap.size, 0, none⟩ = some (.slice Al s.length cl) := blk_cell g0 0
 have z0 : w0.heap.size = W.heap.size + 1 := by rw [← hw0]; simp
 gi_wp2_with (fail)
 try rw [hw0]
 refine ⟨trivial, (callsIn_wide.2 (HOF.out w0 (Kd.C_below HS.out b0))).mono ?_⟩
 rintro e w1 ⟨v1, rfl, r1, b1⟩
 obtain ⟨A1, k1, rfl, hk1, rC1⟩ := Kd.R_reads r1
 have cY := HCY.out w1 A1 k1 hk1 rC1
 clear r1 rC1
 gi_wp2_with (fail)
 refine ⟨trivial, (callsIn_wide.2 cY).mono ?_⟩
 clear cY
 rintro e w2 ⟨v2, rfl, r2, b2⟩
 obtain ⟨A2, k2, rfl, hk2, rC2⟩ := Kd.R_reads r2
 obtain ⟨hs, hH, hIn⟩ := heads_of rC2
 have b02 : Below W.heap.size W w2 := b0.trans ((b1.mono (by omega)).trans (b2.mono (by have := b1.size; omega)))
 have g2 : w2.heap[W.heap.size]? = some (.cells #[.slice Al s.length cl] 22 (0, 0)) := (b2.block _ (by have := b1.size; omega)).trans ((b1.block _ (by omega)).trans g0)
 have HC2 := Aside0.mk (Kd.C_below HS.out b02)
 have HH := Aside0.mk hH
 have HIN := Aside0.mk hIn
 have B2 := Aside0.mk b02
 have G2 := Aside0.mk g2
 clear r2 rC2 hH hIn b1 b2 b0 b02 g0 g2 c0
 gi_wp2_with (fail)
 obtain ⟨w3, hw3⟩ : ∃ w3, (w2.alloc (.cells #[] 5)).alloc (.cells #[.slice (some ⟨w2.heap.size, 0, none⟩) 0 0] 22) = w3 := ⟨_, rfl⟩
 rw [hw3]
 have g3 : w3.heap[w2.heap.size + 1]? = some (.cells #[.slice (some ⟨w2.heap.size, 0, none⟩) 0 0] 22 (0, 0)) := by
  have h := World.alloc_heap_new (w2.alloc (.cells #[] 5)) (.cells #[.slice (some ⟨w2.heap.size, 0, none⟩) 0 0] 22)
  rw [World.size_alloc] at h
  rw [← hw3]; exact h
 have z3 : w3.heap.size = w2.heap.size + 2 := by rw [← hw3]; simp
 have o3 : Out w2 (w2.heap.size + 1) w3 [] := by
  refine ⟨by rw [← hw3]; exact ((Below.refl _ w2).alloc (Nat.le_refl _) _).alloc (by simp) _, by omega, _, g3, ?_⟩
  rw [← hw3]
  exact Kd.R_below (Kd.R_of_own (enc := Value.int .u8) (xs := []) (own_lit w2 w2.heap.size 5 .u8 [] (Nat.le_refl _) (by simp)) (fun _ _ => trivial)) ((Below.refl _ _).alloc (Nat.le_refl _) _)
 have gr23 : Gr w2 w3 := by rw [← hw3]; exact (Gr.alloc _ _).trans (Gr.alloc _ _)
 clear hw3 g3
 refine ⟨trivial, (backS_in Fence.wide (n - 1) trivial rfl A2 cs.length k2 w3).mono ?_⟩
 rintro e w4 ⟨rfl, ew4⟩
 have gr34 : Gr w3 w4 := by rw [ew4]; exact Gr.alloc _ _
 have g4 : w4.heap[w3.heap.size]? = some (.cells #[.slice A2 cs.length k2] 72 (0, 0)) := by rw [ew4]; exact World.alloc_heap_new w3 _
 have z4 : w4.heap.size = w3.heap.size + 1 := by rw [ew4]; simp
 clear ew4
 have o4 := o3.gr gr34
 have gr24 := gr23.trans gr34
 have hlen := HIN.out.len
 have hgive := backS_gives Fence.wide (n - 1) trivial rfl (by omega) w3.heap.size k2 A2 hs (by rw [hlen]; omega) w4 (by omega) (by rw [hlen]; exact blk_cell g4 0) (by rw [hlen]; exact C_le HH.out gr24.le)
 obtain ⟨bf, hbf, hbf2, hgive⟩ := hgive
 rw [z3] at g4 hgive
 have G4 := Aside0.mk g4
 have GR24 := Aside0.mk gr24
 clear g4
 gi_wp2_with (fail)
 refine range_rows 23 24 8 (Kp := Keep2 bf (w2.heap.size + 2)) rfl h1 (gf := 73) (lb := #[.pointer (some ⟨(w2.heap.size + 2), 0, none⟩)]) rfl trivial (enters_of Tryz.func73 (by kernel_rfl) rfl)
  (fun k => .int .i64 ((hs.length - 1 - k : Nat) : Int)) (fun k => encH (hs.getD (hs.length - 1 - k) (none, 0, 0))) (fun k => rfl) rfl Keep2.trans (keep2_b hbf (by omega))
  (fun k W => Out w2 (w2.heap.size + 1) W ((cs.reverse.take k).map (rowL s)).flatten ∧ W.heap[(w2.heap.size + 2)]? = some (.cells #[.slice A2 cs.length k2] 72 (0, 0)))
  ?_ ?_ ?_ hgive ?_ ?_ ?_
 ·rintro W o ⟨h1, h2⟩
  exact ⟨h1.gr (Gr.alloc _ _), ((Gr.alloc W o).keep.block _ (blk_lt h2) (by simp)).trans h2⟩
 ·rintro k W l o o' ⟨h1, h2⟩ hl ho hc
  exact ⟨h1.putObj l o o' (by omega) ho hc, (World.putObj_heap_other (by omega)).trans h2⟩
 ·exact ⟨o4, G4.out⟩
 ·intro l k W K hK
  generalize ((hs.length - 1 - k : Nat) : Int) = p at *
  generalize hs.getD (hs.length - 1 - k) (none, 0, 0) = x at *
  unfold encH at *
  gi_wp2
  exact hK
 ·rintro l k W5 hl ⟨r5, hr5⟩ hk ⟨hO, hB⟩
  rw [hlen] at hk
  have hIn2 := HIN.out.le (CellLe.below hO.K)
  obtain ⟨B, cc, hhd, hcc, hCB⟩ := hIn2.each (cs.length - 1 - k) (by omega)
  have hrs := rows_step s hk
  obtain ⟨c, hc⟩ : ∃ c, cs.getD (cs.length - 1 - k) [] = c := ⟨_, rfl⟩
  rw [hc] at hhd hcc hCB hrs
  have hcm : c ∈ cs := by
   rw [← hc, List.getD_eq_getElem?_getD, List.getElem?_eq_getElem (show cs.length - 1 - k < cs.length by omega)]
   exact List.getElem_mem _
  rw [← hlen] at hhd
  rw [hhd]
  have HRS := Aside0.mk hrs
  have HCM := Aside0.mk hcm
  have HCB := Aside0.mk hCB
  have HO := Aside0.mk hO
  have HB := Aside0.mk hB
  have HR5 := Aside0.mk hr5
  have HL := Aside0.mk hl
  have HHD := Aside0.mk hhd
  have HC := Aside0.mk hc
  generalize ((hs.length - 1 - k : Nat) : Int) = p0 at *
  clear hrs hcm hCB hO hB hr5 hl hIn2 hhd hc
  unfold encH
  dsimp only
  gi_wp2_with (fail)
  refine ⟨trivial, fun _ => by omega, (CallsIn.inRound l (backward_in Fence.wide (n - 1 - 1 - 1) trivial rfl B c.length cc W5)).mono ?_⟩
  rintro e W6 ⟨rfl, eW6⟩
  have gr56 : Gr W5 W6 := by rw [eW6]; exact Gr.alloc _ _
  have gB6 : W6.heap[W5.heap.size]? = some (.cells #[.slice B c.length cc] 29 (0, 0)) := by rw [eW6]; exact World.alloc_heap_new W5 _
  have z6 : W6.heap.size = W5.heap.size + 1 := by rw [eW6]; simp
  clear eW6
  have hr6 : W6.heap[l]? = some (.loop r5) := (gr56.keep.block l (blk_lt HR5.out) (by simp)).trans HR5.out
  have o6 := HO.out.gr gr56
  have HC2B := Aside0.mk (show Kd.C (Kd.int .i64) w2 B c.length c from by
   obtain ⟨B', c', e1, e2, e3⟩ := HIN.out.each (cs.length - 1 - k) (by omega)
   rw [HC.out] at e1 e3
   have e0 := HHD.out
   rw [hlen] at e0
   rw [e0] at e1
   injection e1 with e1 _
   rw [e1]; exact e3)
  have hgv : ∃ bi, bi < W6.heap.size ∧ (c ≠ [] → bi < w2.heap.size) ∧ Rg.Gives (Fence.wide.inRound l) (n - 1 - 1 - 1) Tryz.prog 74 #[.pointer (some ⟨W5.heap.size, 0, none⟩)] (bk c) c.length (Keep2 bi W5.heap.size) W6 := by
   by_cases h0 : c = []
   ·subst h0
    exact ⟨W5.heap.size, by omega, fun h => absurd rfl h, backward_gives_nil Fence.wide (n - 1 - 1 - 1) trivial rfl W5.heap.size cc _ B W6 (by omega) (blk_cell gB6 0)⟩
   ·have hpos : 0 < c.length := List.length_pos_iff.2 h0
    obtain ⟨ad, rfl, hc0⟩ := C_at HC2B.out 0 hpos
    have hb := World.block_lt_of_cell? w2 _ hc0
    rw [It.add_block] at hb
    have hle : CellLe w2 W6 := CellLe.below o6.K
    refine ⟨ad.block, by have := o6.size; omega, fun _ => hb, backward_gives Fence.wide (n - 1 - 1 - 1) trivial rfl (by omega) W5.heap.size cc ad c (by have := HCR.out c HCM.out; omega) W6 (by omega) (by have := o6.size; omega) (blk_cell gB6 0) (fun j hj => ?_)⟩
    obtain ⟨ad', e, hcj⟩ := C_at HC2B.out 0 hj
    injection e with e
    subst e
    have := hle _ _ hcj
    rw [List.getD_eq_getElem?_getD] at this
    exact this
  obtain ⟨bi, hbi, hbi2, hgv⟩ := hgv
  have hbfw : bf < w2.heap.size := by
   obtain ⟨ad, e, hcj⟩ := C_at HH.out (none, 0, 0) (show 0 < cs.length by omega)
   have := World.block_lt_of_cell? w2 _ hcj
   rw [It.add_block, hbf2 ad e (by omega)] at this
   exact this
  have GB6 := Aside0.mk gB6
  have HR6 := Aside0.mk hr6
  have O6 := Aside0.mk o6
  have G56 := Aside0.mk gr56
  obtain ⟨os0, hos0⟩ : ∃ x, ((cs.reverse.take k).map (rowL s)).flatten = x := ⟨_, rfl⟩
  rw [hos0] at O6 HRS HO
  have hl5 := HO.out.lt
  clear hr6 gB6 o6 gr56 hos0
  gi_wp2_with (fail)
  refine range_ints 27 28 10 (Kp := Keep2 bi W5.heap.size) rfl HR6.out (by omega) (gf := 74) (lb := #[.pointer (some ⟨W5.heap.size, 0, none⟩)]) rfl trivial (enters_of Tryz.func74 (by kernel_rfl) rfl)
   (fun k => .int .i64 ((c.length - 1 - k : Nat) : Int)) (fun k => .int .i64 (c[c.length - 1 - k]?.getD 0)) (fun k => rfl) rfl Keep2.trans (keep2_b hbi (by omega))
   (fun j W => Out w2 (w2.heap.size + 1) W (os0 ++ (rowL s c).take j) ∧ W.heap[w2.heap.size + 2]? = some (.cells #[.slice A2 cs.length k2] 72 (0, 0)) ∧ W.heap[W5.heap.size]? = some (.cells #[.slice B c.length cc] 29 (0, 0)) ∧ KeepsFrom w4.heap.size W5 W)
   ?_ ?_ ?_ hgv ?_ ?_ ?_
  ·rintro W o ⟨h1, h2, h3, h4⟩
   refine ⟨h1.gr (Gr.alloc _ _), ((Gr.alloc W o).keep.block _ (blk_lt h2) (by simp)).trans h2, ((Gr.alloc W o).keep.block _ (blk_lt h3) (by simp)).trans h3, h4.trans ?_⟩
   exact ⟨(Gr.alloc W o).below.size, fun k o1 _ ho _ => ((Gr.alloc W o).keep.block _ (blk_lt ho) (by simp)).trans ho⟩
  ·rintro j W lx o o' ⟨h1, h2, h3, h4⟩ hlx ho hc
   refine ⟨h1.putObj lx o o' (by omega) ho hc, (World.putObj_heap_other (by omega)).trans h2, (World.putObj_heap_other (by omega)).trans h3, ⟨by simp; exact h4.size, fun k o1 hk ho1 hc1 => ?_⟩⟩
   exact (World.putObj_heap_other (by have := blk_lt ho1; omega)).trans (h4.same k o1 hk ho1 hc1)
  ·refine ⟨by rw [List.take_zero, List.append_nil]; exact O6.out, (G56.out.keep.block _ (blk_lt HB.out) (by simp)).trans HB.out, GB6.out, ?_⟩
   exact ⟨G56.out.below.size, fun k o1 _ ho _ => (G56.out.keep.block _ (blk_lt ho) (by simp)).trans ho⟩
  ·intro l j W K hK
   generalize ((c.length - 1 - j : Nat) : Int) = p at *
   generalize c[c.length - 1 - j]?.getD 0 = x at *
   gi_wp2
   exact hK
  ·rintro l2 j W7 hj ⟨hO7, hB7, hX7, hK7⟩
   refine wpIn_block ?_
   obtain ⟨v, gB, rV⟩ := hO7.V
   obtain ⟨q, hq⟩ : ∃ q, (os0 ++ (rowL s c).take j).length = q := ⟨_, rfl⟩
   obtain ⟨Av, cv, rfl⟩ := Kd.R_slice rV
   rw [hq] at rV gB
   have hxm : c[c.length - 1 - j]?.getD 0 ∈ c := by
    rw [List.getElem?_eq_getElem (by omega)]; exact List.getElem_mem _
   have hx := HCS.out c HCM.out _ hxm
   have hrow : (rowL s c).take (j + 1) = (rowL s c).take j ++ [s.getD (c[c.length - 1 - j]?.getD 0).toNat 0] := by
    unfold rowL
    have hr : j < (c.reverse.map (fun i => s.getD i.toNat 0)).length := by rw [List.length_map, List.length_reverse]; exact hj
    rw [List.take_succ_eq_append_getElem hr, List.getElem_map, List.getElem_reverse, List.getElem?_eq_getElem (show c.length - 1 - j < c.length by omega)]
    rfl
   obtain ⟨xn, hxn⟩ : ∃ xn : Nat, c[c.length - 1 - j]?.getD 0 = (xn : Int) := ⟨(c[c.length - 1 - j]?.getD 0).toNat, by omega⟩
   rw [hxn, Int.toNat_natCast] at hrow
   rw [hxn] at hx
   have hle7 : CellLe w2 W7 := CellLe.below hO7.K
   obtain ⟨al, rfl, cX0⟩ := C_at HC2.out 0 (show xn < s.length by omega)
   obtain ⟨yv, hyv⟩ : ∃ y, s.getD xn 0 = y := ⟨_, rfl⟩
   rw [hyv] at cX0 hrow
   have cX := hle7 _ _ cX0
   have c6 : W7.cell? ⟨w2.heap.size + 1, 0, none⟩ = some (.slice Av q cv) := blk_cell gB 0
   have c1 : W7.cell? ⟨W.heap.size, 0, none⟩ = some (.slice (some al) s.length cl) := blk_cell ((hO7.K.block _ (blk_lt G2.out)).trans G2.out) 0
   have GB7 := Aside0.mk gB
   have RV7 := Aside0.mk rV
   have HO7 := Aside0.mk hO7
   have HB7 := Aside0.mk hB7
   have HX7 := Aside0.mk hX7
   have HK7 := Aside0.mk hK7
   have HQ := Aside0.mk hq
   have HROW := Aside0.mk hrow
   have hxl : xn < s.length := by omega
   have hqs : q + 1 ≤ 100001 := by
    have h1 := rows_le s cs (k + 1)
    rw [HRS.out] at h1
    have h2 := HOUT.out
    have h3 := HQ.out
    rw [List.length_append] at h1 h3
    have h4 : ((rowL s c).take j).length ≤ (rowL s c).length := by rw [List.length_take]; exact Nat.min_le_right _ _
    omega
   rw [hxn]
   generalize ((c.length - 1 - j : Nat) : Int) = p1 at *
   clear gB rV hO7 hB7 hX7 hK7 hq hrow hx hxm hxn hyv cX0
   simp only [List.setIfInBounds_toArray, List.set_cons_succ, List.set_cons_zero]
   refine Rt.region_any_in (fun _ => trivial) (by rintro ⟨_, _, h, _⟩; cases h) (by kernel_rfl) (by kernel_rfl) ?_
   change wpAny _ _ _ _ 8 #[false, false, false, false, false, false, false, false] _ _
   have O8 := Aside0.mk (HO7.out.gr (Gr.drew W7))
   have GB8 := Aside0.mk (((Gr.drew W7).keep.block _ (blk_lt GB7.out) (by simp)).trans GB7.out)
   have RV8 := Aside0.mk (Kd.R_drew RV7.out)
   have HLEN : Aside0 (((os0 ++ (rowL s c).take j) ++ [yv]).length = q + 1) := ⟨by rw [List.length_append, HQ.out]; rfl⟩
   have cA : (W7.alloc (.cells #[.int .u8 yv] 5)).cell? ⟨w2.heap.size + 1, 0, none⟩ = some (.slice Av q cv) := cell_gr (Gr.alloc _ _) c6
   have FIN : Aside0 (∀ (a : Act) (W9 : World), (Out w2 (w2.heap.size + 1) W9 ((os0 ++ (rowL s c).take j) ++ [yv]) ∧ W7.drew.heap.size ≤ W9.heap.size ∧ ∀ k o, W7.drew.heap[k]? = some o → k ≠ w2.heap.size + 1 → (∀ cs, o ≠ .cells cs 5 (0, 0)) → W9.heap[k]? = some o) →
    (Exit.inBlock 3 fun e x W' => e = Exit.normal ∧ KeepsFrom W6.heap.size W7 W' ∧ Keep2 bi W5.heap.size W7 W' ∧ Out w2 (w2.heap.size + 1) W' (os0 ++ List.take (j + 1) (rowL s c)) ∧
     W'.heap[w2.heap.size + 2]? = some (.cells #[.slice A2 cs.length k2] 72 (0, 0)) ∧ W'.heap[W5.heap.size]? = some (.cells #[.slice B c.length cc] 29 (0, 0)) ∧ KeepsFrom w4.heap.size W5 W') .normal a W9) := ⟨by
    rintro a W9 ⟨hO, hsz, hk⟩
    have hkeep : ∀ (k : Nat) (o : Obj), W7.heap[k]? = some o → o.isCells = false → W9.heap[k]? = some o := fun k o ho hc => hk k o ho (by
     rintro rfl
     have := GB7.out
     rw [ho] at this
     cases this; cases hc) (by rintro cs rfl; cases hc)
    have hX9 := hk W5.heap.size _ HX7.out (by have := HO.out.lt; omega) (by intro cs h; cases h)
    have hB9 := hk (w2.heap.size + 2) _ HB7.out (by omega) (by intro cs h; cases h)
    refine show (_ ∧ _) from ⟨rfl, ⟨hsz, fun k o _ ho hc => hkeep k o ho hc⟩, ⟨?_, hX9.trans HX7.out.symm⟩, by rw [HROW.out, ← List.append_assoc]; exact hO, hB9, hX9, HK7.out.trans ⟨hsz, fun k o _ ho hc => hkeep k o ho hc⟩⟩
    have hne : c ≠ [] := by rintro rfl; simp at hj
    exact (hO.K.block bi (hbi2 hne)).trans (HO7.out.K.block bi (hbi2 hne)).symm⟩
   refine wpAny_take (i := 2) (v := .int .i64 xn) rfl (by kernel_rfl) (by kernel_rfl) (by kernel_rfl) (fun _ _ _ h => h) (Or.inl ⟨by rfl, ?_⟩) ?_
   ·intro w; go_simp
   refine wpAny_ready (rs := [0, 1]) (by kernel_rfl) (by simp) ?_
   refine AllReady.cons rfl (fun K hK => ?_) ?_
   ·go_simp
    refine hK _ _ ?_; clear hK K
    refine wpAny_ready (rs := [1]) (by kernel_rfl) (by simp) ?_
    refine AllReady.cons rfl (fun K hK => ?_) ?_
    ·go_simp
     refine hK _ _ ?_; clear hK K
     refine wpAny_ready (rs := [3]) (by kernel_rfl) (by simp) ?_
     refine AllReady.cons rfl (fun K hK => ?_) ?_
     ·go_simp
      refine hK _ _ ?_; clear hK K
      refine wpAny_ready (rs := [4]) (by kernel_rfl) (by simp) ?_
      refine AllReady.cons rfl (fun K hK => ?_) ?_
      ·go_simp
       refine hK _ _ ?_; clear hK K
       refine wpAny_ready (rs := [5]) (by kernel_rfl) (by simp) ?_
       refine AllReady.cons rfl (fun K hK => ?_) ?_
       ·go_simp
        refine hK _ _ ?_; clear hK K
        refine wpAny_ready (rs := [6]) (by kernel_rfl) (by simp) ?_
        refine AllReady.cons rfl (fun K hK => ?_) AllReady.nil
        refine Kd.R_append_step (W := W7.drew) (Kd.int .u8) (w0 := w2) w2.heap.size rfl (.tmp 29) (.tmp 34) 22 5 (.int .u8 0) 1 rfl Tryz.underlying22 Bt.info5 rfl (by decide) (by decide) (.slice Av q cv) (os0 ++ (rowL s c).take j) yv [.int .u8 yv] (fun _ => True) (fun _ => False) rfl rfl rfl (fun _ hk => hk.elim) (fun _ _ => trivial) RV8.out O8.out.K O8.out.K.size (by rw [HQ.out, Nat.mul_one]; omega) ?_
        intro v8 w8 hR8 hB8 hg8 _
        obtain ⟨A8, c8, rfl⟩ := Kd.R_slice hR8
        rw [HLEN.out] at hR8
        have P8 := Aside0.mk (O8.out.put GB8.out RV8.out hR8 hB8 hg8)
        have gB9 := (hg8.block _ (blk_lt GB8.out) (Kd.R_ne RV8.out GB8.out (by decide))).trans GB8.out
        have c9 : w8.cell? ⟨w2.heap.size + 1, 0, none⟩ = some (.slice Av q cv) := blk_cell gB9 0
        have f9 : w8.frozen? ⟨w2.heap.size + 1, 0, none⟩ = false := blk_frozen gB9 0
        rw [HLEN.out]
        clear hR8 hB8 hg8 gB9
        try go_simp
        refine hK _ _ ?_; clear hK K
        refine wpAny_ready (rs := [7]) (by kernel_rfl) (by simp) ?_
        refine AllReady.cons rfl (fun K hK => ?_) AllReady.nil
        go_simp
        refine hK _ _ ?_; clear hK K
        refine wpAny_done (by kernel_rfl) ?_ _
        exact FIN.out _ _ P8.out
       exact AllReady.nil
      exact AllReady.nil
     exact AllReady.nil
    exact AllReady.nil
   refine AllReady.cons rfl (fun K hK => ?_) ?_
   ·go_simp
    refine hK _ _ ?_; clear hK K
    refine wpAny_ready (rs := [0, 3]) (by kernel_rfl) (by simp) ?_
    refine AllReady.cons rfl (fun K hK => ?_) ?_
    ·go_simp
     refine hK _ _ ?_; clear hK K
     refine wpAny_ready (rs := [3]) (by kernel_rfl) (by simp) ?_
     refine AllReady.cons rfl (fun K hK => ?_) ?_
     ·go_simp
      refine hK _ _ ?_; clear hK K
      refine wpAny_ready (rs := [4]) (by kernel_rfl) (by simp) ?_
      refine AllReady.cons rfl (fun K hK => ?_) ?_
      ·go_simp
       refine hK _ _ ?_; clear hK K
       refine wpAny_ready (rs := [5]) (by kernel_rfl) (by simp) ?_
       refine AllReady.cons rfl (fun K hK => ?_) ?_
       ·go_simp
        refine hK _ _ ?_; clear hK K
        refine wpAny_ready (rs := [6]) (by kernel_rfl) (by simp) ?_
        refine AllReady.cons rfl (fun K hK => ?_) AllReady.nil
        refine Kd.R_append_step (W := W7.drew) (Kd.int .u8) (w0 := w2) w2.heap.size rfl (.tmp 29) (.tmp 34) 22 5 (.int .u8 0) 1 rfl Tryz.underlying22 Bt.info5 rfl (by decide) (by decide) (.slice Av q cv) (os0 ++ (rowL s c).take j) yv [.int .u8 yv] (fun _ => True) (fun _ => False) rfl rfl rfl (fun _ hk => hk.elim) (fun _ _ => trivial) RV8.out O8.out.K O8.out.K.size (by rw [HQ.out, Nat.mul_one]; omega) ?_
        intro v8 w8 hR8 hB8 hg8 _
        obtain ⟨A8, c8, rfl⟩ := Kd.R_slice hR8
        rw [HLEN.out] at hR8
        have P8 := Aside0.mk (O8.out.put GB8.out RV8.out hR8 hB8 hg8)
        have gB9 := (hg8.block _ (blk_lt GB8.out) (Kd.R_ne RV8.out GB8.out (by decide))).trans GB8.out
        have c9 : w8.cell? ⟨w2.heap.size + 1, 0, none⟩ = some (.slice Av q cv) := blk_cell gB9 0
        have f9 : w8.frozen? ⟨w2.heap.size + 1, 0, none⟩ = false := blk_frozen gB9 0
        rw [HLEN.out]
        clear hR8 hB8 hg8 gB9
        try go_simp
        refine hK _ _ ?_; clear hK K
        refine wpAny_ready (rs := [7]) (by kernel_rfl) (by simp) ?_
        refine AllReady.cons rfl (fun K hK => ?_) AllReady.nil
        go_simp
        refine hK _ _ ?_; clear hK K
        refine wpAny_done (by kernel_rfl) ?_ _
        exact FIN.out _ _ P8.out
       exact AllReady.nil
      exact AllReady.nil
     exact AllReady.nil
    refine AllReady.cons rfl (fun K hK => ?_) ?_
    ·go_simp
     refine hK _ _ ?_; clear hK K
     refine wpAny_ready (rs := [0, 4]) (by kernel_rfl) (by simp) ?_
     refine AllReady.cons rfl (fun K hK => ?_) ?_
     ·go_simp
      refine hK _ _ ?_; clear hK K
      refine wpAny_ready (rs := [4]) (by kernel_rfl) (by simp) ?_
      refine AllReady.cons rfl (fun K hK => ?_) ?_
      ·go_simp
       refine hK _ _ ?_; clear hK K
       refine wpAny_ready (rs := [5]) (by kernel_rfl) (by simp) ?_
       refine AllReady.cons rfl (fun K hK => ?_) ?_
       ·go_simp
        refine hK _ _ ?_; clear hK K
        refine wpAny_ready (rs := [6]) (by kernel_rfl) (by simp) ?_
        refine AllReady.cons rfl (fun K hK => ?_) AllReady.nil
        refine Kd.R_append_step (W := W7.drew) (Kd.int .u8) (w0 := w2) w2.heap.size rfl (.tmp 29) (.tmp 34) 22 5 (.int .u8 0) 1 rfl Tryz.underlying22 Bt.info5 rfl (by decide) (by decide) (.slice Av q cv) (os0 ++ (rowL s c).take j) yv [.int .u8 yv] (fun _ => True) (fun _ => False) rfl rfl rfl (fun _ hk => hk.elim) (fun _ _ => trivial) RV8.out O8.out.K O8.out.K.size (by rw [HQ.out, Nat.mul_one]; omega) ?_
        intro v8 w8 hR8 hB8 hg8 _
        obtain ⟨A8, c8, rfl⟩ := Kd.R_slice hR8
        rw [HLEN.out] at hR8
        have P8 := Aside0.mk (O8.out.put GB8.out RV8.out hR8 hB8 hg8)
        have gB9 := (hg8.block _ (blk_lt GB8.out) (Kd.R_ne RV8.out GB8.out (by decide))).trans GB8.out
        have c9 : w8.cell? ⟨w2.heap.size + 1, 0, none⟩ = some (.slice Av q cv) := blk_cell gB9 0
        have f9 : w8.frozen? ⟨w2.heap.size + 1, 0, none⟩ = false := blk_frozen gB9 0
        rw [HLEN.out]
        clear hR8 hB8 hg8 gB9
        try go_simp
        refine hK _ _ ?_; clear hK K
        refine wpAny_ready (rs := [7]) (by kernel_rfl) (by simp) ?_
        refine AllReady.cons rfl (fun K hK => ?_) AllReady.nil
        go_simp
        refine hK _ _ ?_; clear hK K
        refine wpAny_done (by kernel_rfl) ?_ _
        exact FIN.out _ _ P8.out
       exact AllReady.nil
      exact AllReady.nil
     refine AllReady.cons rfl (fun K hK => ?_) ?_
     ·go_simp
      refine hK _ _ ?_; clear hK K
      refine wpAny_ready (rs := [0, 5]) (by kernel_rfl) (by simp) ?_
      refine AllReady.cons rfl (fun K hK => ?_) ?_
      ·go_simp
       refine hK _ _ ?_; clear hK K
       refine wpAny_ready (rs := [5]) (by kernel_rfl) (by simp) ?_
       refine AllReady.cons rfl (fun K hK => ?_) ?_
       ·go_simp
        refine hK _ _ ?_; clear hK K
        refine wpAny_ready (rs := [6]) (by kernel_rfl) (by simp) ?_
        refine AllReady.cons rfl (fun K hK => ?_) AllReady.nil
        refine Kd.R_append_step (W := W7.drew) (Kd.int .u8) (w0 := w2) w2.heap.size rfl (.tmp 29) (.tmp 34) 22 5 (.int .u8 0) 1 rfl Tryz.underlying22 Bt.info5 rfl (by decide) (by decide) (.slice Av q cv) (os0 ++ (rowL s c).take j) yv [.int .u8 yv] (fun _ => True) (fun _ => False) rfl rfl rfl (fun _ hk => hk.elim) (fun _ _ => trivial) RV8.out O8.out.K O8.out.K.size (by rw [HQ.out, Nat.mul_one]; omega) ?_
        intro v8 w8 hR8 hB8 hg8 _
        obtain ⟨A8, c8, rfl⟩ := Kd.R_slice hR8
        rw [HLEN.out] at hR8
        have P8 := Aside0.mk (O8.out.put GB8.out RV8.out hR8 hB8 hg8)
        have gB9 := (hg8.block _ (blk_lt GB8.out) (Kd.R_ne RV8.out GB8.out (by decide))).trans GB8.out
        have c9 : w8.cell? ⟨w2.heap.size + 1, 0, none⟩ = some (.slice Av q cv) := blk_cell gB9 0
        have f9 : w8.frozen? ⟨w2.heap.size + 1, 0, none⟩ = false := blk_frozen gB9 0
        rw [HLEN.out]
        clear hR8 hB8 hg8 gB9
        try go_simp
        refine hK _ _ ?_; clear hK K
        refine wpAny_ready (rs := [7]) (by kernel_rfl) (by simp) ?_
        refine AllReady.cons rfl (fun K hK => ?_) AllReady.nil
        go_simp
        refine hK _ _ ?_; clear hK K
        refine wpAny_done (by kernel_rfl) ?_ _
        exact FIN.out _ _ P8.out
       exact AllReady.nil
      refine AllReady.cons rfl (fun K hK => ?_) ?_
      ·go_simp
       refine hK _ _ ?_; clear hK K
       refine wpAny_ready (rs := [0]) (by kernel_rfl) (by simp) ?_
       refine AllReady.cons rfl (fun K hK => ?_) ?_
       ·go_simp
        refine hK _ _ ?_; clear hK K
        refine wpAny_ready (rs := [6]) (by kernel_rfl) (by simp) ?_
        refine AllReady.cons rfl (fun K hK => ?_) AllReady.nil
        refine Kd.R_append_step (W := W7.drew) (Kd.int .u8) (w0 := w2) w2.heap.size rfl (.tmp 29) (.tmp 34) 22 5 (.int .u8 0) 1 rfl Tryz.underlying22 Bt.info5 rfl (by decide) (by decide) (.slice Av q cv) (os0 ++ (rowL s c).take j) yv [.int .u8 yv] (fun _ => True) (fun _ => False) rfl rfl rfl (fun _ hk => hk.elim) (fun _ _ => trivial) RV8.out O8.out.K O8.out.K.size (by rw [HQ.out, Nat.mul_one]; omega) ?_
        intro v8 w8 hR8 hB8 hg8 _
        obtain ⟨A8, c8, rfl⟩ := Kd.R_slice hR8
        rw [HLEN.out] at hR8
        have P8 := Aside0.mk (O8.out.put GB8.out RV8.out hR8 hB8 hg8)
        have gB9 := (hg8.block _ (blk_lt GB8.out) (Kd.R_ne RV8.out GB8.out (by decide))).trans GB8.out
        have c9 : w8.cell? ⟨w2.heap.size + 1, 0, none⟩ = some (.slice Av q cv) := blk_cell gB9 0
        have f9 : w8.frozen? ⟨w2.heap.size + 1, 0, none⟩ = false := blk_frozen gB9 0
        rw [HLEN.out]
        clear hR8 hB8 hg8 gB9
        try go_simp
        refine hK _ _ ?_; clear hK K
        refine wpAny_ready (rs := [7]) (by kernel_rfl) (by simp) ?_
        refine AllReady.cons rfl (fun K hK => ?_) AllReady.nil
        go_simp
        refine hK _ _ ?_; clear hK K
        refine wpAny_done (by kernel_rfl) ?_ _
        exact FIN.out _ _ P8.out
       exact AllReady.nil
      exact AllReady.nil
     exact AllReady.nil
    exact AllReady.nil
   exact AllReady.nil
  ·rintro W7 ⟨hO7, hB7, hX7, hK7⟩
   have hrl : (rowL s c).take c.length = rowL s c := List.take_of_length_le (by unfold rowL; rw [List.length_map, List.length_reverse]; exact Nat.le_refl _)
   rw [hrl] at hO7
   refine show (_ ∧ _) from ⟨rfl, hK7, ⟨(hO7.K.block bf hbfw).trans (HO.out.K.block bf hbfw).symm, hB7.trans HB.out.symm⟩, ?_, hB7⟩
   rw [HRS.out]
   exact hO7
 ·rintro D W5 hD ⟨hO, hB⟩ hDd
  have ebk : ((cs.reverse.take hs.length).map (rowL s)).flatten = backL s cs := by
   rw [hlen, List.take_of_length_le (by rw [List.length_reverse]; exact Nat.le_refl _)]; rfl
  rw [ebk] at hO
  obtain ⟨v, gB, rV⟩ := hO.V
  obtain ⟨q, hq⟩ : ∃ q, (backL s cs).length = q := ⟨_, rfl⟩
  obtain ⟨Av, cv, rfl⟩ := Kd.R_slice rV
  rw [hq] at rV gB
  have c6 : W5.cell? ⟨w2.heap.size + 1, 0, none⟩ = some (.slice Av q cv) := blk_cell gB 0
  have HR := Aside0.mk rV
  have HD := Aside0.mk hDd
  have hBW : Below W.heap.size W W5 := B2.out.trans (hO.K.mono B2.out.size)
  have HBW := Aside0.mk hBW
  have HQ := Aside0.mk hq
  clear hDd rV gB hO hBW ebk hq
  gi_wp2_with (fail)
  refine ⟨by simp, .inl ⟨_, _, rfl, run_takeDeferred HD.out, ?_⟩⟩
  refine ⟨_, results_tmp2 rfl _ _ _, .slice Av q cv, rfl, ?_, ?_⟩
  ·have r := Kd.R_lower HR.out B2.out.size
   refine Kd.R_mono (Kd.R_move (Kd.R_bound r) (fun k hk => World.putObj_heap_other ?_)) (fun _ _ => trivial)
   obtain ⟨_, _, _, q, _, cells, hcs⟩ := hk
   rintro rfl
   rw [HD.out] at hcs; cases hcs
  ·exact HBW.out.grown (grownBy_putObj' W5 D _) HBW.out.size (fun k e => by cases e; have := B2.out.size; omega)
theorem back_calls {W : World} {Al : Option Addr} {cl : Nat} {s p : List Int} {cs : List (List Int)} (hs : Kd.C (Kd.int .u8) W Al s.length s) (hsl : s.length ≤ 100000) (hcl : s.length ≤ cl)
  (hcs : ∀ c, c ∈ cs → ∀ x, x ∈ c → 0 ≤ x ∧ x < s.length) (hct : cs.length ≤ 100000) (hcr : ∀ c, c ∈ cs → c.length ≤ 100000) (hout : (backL s cs).length ≤ 100000)
  (hOf : ∀ W, Kd.C (Kd.int .u8) W Al s.length s → Calls Tryz.prog 42 #[.slice Al s.length cl] W fun e W' => ∃ v, e = .returned v ∧ Kd.R (Kd.int .i64) 3 W' W.heap.size (fun _ => True) v p ∧ Below W.heap.size W W')
  (hCyc : ∀ W A c, p.length ≤ c → Kd.C (Kd.int .i64) W A p.length p → Calls Tryz.prog 41 #[.slice A p.length c] W fun e W' => ∃ v, e = .returned (.tuple #[v, .bool true]) ∧ Kd.R (Kd.slice 3 (Kd.int .i64)) 29 W' W.heap.size (fun _ => True) v cs ∧ Below W.heap.size W W') :
  Calls Tryz.prog 14 #[.slice Al s.length cl] W fun e W' => ∃ v, e = .returned (.tuple #[v, .int .i64 0]) ∧ Kd.R (Kd.int .u8) 5 W' W.heap.size (fun _ => True) v (backL s cs) ∧ Below W.heap.size W W' :=
 (callsIn_wide (n := 6)).1 (back_main 6 (by omega) hs hsl hcl hcs hct hcr hout hOf hCyc)
end Go.Proofs.YtbbpplnnegdenaaGreat.Bd
end
section
namespace Go.Proofs.YtbbpplnnegdenaaGreat
open Go.RowKit Go.Proofs.YtbbpplnnegdenaaGreatW.PrintWords Go.Proofs.YtbbpplnnegdenaaGreatW.PrintLast Go.Proofs.YtbbpplnnegdenaaGreatW.PrintMore
theorem lit_reads (kd : IntKind) (W : World) (e : TypeId) (xs : List Int) (fr : Nat × Nat) (hn : xs.length ≤ 9223372036854775807) {C : Array Value} (hC : (xs.map (Value.int kd)).toArray = C) :
  Kd.C (Kd.int kd) (W.alloc (.cells C e fr)) (some ⟨W.heap.size, 0, none⟩) xs.length xs := by
 subst hC
 refine Kd.C_of_reads (h1 := fun _ => rfl) (d := 0) ⟨rfl, hn, fun _ => ⟨_, rfl, fun j hj => ?_⟩⟩
 rw [add_plain, World.cell?_alloc_mark]
 simp [List.getD_eq_getElem?_getD, List.getElem?_eq_getElem hj]
end Go.Proofs.YtbbpplnnegdenaaGreat
end
section
namespace Go.Proofs.YtbbpplnnegdenaaGreat.PTopTurns
open Go.RowKit Go.Proofs.YtbbpplnnegdenaaGreatW.PrintWords Go.Proofs.YtbbpplnnegdenaaGreatW.PrintLast Go.Proofs.YtbbpplnnegdenaaGreatW.PrintMore
attribute [local go_sem] max2_int min2_int max_two min_two max_three min_three max_four min_four
def errW : Option Int → Value
  | none => .nilIface
  | some c => .iface 0 (.int .i64 c)
theorem errW_none : errW none = .nilIface := rfl
theorem errW_some (c : Int) : errW (some c) = .iface 0 (.int .i64 c) := rfl
theorem info3 : (Tryz.prog.info? 3).map (fun i => (i.zero, i.size, i.bytes)) = some (some (.int .i64 0), 1, 8) := by kernel_rfl
theorem info4 : (Tryz.prog.info? 4).map (fun i => (i.zero, i.size, i.bytes)) = some (some (.bool false), 1, 1) := by kernel_rfl
theorem info5 : (Tryz.prog.info? 5).map (fun i => (i.zero, i.size, i.bytes)) = some (some (.int .u8 0), 1, 1) := by kernel_rfl
theorem info29 : (Tryz.prog.info? 29).map (fun i => (i.zero, i.size, i.bytes)) = some (some (.slice none 0 0), 1, 24) := by kernel_rfl
mutual
def bucket_Counts.j0 : Nat → List Int → Int → Bool → Option (List Int × Bool)
  | 0, _, _, _ => none
  | k + 1, x0, x1, x14 => if x14 = true then (some (([] : List Int), false)) else (if 0 ≤ x1 then (if (x1 : Int).toNat ≤ 35184372088832 then (bucket_Counts.l0 k x1 (List.replicate (x1 : Int).toNat 0) x0 (x0.length : Int) 0) else (none)) else (none))
def bucket_Counts.l0 : Nat → Int → List Int → List Int → Int → Int → Option (List Int × Bool)
  | 0, _, _, _, _, _ => none
  | k + 1, x1, x6, x17, x18, x19 => if x19 < x18 then (if 0 ≤ x19 then (if x19 < (x17.length : Int) then (if (rd x17 x19) < 0 then (some (([] : List Int), false)) else (if (rd x17 x19) ≥ x1 then (some (([] : List Int), false)) else (if 0 ≤ (rd x17 x19) then (if (rd x17 x19) < (x6.length : Int) then (bucket_Counts.l0 k x1 (x6.set ((rd x17 x19) : Int).toNat (wrap64 ((rd x6 (rd x17 x19)) + 1))) x17 x18 (wrap64 (x19 + 1))) else (none)) else (none)))) else (none)) else (none)) else (some (x6, true))
end
def bucket_Counts.f (k : Nat) (l0 : List Int) (a1 : Int) : Option (List Int × Bool) := if a1 < 0 then (bucket_Counts.j0 k l0 a1 true) else (bucket_Counts.j0 k l0 a1 (decide (a1 > 1048576)))
theorem bucket_Counts.calls (k : Nat) (A0 : Option Addr) (c0 : Nat) (l0 : List Int) (a1 : Int) (r1 : List Int) (r2 : Bool) (w : World) (hr0 : Kd.C (Kd.int .i64) w A0 l0.length l0) (hc0 : l0.length ≤ c0) (h : bucket_Counts.f k l0 a1 = some (r1, r2)) :
    Calls Tryz.prog 91 #[.slice A0 l0.length c0, .int .i64 a1] w fun e w' => ∃ v0_ : Value, e = .returned (.tuple #[v0_, .bool r2]) ∧ Kd.R (Kd.int .i64) 3 w' w.heap.size (fun _ => True) v0_ r1 ∧ Below w.heap.size w w' := by
 have HR0 := Aside0.mk hr0
 have HC0 := Aside0.mk hc0
 clear hr0 hc0
 have HB := Aside0.mk (Below.refl w.heap.size w)
 have H := h
 clear h
 unfold bucket_Counts.f at H
 have HC3 := Aside0.mk H
 clear H
 go_enter Tryz.func91, Tryz.ntmps91
 go_upto_region 1 with (fail)
 go_cut [14] (fun v14 wc => ∃ (kq : Nat) (x14_2 : Bool), v14 = .bool x14_2 ∧ Aside0 (bucket_Counts.j0 kq l0 a1 x14_2 = some (r1, r2)) ∧ Aside0 (kq ≤ k) ∧ Aside0 (Below w.heap.size w wc))
 case first =>
  have H := HC3.out
  clear HC3
  rcases ifC H with ⟨c4b0, H⟩ | ⟨c4b0, H⟩
  ·(first | rw [c4b0] | (simp only [i64_w, i32_w]; rw [c4b0]) | skip)
   have H' := Aside0.mk H
   clear H
   go_wp2
   go_meet
   case rel => exact ⟨_, (true), sD, H', ⟨by first | omega | exact Nat.le_refl _⟩, ⟨uB⟩⟩
  ·(first | rw [c4b0] | (simp only [i64_w, i32_w]; rw [c4b0]) | skip)
   have H' := Aside0.mk H
   clear H
   go_wp2
   go_meet
   case rel => exact ⟨_, (decide (a1 > 1048576)), sD, H', ⟨by first | omega | exact Nat.le_refl _⟩, ⟨uB⟩⟩
 case rest =>
  clear HC3
  obtain ⟨kq, x14_2, rfl, HA, HJ2, HB⟩ := hcut
  cases kq with
  | zero => exact absurd HA.out (by simp [bucket_Counts.j0])
  | succ kj2 =>
   have H := HA.out
   clear HA
   simp only [bucket_Counts.j0] at H
   by_cases c5 : x14_2 = true
   ·subst c5
    rw [if_pos rfl] at H
    simp only [Option.some.injEq, Prod.mk.injEq] at H
    obtain ⟨rfl, rfl⟩ := H
    go_wp2
    go_ret2
    exact ⟨_, eR, nL, uB⟩
   ·replace c5 := Bool.eq_false_iff.mpr c5
    subst c5
    rw [if_neg (by decide)] at H
    obtain ⟨c6b0, c6b1, H⟩ := ifE H
    obtain ⟨c7b0, c7b1, H⟩ := ifE H
    generalize hy101 : (List.replicate (a1 : Int).toNat 0 : List Int) = y101 at H
    try simp only [Option.bind_some] at H
    have Ny101 := Aside0.mk hy101.symm
    clear hy101
    have H' := Aside0.mk H
    clear H
    go_wp2_with (first | ((with_reducible refine gate_dst (N := 16) rfl ?_); refine Kd.R_make (Kd.int .i64) _ 3 rfl (N := 16) rfl 29 _ _ rfl a1 rfl rfl Tryz.underlying29 (.int .i64 0) 8 info3 rfl (by decide) (by omega) 0 (ok := fun _ => True) (okp := fun _ => True) rfl (fun _ hk => hk) trivial dT (Nat.le_trans (Nat.mul_le_mul_right _ (dT : a1.toNat ≤ 35184372088832)) (by omega)) (Below.refl _ _) (Nat.le_refl _) ?_; intro v102 w8 ho9 hb hg_ hnew_; clear hg_ hnew_; (first | rw [← Ny101.out] at ho9 | (simp only [Int.reduceToNat] at ho9; rw [← Ny101.out] at ho9)); have n0_ := Aside0.mk (Kd.R_lower ho9 (below_size uB)); have n1_ := Aside0.mk (below_step uB hb); clear HB; have HO103 := n0_; have HB := n1_; clear n0_ n1_; clear hb ho9))
    go_loopg [19] kj2 (fun kq v19 w' => ∃ (x6_2 : List Int) (x19_2 : Int), v19 = .int .i64 x19_2 ∧ Aside0 (bucket_Counts.l0 kq a1 x6_2 l0 (l0.length : Int) x19_2 = some (r1, r2)) ∧ Aside0 (kq ≤ kj2) ∧ Aside0 (Kd.R (Kd.int .i64) 3 w' w.heap.size (fun _ => True) v102 x6_2) ∧ Aside0 (Below w.heap.size w w'))
    case atStart => exact ⟨(y101), (0), sD, H', ⟨Nat.le_refl _⟩, ⟨uR HO103.out⟩, ⟨uB⟩⟩
    case round =>
     clear H'
     obtain ⟨x6_2, x19_2, rfl, HA, HK2, HO_6, HB⟩ := hrel
     cases gk with
     | zero => exact absurd HA.out (by simp [bucket_Counts.l0])
     | succ k2 =>
      have H := HA.out
      clear HA
      simp only [bucket_Counts.l0] at H
      rcases ifC H with ⟨c10b0, H⟩ | ⟨c10b0, H⟩
      ·obtain ⟨c11b0, c12b0, H⟩ := ifD2 H
       rcases ifC H with ⟨c13b0, H⟩ | ⟨c13b0, H⟩
       ·simp only [Option.some.injEq, Prod.mk.injEq] at H
        obtain ⟨rfl, rfl⟩ := H
        obtain ⟨ad104, e104, hx104_0, p104, q104⟩ := rIO HB.out HR0.out x19_2
        cases e104
        go_wp2
        go_ret2
        exact ⟨_, eR, nL, uB⟩
       ·rcases ifG H with ⟨c14b0, H⟩ | ⟨c14b0, H⟩
        ·simp only [Option.some.injEq, Prod.mk.injEq] at H
         obtain ⟨rfl, rfl⟩ := H
         obtain ⟨ad104, e104, hx104_0, p104, q104⟩ := rIO HB.out HR0.out x19_2
         cases e104
         go_wp2
         go_ret2
         exact ⟨_, eR, nL, uB⟩
        ·obtain ⟨c15b0, c16b0, H⟩ := ifD2 H
         generalize hy106 : (x6_2.set ((rd l0 x19_2) : Int).toNat (wrap64 ((rd x6_2 (rd l0 x19_2)) + 1)) : List Int) = y106 at H
         try simp only [Option.bind_some] at H
         have Ny106 := Aside0.mk hy106.symm
         clear hy106
         have H' := Aside0.mk H
         clear H
         obtain ⟨ad104, e104, hx104_0, p104, q104⟩ := rIO HB.out HR0.out x19_2
         cases e104
         obtain ⟨Ao18, co18, eo18⟩ := Kd.R_slice HO_6.out
         subst eo18
         obtain ⟨ad105, e105, hx105_0, p105, q105⟩ := rI (Kd.R_reads' HO_6.out).2.2 (rd l0 x19_2)
         cases e105
         have p17 : 0 ≤ ((rd l0 x19_2) : Int) := dT
         have q17 : ((rd l0 x19_2) : Int) < ((x6_2.length : Int) : Int) := dT
         obtain ⟨go17, co17, eo17, gb17, gl17, cl17, HG17⟩ := Kd.R_form HO_6.out (by omega)
         (first | cases eo17 | (injection eo17 with ea_ en_ ec_; (first | subst ea_ | (injection ea_ with ea_; subst ea_)); subst ec_; clear en_))
         have GB17 := Aside0.mk gb17
         have GG17 := Aside0.mk HG17
         clear gb17 gl17 HG17
         (first | simp only [add_plain] at hx105_0 | skip)
         obtain ⟨hx17_0, hf17_0⟩ := Kd.R_celln 0 HO_6.out ((rd l0 x19_2) : Int) p17 q17
         replace p17 := eq_true p17
         replace q17 := eq_true q17
         have HP19 := Kd.R_putg HO_6.out ((rd l0 x19_2) : Int) (wrap64 ((rd x6_2 (rd l0 x19_2)) + 1))
         go_wp2_with (first | ((with_reducible refine gate_store (t := 3) (p := 35) rfl ?_); refine store_event (t := 3) (p := 35) (v := ?vo_w20) (w1 := (wr.setCell ⟨go17, ((rd l0 x19_2) : Int).toNat, none⟩ (.int .i64 (wrap64 ((rd x6_2 (rd l0 x19_2)) + 1))))) ?hg ?ho ?hn ?hr ?_; (case ho => rfl); (case hg => rfl); (case hn => rfl); (case hr => first | (go_simp; done) | (go_simp; rfl)); intro w20 hw; have hg : wr.grownBy w20 (some go17) := (by rw [hw]; exact HP19.2); have hp_ : Kd.R (Kd.int .i64) 3 w20 w.heap.size (fun _ => True) (.slice (some ⟨go17, 0, none⟩) x6_2.length co18) y106 := (by rw [hw, Ny106.out]; exact HP19.1); clear HP19; have n0_ := Aside0.mk (hp_); have n1_ := Aside0.mk ((by rw [hw]; exact below_set (HB.out) GB17.out : Below w.heap.size w w20)); clear HO_6 HB; have HO_6 := n0_; have HB := n1_; clear n0_ n1_; clear hg hw hp_))
         go_roundg k2
         case measure => have := HJ2.out; have := HK2.out; omega
         case rel => exact ⟨(y106), (wrap64 (x19_2 + 1)), sD, H', ⟨by have := HJ2.out; have := HK2.out; omega⟩, ⟨uR HO_6.out⟩, ⟨uB⟩⟩
      ·simp only [Option.some.injEq, Prod.mk.injEq] at H
       obtain ⟨rfl, rfl⟩ := H
       go_wp2
       go_ret2
       exact ⟨_, eR, uR HO_6.out, uB⟩
def kinds_Small.l0 : Nat → List Int → List Bool → Int → Option (List Bool)
  | 0, _, _, _ => none
  | k + 1, x0, x3, x4 => if x4 ≥ 0 then (if 0 ≤ x4 then (if x4 < (x0.length : Int) then (if 0 ≤ (wrap64 (x4 + 1)) then (if (wrap64 (x4 + 1)) < (x0.length : Int) then (if (rd x0 x4) < (rd x0 (wrap64 (x4 + 1))) then (if x4 < (x3.length : Int) then (kinds_Small.l0 k x0 (x3.set (x4 : Int).toNat true) (wrap64 (x4 - 1))) else (none)) else (if (rd x0 x4) = (rd x0 (wrap64 (x4 + 1))) then (if (wrap64 (x4 + 1)) < (x3.length : Int) then (if x4 < (x3.length : Int) then (kinds_Small.l0 k x0 (x3.set (x4 : Int).toNat (rdOf false x3 (wrap64 (x4 + 1)))) (wrap64 (x4 - 1))) else (none)) else (none)) else (if x4 < (x3.length : Int) then (kinds_Small.l0 k x0 (x3.set (x4 : Int).toNat false) (wrap64 (x4 - 1))) else (none)))) else (none)) else (none)) else (none)) else (none)) else (some x3)
def kinds_Small.f (k : Nat) (l0 : List Int) : Option (List Bool) := if 0 ≤ (l0.length : Int) then (if ((l0.length : Int) : Int).toNat ≤ 281474976710656 then (kinds_Small.l0 k l0 (List.replicate ((l0.length : Int) : Int).toNat false) (wrap64 ((l0.length : Int) - 2))) else (none)) else (none)
def kinds_Small.T5 : Bool × List (List Nat × List Nat) := (true, [([], []), ([], []), ([], []), ([], []), ([2, 3], [2, 3]), ([4], [4]), ([], []), ([], []), ([7], [7]), ([6, 8], [6, 8]), ([9], [9]), ([5, 10], [5, 10]), ([11], [11]), ([12], [12]), ([12], [12]), ([13, 14, 12], [12, 13, 14]), ([15, 12], [12, 15]), ([12], [12]), ([12], [12]), ([18, 12], [12, 18]), ([17, 19, 12], [12, 17, 19]), ([20, 12], [12, 20]), ([16, 21, 12], [12, 16, 21]), ([22, 12, 12], [12, 22]), ([23], [23]), ([23], [23]), ([25, 23], [23, 25]), ([24, 26, 23], [23, 24, 26]), ([27, 23], [23, 27]), ([23, 28, 12], [12, 23, 28]), ([12, 29], [12, 29]), ([0, 1, 0, 1, 2, 3, 4, 5, 6, 7, 8, 9, 10, 11, 12, 13, 14, 15, 16, 17, 18, 19, 20, 21, 22, 23, 24, 25, 26, 27, 28, 29, 30], [0, 1]), ([31, 30, 23, 0, 1, 2, 3, 4, 5, 6, 7, 8, 9, 10, 11, 12, 13, 14, 15, 16, 17, 18, 19, 20, 21, 22, 23, 24, 25, 26, 27, 28, 29, 30], [30, 31])])
def kinds_Small.B5 : List Nat := [0, 0, 0, 0, 12, 28, 0, 0, 128, 448, 960, 2044, 4092, 8188, 8188, 32764, 65532, 8188, 8188, 270332, 925692, 1974268, 4194300, 8388604, 16777212, 16777212, 50331644, 134217724, 268435452, 536870908, 1073741820, 2147483647, 4294967295]
theorem kinds_Small.tab5 : rtab .any (opsOf Tryz.f120 5) = kinds_Small.T5 := by kernel_rfl
theorem kinds_Small.bits5 : waitsOk kinds_Small.T5.2 kinds_Small.B5 = true := by kernel_rfl
theorem kinds_Small.calls (k : Nat) (A0 : Option Addr) (c0 : Nat) (l0 : List Int) (r : List Bool) (w : World) (hr0 : Kd.C (Kd.int .i64) w A0 l0.length l0) (hc0 : l0.length ≤ c0) (h : kinds_Small.f k l0 = some r) :
    Calls Tryz.prog 120 #[.slice A0 l0.length c0] w fun e w' => ∃ v0_ : Value, e = .returned (v0_) ∧ Kd.R Kd.bool 4 w' w.heap.size (fun _ => True) v0_ r ∧ Below w.heap.size w w' := by
 have HR0 := Aside0.mk hr0
 have HC0 := Aside0.mk hc0
 clear hr0 hc0
 have HB := Aside0.mk (Below.refl w.heap.size w)
 have H := h
 clear h
 unfold kinds_Small.f at H
 obtain ⟨c2b0, c2b1, H⟩ := ifE H
 obtain ⟨c3b0, c3b1, H⟩ := ifE H
 generalize hy107 : (List.replicate ((l0.length : Int) : Int).toNat false : List Bool) = y107 at H
 try simp only [Option.bind_some] at H
 have Ny107 := Aside0.mk hy107.symm
 clear hy107
 have H' := Aside0.mk H
 clear H
 go_enter Tryz.func120, Tryz.ntmps120
 go_wp2_with (first | ((with_reducible refine gate_dst (N := 7) rfl ?_); refine Kd.R_make Kd.bool _ 4 rfl (N := 7) rfl 122 _ _ rfl (l0.length : Int) rfl rfl Tryz.underlying122 (.bool false) 1 info4 rfl (by decide) (by omega) false (ok := fun _ => True) (okp := fun _ => True) rfl (fun _ hk => hk) trivial dT (Nat.le_trans (Nat.mul_le_mul_right _ (dT : (l0.length : Int).toNat ≤ 281474976710656)) (by omega)) (Below.refl _ _) (Nat.le_refl _) ?_; intro v108 w4 ho5 hb hg_ hnew_; clear hg_ hnew_; (first | rw [← Ny107.out] at ho5 | (simp only [Int.reduceToNat] at ho5; rw [← Ny107.out] at ho5)); have n0_ := Aside0.mk (Kd.R_lower ho5 (below_size uB)); have n1_ := Aside0.mk (below_step uB hb); clear HB; have HO109 := n0_; have HB := n1_; clear n0_ n1_; clear hb ho5))
 go_loopg [4] k (fun kq v4 w' => ∃ (x3_1 : List Bool) (x4_1 : Int), v4 = .int .i64 x4_1 ∧ Aside0 (kinds_Small.l0 kq l0 x3_1 x4_1 = some r) ∧ Aside0 (kq ≤ k) ∧ Aside0 (Kd.R Kd.bool 4 w' w.heap.size (fun _ => True) v108 x3_1) ∧ Aside0 (Below w.heap.size w w'))
 case atStart => exact ⟨(y107), (wrap64 ((l0.length : Int) - 2)), sD, H', ⟨Nat.le_refl _⟩, ⟨uR HO109.out⟩, ⟨uB⟩⟩
 case round =>
  clear H'
  obtain ⟨x3_1, x4_1, rfl, HA, HK1, HO_3, HB⟩ := hrel
  cases gk with
  | zero => exact absurd HA.out (by simp [kinds_Small.l0])
  | succ k1 =>
   have H := HA.out
   clear HA
   simp only [kinds_Small.l0] at H
   rcases ifG H with ⟨c6b0, H⟩ | ⟨c6b0, H⟩
   ·obtain ⟨c7b0, c8b0, H⟩ := ifD2 H
    obtain ⟨ji9, hji9⟩ : ∃ j_ : Int, (wrap64 (x4_1 + 1)) = j_ := ⟨_, rfl⟩
    first | rw [hji9] at H | simp only [hji9] at H
    have hji9w : (IntKind.i64.wrap (x4_1 + 1)) = ji9 := (i64_w _).trans hji9
    obtain ⟨c10b0, c11b0, H⟩ := ifD2 H
    rcases ifC H with ⟨c12b0, H⟩ | ⟨c12b0, H⟩
    ·obtain ⟨c13b0, H⟩ := ifD H
     generalize hy112 : (x3_1.set (x4_1 : Int).toNat true : List Bool) = y112 at H
     try simp only [Option.bind_some] at H
     have Ny112 := Aside0.mk hy112.symm
     clear hy112
     have H' := Aside0.mk H
     clear H
     try go_wp2
     have n0_ := Aside0.mk (Kd.R_drew HO_3.out)
     have n1_ := Aside0.mk (below_drew1 HB.out)
     clear HO_3
     clear HB
     have HO_3 := n0_
     have HB := n1_
     clear n0_ n1_
     obtain ⟨ad110, e110, hx110_0, p110, q110⟩ := rI HR0.out x4_1
     have hw110_0 := hx110_0
     cases e110
     replace hx110_0 := (HB.out.cell (World.block_lt_of_cell? w _ hx110_0)).trans hx110_0
     obtain ⟨ad111, e111, hx111_0, p111, q111⟩ := rI HR0.out (ji9)
     have hw111_0 := hx111_0
     obtain rfl : ad110 = ad111 := (by injection e111)
     replace hx111_0 := (HB.out.cell (World.block_lt_of_cell? w _ hx111_0)).trans hx111_0
     have p14 : 0 ≤ (x4_1 : Int) := dT
     have q14 : (x4_1 : Int) < ((x3_1.length : Int) : Int) := dT
     obtain ⟨go14, co14, eo14, gb14, gl14, cl14, HG14⟩ := Kd.R_form HO_3.out (by omega)
     (first | cases eo14 | (injection eo14 with ea_ en_ ec_; (first | subst ea_ | (injection ea_ with ea_; subst ea_)); subst ec_; clear en_))
     have GB14 := Aside0.mk gb14
     have GG14 := Aside0.mk HG14
     clear gb14 gl14 HG14
     obtain ⟨hx14_0, hf14_0⟩ := Kd.R_celln false HO_3.out (x4_1 : Int) p14 q14
     replace p14 := eq_true p14
     replace q14 := eq_true q14
     have HP16 := Kd.R_putn HO_3.out (x4_1 : Int) true
     rw [← Ny112.out] at HP16
     have HQ16 := Aside0.mk HP16
     clear HP16
     refine start_ (n := 33) (S := fun w' => w'.cell? (ad110.add (x4_1).toNat) = some (.int .i64 (rd l0 x4_1)) ∧ w'.cell? (ad110.add ((ji9)).toNat) = some (.int .i64 (rd l0 (ji9)))) (ds := [32]) #[false, false, false, false, false, false, false, false, false, false, false, false, false, false, false, false, false, false, false, false, false, false, false, false, false, false, false, false, false, false, false, false, false] (by kernel_rfl) rfl rfl ⟨((HB.out.cell (World.block_lt_of_cell? w _ hw110_0)).trans hw110_0), ((HB.out.cell (World.block_lt_of_cell? w _ hw111_0)).trans hw111_0)⟩ (fun hHeld => ?_); refine with_tabW kinds_Small.tab5 kinds_Small.bits5 (fun HT_ HW_ => ?_)
     generalize wr.drew = w15 at HO_3 HB GG14 HQ16 hf14_0 hx110_0 hx111_0 hx14_0 hHeld ⊢
     refine pY (i := 0) (N := some 15) (bs 0 33) ?_
     refine pY (i := 1) (N := some 16) (bs 1 33) ?_
     refine pY (i := 2) (N := some 17) (bs 2 33) ?_
     refine pY (i := 3) (N := some 18) (bs 3 33) ?_
     refine pY (i := 4) (N := some 19) (bs 4 33) ?_
     refine pY (i := 6) (N := some 21) #[true, true, true, true, true, false, true, false, false, false, false, false, false, false, false, false, false, false, false, false, false, false, false, false, false, false, false, false, false, false, false, false, false] ?_
     refine pY (i := 7) (N := some 22) #[true, true, true, true, true, false, true, true, false, false, false, false, false, false, false, false, false, false, false, false, false, false, false, false, false, false, false, false, false, false, false, false, false] ?_
     refine pY (i := 8) (N := some 23) #[true, true, true, true, true, false, true, true, true, false, false, false, false, false, false, false, false, false, false, false, false, false, false, false, false, false, false, false, false, false, false, false, false] ?_
     refine pY (i := 9) (N := some 24) #[true, true, true, true, true, false, true, true, true, true, false, false, false, false, false, false, false, false, false, false, false, false, false, false, false, false, false, false, false, false, false, false, false] ?_
     refine take_ (i := 5) (N := some 20) (v := ?_) (a' := ?_) (bs 9 33) rfl rfl (take_ofW HT_.out HW_.out (by kernel_rfl)) (fun _ _ _ h => h) (Or.inl ⟨by rfl, ?_⟩) hHeld ?_ ?_
     rotate_left
     ·rintro w' ⟨s0, s1⟩
      go_simp
      with_reducible rfl
     rotate_left
     ·simp only [Act.put, List.setIfInBounds_toArray, List.set_cons_zero, List.set_cons_succ, i64_w, i32_w]
      rfl
     refine take_ (i := 10) (N := some 25) (v := ?_) (a' := ?_) (bs 10 33) rfl rfl (take_ofW HT_.out HW_.out (by kernel_rfl)) (fun _ _ _ h => h) (Or.inl ⟨by rfl, ?_⟩) hHeld ?_ ?_
     rotate_left
     ·rintro w' ⟨s0, s1⟩
      go_simp
      with_reducible rfl
     rotate_left
     ·simp only [Act.put, List.setIfInBounds_toArray, List.set_cons_zero, List.set_cons_succ, i64_w, i32_w]
      rfl
     refine pY (i := 11) (N := some 26) (bs 11 33) ?_
     refine pY (i := 12) (N := some 27) (bs 12 33) ?_
     refine pU (i := 13) (N := some 28) (bs 13 33) ?_
     refine pU (i := 14) (N := some 29) (bs 14 33) ?_
     refine pU (i := 15) (N := some 30) (bs 15 33) ?_
     refine pU (i := 16) (N := some 31) (bs 16 33) ?_
     refine pU (i := 17) (N := some 32) (bs 17 33) ?_
     refine pU (i := 18) (N := some 33) (bs 18 33) ?_
     refine pU (i := 19) (N := some 34) (bs 19 33) ?_
     refine pU (i := 20) (N := some 35) (bs 20 33) ?_
     refine pU (i := 21) (N := some 36) (bs 21 33) ?_
     refine pU (i := 22) (N := some 37) (bs 22 33) ?_
     refine pU (i := 23) (N := some 38) (bs 23 33) ?_
     refine pU (i := 24) (N := some 39) (bs 24 33) ?_
     refine pU (i := 25) (N := some 40) (bs 25 33) ?_
     refine pU (i := 26) (N := some 41) (bs 26 33) ?_
     refine pU (i := 27) (N := some 42) (bs 27 33) ?_
     refine pU (i := 28) (N := some 43) (bs 28 33) ?_
     refine pU (i := 29) (N := some 44) (bs 29 33) ?_
     refine pY (i := 30) (N := some 45) (bs 30 33) ?_
     refine pY (i := 31) (N := some 46) (bs 31 33) ?_
     refine last_ (i := 32) (N := none) (bs 32 33) rfl rfl (one_of HT_.out (by kernel_rfl)) (by decide) (fun K hK => ?_)
     refine skip_ (w1 := ?_) (by rfl) rfl ?_ ?_
     rotate_left
     ·go_simp
      rfl
     refine hK.out _ _ ?_
     clear hK K
     refine done_ (done_of HT_.out (by kernel_rfl)) ?_
     try go_wp2
     go_roundg k1
     case measure => have := HK1.out; omega
     case rel => exact ⟨(y112), (wrap64 (x4_1 - 1)), sD, H', ⟨by have := HK1.out; omega⟩, ⟨uR HQ16.out⟩, ⟨by repeat (first | (with_reducible first | exact HB.out | apply below_alloc | apply pw_below_drewN | apply below_drew1 | refine below_set ?_ GB14.out) | exact HB.out)⟩⟩
    ·by_cases c17 : (rd l0 x4_1) = (rd l0 (ji9))
     ·rw [if_pos c17] at H
      have c17b0 : ((rd l0 x4_1) == (rd l0 (ji9))) = true := beq_iff_eq.mpr c17
      have c17b1 : ((rd l0 x4_1) != (rd l0 (ji9))) = false := bne_eq_false_iff_eq.mpr c17
      clear c17
      obtain ⟨c18b0, c19b0, H⟩ := ifD2 H
      generalize hy116 : (x3_1.set (x4_1 : Int).toNat (rdOf false x3_1 (ji9)) : List Bool) = y116 at H
      try simp only [Option.bind_some] at H
      have Ny116 := Aside0.mk hy116.symm
      clear hy116
      have H' := Aside0.mk H
      clear H
      try go_wp2
      have n0_ := Aside0.mk (Kd.R_drew HO_3.out)
      have n1_ := Aside0.mk (below_drew1 HB.out)
      clear HO_3
      clear HB
      have HO_3 := n0_
      have HB := n1_
      clear n0_ n1_
      obtain ⟨ad110, e110, hx110_0, p110, q110⟩ := rI HR0.out x4_1
      have hw110_0 := hx110_0
      cases e110
      replace hx110_0 := (HB.out.cell (World.block_lt_of_cell? w _ hx110_0)).trans hx110_0
      obtain ⟨ad111, e111, hx111_0, p111, q111⟩ := rI HR0.out (ji9)
      have hw111_0 := hx111_0
      obtain rfl : ad110 = ad111 := (by injection e111)
      replace hx111_0 := (HB.out.cell (World.block_lt_of_cell? w _ hx111_0)).trans hx111_0
      obtain ⟨ad113, e113, hx113_0, p113, q113⟩ := rI HR0.out x4_1
      have hw113_0 := hx113_0
      obtain rfl : ad110 = ad113 := (by injection e113)
      replace hx113_0 := (HB.out.cell (World.block_lt_of_cell? w _ hx113_0)).trans hx113_0
      obtain ⟨ad114, e114, hx114_0, p114, q114⟩ := rI HR0.out (ji9)
      have hw114_0 := hx114_0
      obtain rfl : ad110 = ad114 := (by injection e114)
      replace hx114_0 := (HB.out.cell (World.block_lt_of_cell? w _ hx114_0)).trans hx114_0
      obtain ⟨Ao22, co22, eo22⟩ := Kd.R_slice HO_3.out
      (first | subst eo22 | (injection eo22 with f1_ f2_ f3_; have f4_ := f1_.symm; have f5_ := f3_.symm; clear f1_ f2_ f3_; subst f4_; subst f5_))
      obtain ⟨ad115, e115, hx115_0, p115, q115⟩ := rL (Kd.R_reads' HO_3.out).2.2 (ji9)
      cases e115
      have p20 : 0 ≤ (x4_1 : Int) := dT
      have q20 : (x4_1 : Int) < ((x3_1.length : Int) : Int) := dT
      obtain ⟨go20, co20, eo20, gb20, gl20, cl20, HG20⟩ := Kd.R_form HO_3.out (by omega)
      (first | cases eo20 | (injection eo20 with ea_ en_ ec_; (first | subst ea_ | (injection ea_ with ea_; subst ea_)); subst ec_; clear en_))
      have GB20 := Aside0.mk gb20
      have GG20 := Aside0.mk HG20
      clear gb20 gl20 HG20
      (first | simp only [add_plain] at hx115_0 | skip)
      obtain ⟨hx20_0, hf20_0⟩ := Kd.R_celln false HO_3.out (x4_1 : Int) p20 q20
      replace p20 := eq_true p20
      replace q20 := eq_true q20
      have HP23 := Kd.R_putn HO_3.out (x4_1 : Int) (rdOf false x3_1 (ji9))
      rw [← Ny116.out] at HP23
      have HQ23 := Aside0.mk HP23
      clear HP23
      refine start_ (n := 33) (S := fun w' => w'.cell? (ad110.add (x4_1).toNat) = some (.int .i64 (rd l0 x4_1)) ∧ w'.cell? (ad110.add ((ji9)).toNat) = some (.int .i64 (rd l0 (ji9))) ∧ w'.cell? (ad110.add (x4_1).toNat) = some (.int .i64 (rd l0 x4_1)) ∧ w'.cell? (ad110.add ((ji9)).toNat) = some (.int .i64 (rd l0 (ji9))) ∧ w'.cell? ⟨go20, ((ji9)).toNat, none⟩ = some (.bool (rdOf false x3_1 (ji9)))) (ds := [32]) #[false, false, false, false, false, false, false, false, false, false, false, false, false, false, false, false, false, false, false, false, false, false, false, false, false, false, false, false, false, false, false, false, false] (by kernel_rfl) rfl rfl ⟨((HB.out.cell (World.block_lt_of_cell? w _ hw110_0)).trans hw110_0), ((HB.out.cell (World.block_lt_of_cell? w _ hw111_0)).trans hw111_0), ((HB.out.cell (World.block_lt_of_cell? w _ hw113_0)).trans hw113_0), ((HB.out.cell (World.block_lt_of_cell? w _ hw114_0)).trans hw114_0), hx115_0⟩ (fun hHeld => ?_); refine with_tabW kinds_Small.tab5 kinds_Small.bits5 (fun HT_ HW_ => ?_)
      generalize wr.drew = w21 at HO_3 HB GG20 HQ23 hf20_0 hx110_0 hx111_0 hx113_0 hx114_0 hx115_0 hx20_0 hHeld ⊢
      refine pY (i := 0) (N := some 15) (bs 0 33) ?_
      refine pY (i := 1) (N := some 16) (bs 1 33) ?_
      refine pY (i := 2) (N := some 17) (bs 2 33) ?_
      refine pY (i := 3) (N := some 18) (bs 3 33) ?_
      refine pY (i := 4) (N := some 19) (bs 4 33) ?_
      refine pY (i := 6) (N := some 21) #[true, true, true, true, true, false, true, false, false, false, false, false, false, false, false, false, false, false, false, false, false, false, false, false, false, false, false, false, false, false, false, false, false] ?_
      refine pY (i := 7) (N := some 22) #[true, true, true, true, true, false, true, true, false, false, false, false, false, false, false, false, false, false, false, false, false, false, false, false, false, false, false, false, false, false, false, false, false] ?_
      refine pY (i := 8) (N := some 23) #[true, true, true, true, true, false, true, true, true, false, false, false, false, false, false, false, false, false, false, false, false, false, false, false, false, false, false, false, false, false, false, false, false] ?_
      refine pY (i := 9) (N := some 24) #[true, true, true, true, true, false, true, true, true, true, false, false, false, false, false, false, false, false, false, false, false, false, false, false, false, false, false, false, false, false, false, false, false] ?_
      refine take_ (i := 5) (N := some 20) (v := ?_) (a' := ?_) (bs 9 33) rfl rfl (take_ofW HT_.out HW_.out (by kernel_rfl)) (fun _ _ _ h => h) (Or.inl ⟨by rfl, ?_⟩) hHeld ?_ ?_
      rotate_left
      ·rintro w' ⟨s0, s1, s2, s3, s4⟩
       go_simp
       with_reducible rfl
      rotate_left
      ·simp only [Act.put, List.setIfInBounds_toArray, List.set_cons_zero, List.set_cons_succ, i64_w, i32_w]
       rfl
      refine take_ (i := 10) (N := some 25) (v := ?_) (a' := ?_) (bs 10 33) rfl rfl (take_ofW HT_.out HW_.out (by kernel_rfl)) (fun _ _ _ h => h) (Or.inl ⟨by rfl, ?_⟩) hHeld ?_ ?_
      rotate_left
      ·rintro w' ⟨s0, s1, s2, s3, s4⟩
       go_simp
       with_reducible rfl
      rotate_left
      ·simp only [Act.put, List.setIfInBounds_toArray, List.set_cons_zero, List.set_cons_succ, i64_w, i32_w]
       rfl
      refine pY (i := 11) (N := some 26) (bs 11 33) ?_
      refine pY (i := 12) (N := some 27) (bs 12 33) ?_
      refine pY (i := 13) (N := some 28) (bs 13 33) ?_
      refine pY (i := 14) (N := some 29) (bs 14 33) ?_
      refine pY (i := 15) (N := some 30) (bs 15 33) ?_
      refine pY (i := 17) (N := some 32) #[true, true, true, true, true, true, true, true, true, true, true, true, true, true, true, true, false, true, false, false, false, false, false, false, false, false, false, false, false, false, false, false, false] ?_
      refine pY (i := 18) (N := some 33) #[true, true, true, true, true, true, true, true, true, true, true, true, true, true, true, true, false, true, true, false, false, false, false, false, false, false, false, false, false, false, false, false, false] ?_
      refine pY (i := 19) (N := some 34) #[true, true, true, true, true, true, true, true, true, true, true, true, true, true, true, true, false, true, true, true, false, false, false, false, false, false, false, false, false, false, false, false, false] ?_
      refine pY (i := 20) (N := some 35) #[true, true, true, true, true, true, true, true, true, true, true, true, true, true, true, true, false, true, true, true, true, false, false, false, false, false, false, false, false, false, false, false, false] ?_
      refine take_ (i := 16) (N := some 31) (v := ?_) (a' := ?_) (bs 20 33) rfl rfl (take_ofW HT_.out HW_.out (by kernel_rfl)) (fun _ _ _ h => h) (Or.inl ⟨by rfl, ?_⟩) hHeld ?_ ?_
      rotate_left
      ·rintro w' ⟨s0, s1, s2, s3, s4⟩
       go_simp
       with_reducible rfl
      rotate_left
      ·simp only [Act.put, List.setIfInBounds_toArray, List.set_cons_zero, List.set_cons_succ, i64_w, i32_w]
       rfl
      refine take_ (i := 21) (N := some 36) (v := ?_) (a' := ?_) (bs 21 33) rfl rfl (take_ofW HT_.out HW_.out (by kernel_rfl)) (fun _ _ _ h => h) (Or.inl ⟨by rfl, ?_⟩) hHeld ?_ ?_
      rotate_left
      ·rintro w' ⟨s0, s1, s2, s3, s4⟩
       go_simp
       with_reducible rfl
      rotate_left
      ·simp only [Act.put, List.setIfInBounds_toArray, List.set_cons_zero, List.set_cons_succ, i64_w, i32_w]
       rfl
      refine pY (i := 22) (N := some 37) (bs 22 33) ?_
      refine pY (i := 23) (N := some 38) (bs 23 33) ?_
      refine pY (i := 24) (N := some 39) (bs 24 33) ?_
      refine pY (i := 25) (N := some 40) (bs 25 33) ?_
      refine pY (i := 26) (N := some 41) (bs 26 33) ?_
      refine pY (i := 27) (N := some 42) (bs 27 33) ?_
      refine take_ (i := 28) (N := some 43) (v := ?_) (a' := ?_) (bs 28 33) rfl rfl (take_ofW HT_.out HW_.out (by kernel_rfl)) (fun _ _ _ h => h) (Or.inl ⟨by rfl, ?_⟩) hHeld ?_ ?_
      rotate_left
      ·rintro w' ⟨s0, s1, s2, s3, s4⟩
       go_simp
       with_reducible rfl
      rotate_left
      ·simp only [Act.put, List.setIfInBounds_toArray, List.set_cons_zero, List.set_cons_succ, i64_w, i32_w]
       rfl
      refine pY (i := 29) (N := some 44) (bs 29 33) ?_
      refine pY (i := 30) (N := some 45) (bs 30 33) ?_
      refine pY (i := 31) (N := some 46) (bs 31 33) ?_
      refine last_ (i := 32) (N := none) (bs 32 33) rfl rfl (one_of HT_.out (by kernel_rfl)) (by decide) (fun K hK => ?_)
      refine skip_ (w1 := ?_) (by rfl) rfl ?_ ?_
      rotate_left
      ·go_simp
       rfl
      refine hK.out _ _ ?_
      clear hK K
      refine done_ (done_of HT_.out (by kernel_rfl)) ?_
      try go_wp2
      go_roundg k1
      case measure => have := HK1.out; omega
      case rel => exact ⟨(y116), (wrap64 (x4_1 - 1)), sD, H', ⟨by have := HK1.out; omega⟩, ⟨uR HQ23.out⟩, ⟨by repeat (first | (with_reducible first | exact HB.out | apply below_alloc | apply pw_below_drewN | apply below_drew1 | refine below_set ?_ GB20.out) | exact HB.out)⟩⟩
     ·rw [if_neg c17] at H
      have c17b0 : ((rd l0 x4_1) == (rd l0 (ji9))) = false := beq_eq_false_iff_ne.mpr c17
      have c17b1 : ((rd l0 x4_1) != (rd l0 (ji9))) = true := bne_iff_ne.mpr c17
      obtain ⟨c24b0, H⟩ := ifD H
      generalize hy117 : (x3_1.set (x4_1 : Int).toNat false : List Bool) = y117 at H
      try simp only [Option.bind_some] at H
      have Ny117 := Aside0.mk hy117.symm
      clear hy117
      have H' := Aside0.mk H
      clear H
      try go_wp2
      have n0_ := Aside0.mk (Kd.R_drew HO_3.out)
      have n1_ := Aside0.mk (below_drew1 HB.out)
      clear HO_3
      clear HB
      have HO_3 := n0_
      have HB := n1_
      clear n0_ n1_
      obtain ⟨ad110, e110, hx110_0, p110, q110⟩ := rI HR0.out x4_1
      have hw110_0 := hx110_0
      cases e110
      replace hx110_0 := (HB.out.cell (World.block_lt_of_cell? w _ hx110_0)).trans hx110_0
      obtain ⟨ad111, e111, hx111_0, p111, q111⟩ := rI HR0.out (ji9)
      have hw111_0 := hx111_0
      obtain rfl : ad110 = ad111 := (by injection e111)
      replace hx111_0 := (HB.out.cell (World.block_lt_of_cell? w _ hx111_0)).trans hx111_0
      obtain ⟨ad113, e113, hx113_0, p113, q113⟩ := rI HR0.out x4_1
      have hw113_0 := hx113_0
      obtain rfl : ad110 = ad113 := (by injection e113)
      replace hx113_0 := (HB.out.cell (World.block_lt_of_cell? w _ hx113_0)).trans hx113_0
      obtain ⟨ad114, e114, hx114_0, p114, q114⟩ := rI HR0.out (ji9)
      have hw114_0 := hx114_0
      obtain rfl : ad110 = ad114 := (by injection e114)
      replace hx114_0 := (HB.out.cell (World.block_lt_of_cell? w _ hx114_0)).trans hx114_0
      have p25 : 0 ≤ (x4_1 : Int) := dT
      have q25 : (x4_1 : Int) < ((x3_1.length : Int) : Int) := dT
      obtain ⟨go25, co25, eo25, gb25, gl25, cl25, HG25⟩ := Kd.R_form HO_3.out (by omega)
      (first | cases eo25 | (injection eo25 with ea_ en_ ec_; (first | subst ea_ | (injection ea_ with ea_; subst ea_)); subst ec_; clear en_))
      have GB25 := Aside0.mk gb25
      have GG25 := Aside0.mk HG25
      clear gb25 gl25 HG25
      obtain ⟨hx25_0, hf25_0⟩ := Kd.R_celln false HO_3.out (x4_1 : Int) p25 q25
      replace p25 := eq_true p25
      replace q25 := eq_true q25
      have HP27 := Kd.R_putn HO_3.out (x4_1 : Int) false
      rw [← Ny117.out] at HP27
      have HQ27 := Aside0.mk HP27
      clear HP27
      refine start_ (n := 33) (S := fun w' => w'.cell? (ad110.add (x4_1).toNat) = some (.int .i64 (rd l0 x4_1)) ∧ w'.cell? (ad110.add ((ji9)).toNat) = some (.int .i64 (rd l0 (ji9))) ∧ w'.cell? (ad110.add (x4_1).toNat) = some (.int .i64 (rd l0 x4_1)) ∧ w'.cell? (ad110.add ((ji9)).toNat) = some (.int .i64 (rd l0 (ji9)))) (ds := [32]) #[false, false, false, false, false, false, false, false, false, false, false, false, false, false, false, false, false, false, false, false, false, false, false, false, false, false, false, false, false, false, false, false, false] (by kernel_rfl) rfl rfl ⟨((HB.out.cell (World.block_lt_of_cell? w _ hw110_0)).trans hw110_0), ((HB.out.cell (World.block_lt_of_cell? w _ hw111_0)).trans hw111_0), ((HB.out.cell (World.block_lt_of_cell? w _ hw113_0)).trans hw113_0), ((HB.out.cell (World.block_lt_of_cell? w _ hw114_0)).trans hw114_0)⟩ (fun hHeld => ?_); refine with_tabW kinds_Small.tab5 kinds_Small.bits5 (fun HT_ HW_ => ?_)
      generalize wr.drew = w26 at HO_3 HB GG25 HQ27 hf25_0 hx110_0 hx111_0 hx113_0 hx114_0 hx25_0 hHeld ⊢
      refine pY (i := 0) (N := some 15) (bs 0 33) ?_
      refine pY (i := 1) (N := some 16) (bs 1 33) ?_
      refine pY (i := 2) (N := some 17) (bs 2 33) ?_
      refine pY (i := 3) (N := some 18) (bs 3 33) ?_
      refine pY (i := 4) (N := some 19) (bs 4 33) ?_
      refine pY (i := 6) (N := some 21) #[true, true, true, true, true, false, true, false, false, false, false, false, false, false, false, false, false, false, false, false, false, false, false, false, false, false, false, false, false, false, false, false, false] ?_
      refine pY (i := 7) (N := some 22) #[true, true, true, true, true, false, true, true, false, false, false, false, false, false, false, false, false, false, false, false, false, false, false, false, false, false, false, false, false, false, false, false, false] ?_
      refine pY (i := 8) (N := some 23) #[true, true, true, true, true, false, true, true, true, false, false, false, false, false, false, false, false, false, false, false, false, false, false, false, false, false, false, false, false, false, false, false, false] ?_
      refine pY (i := 9) (N := some 24) #[true, true, true, true, true, false, true, true, true, true, false, false, false, false, false, false, false, false, false, false, false, false, false, false, false, false, false, false, false, false, false, false, false] ?_
      refine take_ (i := 5) (N := some 20) (v := ?_) (a' := ?_) (bs 9 33) rfl rfl (take_ofW HT_.out HW_.out (by kernel_rfl)) (fun _ _ _ h => h) (Or.inl ⟨by rfl, ?_⟩) hHeld ?_ ?_
      rotate_left
      ·rintro w' ⟨s0, s1, s2, s3⟩
       go_simp
       with_reducible rfl
      rotate_left
      ·simp only [Act.put, List.setIfInBounds_toArray, List.set_cons_zero, List.set_cons_succ, i64_w, i32_w]
       rfl
      refine take_ (i := 10) (N := some 25) (v := ?_) (a' := ?_) (bs 10 33) rfl rfl (take_ofW HT_.out HW_.out (by kernel_rfl)) (fun _ _ _ h => h) (Or.inl ⟨by rfl, ?_⟩) hHeld ?_ ?_
      rotate_left
      ·rintro w' ⟨s0, s1, s2, s3⟩
       go_simp
       with_reducible rfl
      rotate_left
      ·simp only [Act.put, List.setIfInBounds_toArray, List.set_cons_zero, List.set_cons_succ, i64_w, i32_w]
       rfl
      refine pY (i := 11) (N := some 26) (bs 11 33) ?_
      refine pY (i := 12) (N := some 27) (bs 12 33) ?_
      refine pY (i := 13) (N := some 28) (bs 13 33) ?_
      refine pY (i := 14) (N := some 29) (bs 14 33) ?_
      refine pY (i := 15) (N := some 30) (bs 15 33) ?_
      refine pY (i := 17) (N := some 32) #[true, true, true, true, true, true, true, true, true, true, true, true, true, true, true, true, false, true, false, false, false, false, false, false, false, false, false, false, false, false, false, false, false] ?_
      refine pY (i := 18) (N := some 33) #[true, true, true, true, true, true, true, true, true, true, true, true, true, true, true, true, false, true, true, false, false, false, false, false, false, false, false, false, false, false, false, false, false] ?_
      refine pY (i := 19) (N := some 34) #[true, true, true, true, true, true, true, true, true, true, true, true, true, true, true, true, false, true, true, true, false, false, false, false, false, false, false, false, false, false, false, false, false] ?_
      refine pY (i := 20) (N := some 35) #[true, true, true, true, true, true, true, true, true, true, true, true, true, true, true, true, false, true, true, true, true, false, false, false, false, false, false, false, false, false, false, false, false] ?_
      refine take_ (i := 16) (N := some 31) (v := ?_) (a' := ?_) (bs 20 33) rfl rfl (take_ofW HT_.out HW_.out (by kernel_rfl)) (fun _ _ _ h => h) (Or.inl ⟨by rfl, ?_⟩) hHeld ?_ ?_
      rotate_left
      ·rintro w' ⟨s0, s1, s2, s3⟩
       go_simp
       with_reducible rfl
      rotate_left
      ·simp only [Act.put, List.setIfInBounds_toArray, List.set_cons_zero, List.set_cons_succ, i64_w, i32_w]
       rfl
      refine take_ (i := 21) (N := some 36) (v := ?_) (a' := ?_) (bs 21 33) rfl rfl (take_ofW HT_.out HW_.out (by kernel_rfl)) (fun _ _ _ h => h) (Or.inl ⟨by rfl, ?_⟩) hHeld ?_ ?_
      rotate_left
      ·rintro w' ⟨s0, s1, s2, s3⟩
       go_simp
       with_reducible rfl
      rotate_left
      ·simp only [Act.put, List.setIfInBounds_toArray, List.set_cons_zero, List.set_cons_succ, i64_w, i32_w]
       rfl
      refine pY (i := 22) (N := some 37) (bs 22 33) ?_
      refine pY (i := 23) (N := some 38) (bs 23 33) ?_
      refine pU (i := 24) (N := some 39) (bs 24 33) ?_
      refine pU (i := 25) (N := some 40) (bs 25 33) ?_
      refine pU (i := 26) (N := some 41) (bs 26 33) ?_
      refine pU (i := 27) (N := some 42) (bs 27 33) ?_
      refine pU (i := 28) (N := some 43) (bs 28 33) ?_
      refine pY (i := 29) (N := some 44) (bs 29 33) ?_
      refine pY (i := 30) (N := some 45) (bs 30 33) ?_
      refine pY (i := 31) (N := some 46) (bs 31 33) ?_
      refine last_ (i := 32) (N := none) (bs 32 33) rfl rfl (one_of HT_.out (by kernel_rfl)) (by decide) (fun K hK => ?_)
      refine skip_ (w1 := ?_) (by rfl) rfl ?_ ?_
      rotate_left
      ·go_simp
       rfl
      refine hK.out _ _ ?_
      clear hK K
      refine done_ (done_of HT_.out (by kernel_rfl)) ?_
      try go_wp2
      go_roundg k1
      case measure => have := HK1.out; omega
      case rel => exact ⟨(y117), (wrap64 (x4_1 - 1)), sD, H', ⟨by have := HK1.out; omega⟩, ⟨uR HQ27.out⟩, ⟨by repeat (first | (with_reducible first | exact HB.out | apply below_alloc | apply pw_below_drewN | apply below_drew1 | refine below_set ?_ GB25.out) | exact HB.out)⟩⟩
   ·obtain rfl := Option.some.inj H
    go_wp2
    go_ret
    exact ⟨_, eR, uR HO_3.out, uB⟩
def kinds_First.l0 : Nat → List Int → List Bool → Int → Int → Option (List Int)
  | 0, _, _, _, _ => none
  | k + 1, x3, x4, x9, x10 => if x10 < x9 then (if x10 > 0 then (if 0 ≤ x10 then (if x10 < (x4.length : Int) then (if rdOf false x4 x10 = true then (if 0 ≤ (wrap64 (x10 - 1)) then (if (wrap64 (x10 - 1)) < (x4.length : Int) then (if (rdOf false x4 (wrap64 (x10 - 1)) = true) then (kinds_First.l0 k x3 x4 x9 (wrap64 (x10 + 1))) else (if x3.length < 17592186044416 then (kinds_First.l0 k (x3 ++ [x10]) x4 x9 (wrap64 (x10 + 1))) else (none))) else (none)) else (none)) else (kinds_First.l0 k x3 x4 x9 (wrap64 (x10 + 1)))) else (none)) else (none)) else (kinds_First.l0 k x3 x4 x9 (wrap64 (x10 + 1)))) else (some x3)
def kinds_First.f (k : Nat) (l0 : List Int) : Option (List Int) := (kinds_Small.f k l0).bind fun t118 => (kinds_First.l0 k ([] : List Int) t118 (l0.length : Int) 0)
theorem kinds_First.calls (k : Nat) (A0 : Option Addr) (c0 : Nat) (l0 : List Int) (r : List Int) (w : World) (hr0 : Kd.C (Kd.int .i64) w A0 l0.length l0) (hc0 : l0.length ≤ c0) (h : kinds_First.f k l0 = some r) :
    Calls Tryz.prog 104 #[.slice A0 l0.length c0] w fun e w' => ∃ v0_ : Value, e = .returned (v0_) ∧ Kd.R (Kd.int .i64) 3 w' w.heap.size (fun _ => True) v0_ r ∧ Below w.heap.size w w' := by
 have HR0 := Aside0.mk hr0
 have HC0 := Aside0.mk hc0
 clear hr0 hc0
 have HB := Aside0.mk (Below.refl w.heap.size w)
 have H := h
 clear h
 unfold kinds_First.f at H
 obtain ⟨t118, A2, H⟩ := bdS H
 try dsimp only at H
 have H' := Aside0.mk H
 clear H
 go_enter Tryz.func104, Tryz.ntmps104
 go_wp2_with (first | ((with_reducible refine gate_callee (f := 120) rfl ?_); refine goesL_ (some 7) rfl rfl Tryz.func120 (by kernel_rfl) rfl #[.slice A0 l0.length c0] rfl aE ?_; (with_reducible refine (kinds_Small.calls k _ _ l0 t118 _ ?side1 ?side2 A2.out).mono ?_); (case side1 => exact uC HR0.out); (case side2 => exact HC0.out); rintro e w3 ⟨v119, rfl, ho0, hb⟩; refine ⟨_, rfl, ?_⟩; have n0_ := Aside0.mk (Kd.R_lower ho0 (below_size uB)); have n1_ := Aside0.mk (below_step uB hb); clear HB; have HO120 := n0_; have HB := n1_; clear n0_ n1_))
 go_loopg [3, 10] k (fun kq v3 v10 w' => ∃ (x3_1 : List Int) (x10_1 : Int), v10 = .int .i64 x10_1 ∧ Aside0 (kinds_First.l0 kq x3_1 t118 (l0.length : Int) x10_1 = some r) ∧ Aside0 (kq ≤ k) ∧ Aside0 (Kd.R (Kd.int .i64) 3 w' w.heap.size (fun _ => True) v3 x3_1) ∧ Aside0 (Kd.R Kd.bool 4 w' w.heap.size (fun _ => True) v119 t118) ∧ Aside0 (Below w.heap.size w w'))
 case atStart => exact ⟨(([] : List Int)), (0), sD, H', ⟨Nat.le_refl _⟩, ⟨nL⟩, ⟨uR HO120.out⟩, ⟨uB⟩⟩
 case round =>
  clear H'
  obtain ⟨x3_1, x10_1, rfl, HA, HK1, HO_3, HO_4, HB⟩ := hrel
  cases gk with
  | zero => exact absurd HA.out (by simp [kinds_First.l0])
  | succ k1 =>
   have H := HA.out
   clear HA
   simp only [kinds_First.l0] at H
   rcases ifC H with ⟨c4b0, H⟩ | ⟨c4b0, H⟩
   ·rcases ifK H with ⟨c5b0, H⟩ | ⟨c5b0, H⟩
    ·obtain ⟨c6b0, c7b0, H⟩ := ifD2 H
     obtain ⟨bq8, hbq8⟩ : ∃ b_ : Bool, b_ = (rdOf false t118 x10_1) := ⟨_, rfl⟩
     replace H : (if bq8 = true then (if 0 ≤ (wrap64 (x10_1 - 1)) then (if (wrap64 (x10_1 - 1)) < (t118.length : Int) then (if (rdOf false t118 (wrap64 (x10_1 - 1)) = true) then (kinds_First.l0 k1 x3_1 t118 (l0.length : Int) (wrap64 (x10_1 + 1))) else (if x3_1.length < 17592186044416 then (kinds_First.l0 k1 (x3_1 ++ [x10_1]) t118 (l0.length : Int) (wrap64 (x10_1 + 1))) else (none))) else (none)) else (none)) else (kinds_First.l0 k1 x3_1 t118 (l0.length : Int) (wrap64 (x10_1 + 1)))) = some r := by rw [← hbq8] at H; exact H
     have Nbq8 := Aside0.mk hbq8
     clear hbq8
     by_cases c9 : bq8 = true
     ·subst c9
      rw [if_pos rfl] at H
      obtain ⟨ji10, hji10⟩ : ∃ j_ : Int, (wrap64 (x10_1 - 1)) = j_ := ⟨_, rfl⟩
      first | rw [hji10] at H | simp only [hji10] at H
      have hji10w : (IntKind.i64.wrap (x10_1 - 1)) = ji10 := (i64_w _).trans hji10
      obtain ⟨c11b0, c12b0, H⟩ := ifD2 H
      obtain ⟨bq13, hbq13⟩ : ∃ b_ : Bool, b_ = (rdOf false t118 (ji10)) := ⟨_, rfl⟩
      replace H : (if (bq13 = true) then (kinds_First.l0 k1 x3_1 t118 (l0.length : Int) (wrap64 (x10_1 + 1))) else (if x3_1.length < 17592186044416 then (kinds_First.l0 k1 (x3_1 ++ [x10_1]) t118 (l0.length : Int) (wrap64 (x10_1 + 1))) else (none))) = some r := by rw [← hbq13] at H; exact H
      have Nbq13 := Aside0.mk hbq13
      clear hbq13
      by_cases c14 : (bq13 = true)
      ·subst c14
       rw [if_pos rfl] at H
       have H' := Aside0.mk H
       clear H
       obtain ⟨Ao15, co15, eo15⟩ := Kd.R_slice HO_4.out
       subst eo15
       have p121 : 0 ≤ (x10_1 : Int) := dT
       have q121 : x10_1 < (t118.length : Int) := dT
       obtain ⟨ad121, e121, hx121_0⟩ := Kd.at_bool (Kd.R_reads' HO_4.out).2.2 x10_1 p121 q121
       (try rw [← Nbq8.out] at hx121_0)
       (try rw [← Nbq13.out] at hx121_0)
       cases e121
       replace p121 := eq_true p121
       replace q121 := eq_true q121
       have p122 : 0 ≤ ((ji10) : Int) := dT
       have q122 : (ji10) < (t118.length : Int) := dT
       obtain ⟨ad122, e122, hx122_0⟩ := Kd.at_bool (Kd.R_reads' HO_4.out).2.2 (ji10) p122 q122
       (try rw [← Nbq8.out] at hx122_0)
       (try rw [← Nbq13.out] at hx122_0)
       obtain rfl : ad121 = ad122 := (by injection e122)
       replace p122 := eq_true p122
       replace q122 := eq_true q122
       go_wp2
       go_roundg k1
       case measure => have := HK1.out; omega
       case rel => exact ⟨(x3_1), (wrap64 (x10_1 + 1)), sD, H', ⟨by have := HK1.out; omega⟩, ⟨uR HO_3.out⟩, ⟨uR HO_4.out⟩, ⟨uB⟩⟩
      ·replace c14 := Bool.eq_false_iff.mpr c14
       subst c14
       rw [if_neg (by decide)] at H
       obtain ⟨c16, H⟩ := ifP H
       have LMc16 := Aside0.mk c16
       clear c16
       generalize hy123 : (x3_1 ++ [x10_1] : List Int) = y123 at H
       try simp only [Option.bind_some] at H
       have Ny123 := Aside0.mk hy123.symm
       clear hy123
       have H' := Aside0.mk H
       clear H
       obtain ⟨Ao17, co17, eo17⟩ := Kd.R_slice HO_4.out
       subst eo17
       have p121 : 0 ≤ (x10_1 : Int) := dT
       have q121 : x10_1 < (t118.length : Int) := dT
       obtain ⟨ad121, e121, hx121_0⟩ := Kd.at_bool (Kd.R_reads' HO_4.out).2.2 x10_1 p121 q121
       (try rw [← Nbq8.out] at hx121_0)
       (try rw [← Nbq13.out] at hx121_0)
       cases e121
       replace p121 := eq_true p121
       replace q121 := eq_true q121
       have p122 : 0 ≤ ((ji10) : Int) := dT
       have q122 : (ji10) < (t118.length : Int) := dT
       obtain ⟨ad122, e122, hx122_0⟩ := Kd.at_bool (Kd.R_reads' HO_4.out).2.2 (ji10) p122 q122
       (try rw [← Nbq8.out] at hx122_0)
       (try rw [← Nbq13.out] at hx122_0)
       obtain rfl : ad121 = ad122 := (by injection e122)
       replace p122 := eq_true p122
       replace q122 := eq_true q122
       go_wp2_with (first | ((with_reducible refine gate_builtin (b := .append) (xs := #[.tmp 29, .tmp 31]) rfl ?_); at_builtin; refine Kd.R_append (Kd.int .i64) (w0 := w) w.heap.size rfl (.tmp 29) (.tmp 31) 29 3 (.int .i64 0) 8 rfl Tryz.underlying29 info3 rfl (by decide) (by omega) u3 x3_1 x10_1 [.int .i64 x10_1] (fun _ => True) (fun _ => False) rfl rfl ?aP (fun _ hk => hk.elim) ?aF ?aO ?aB ?aS ?aL ?_; (case aP => exact rfl); (case aB => exact uB); (case aF => exact (fun _ _ => trivial)); (case aO => exact (uR HO_3.out)); (case aS => exact (below_size uB)); (case aL => have := LMc16.out; omega); intro v124 w18 ho hb hg hat; rw [← Ny123.out] at ho; have n0_ := Aside0.mk (Kd.R_over' (uR HO_4.out) (Kd.R_typed (uR HO_3.out)) (by decide) hg); have n1_ := Aside0.mk (hb); have n2_ := Aside0.mk (ho); clear HO_4 HB HO_3; have HO_4 := n0_; have HB := n1_; have HO125 := n2_; clear n0_ n1_ n2_; clear ho hb hg hat))
       go_roundg k1
       case measure => have := HK1.out; omega
       case rel => exact ⟨(y123), (wrap64 (x10_1 + 1)), sD, H', ⟨by have := HK1.out; omega⟩, ⟨uR HO125.out⟩, ⟨uR HO_4.out⟩, ⟨uB⟩⟩
     ·replace c9 := Bool.eq_false_iff.mpr c9
      subst c9
      rw [if_neg (by decide)] at H
      have H' := Aside0.mk H
      clear H
      obtain ⟨Ao19, co19, eo19⟩ := Kd.R_slice HO_4.out
      subst eo19
      have p121 : 0 ≤ (x10_1 : Int) := dT
      have q121 : x10_1 < (t118.length : Int) := dT
      obtain ⟨ad121, e121, hx121_0⟩ := Kd.at_bool (Kd.R_reads' HO_4.out).2.2 x10_1 p121 q121
      (try rw [← Nbq8.out] at hx121_0)
      cases e121
      replace p121 := eq_true p121
      replace q121 := eq_true q121
      go_wp2
      go_roundg k1
      case measure => have := HK1.out; omega
      case rel => exact ⟨(x3_1), (wrap64 (x10_1 + 1)), sD, H', ⟨by have := HK1.out; omega⟩, ⟨uR HO_3.out⟩, ⟨uR HO_4.out⟩, ⟨uB⟩⟩
    ·have H' := Aside0.mk H
     clear H
     go_wp2
     go_roundg k1
     case measure => have := HK1.out; omega
     case rel => exact ⟨(x3_1), (wrap64 (x10_1 + 1)), sD, H', ⟨by have := HK1.out; omega⟩, ⟨uR HO_3.out⟩, ⟨uR HO_4.out⟩, ⟨uB⟩⟩
   ·obtain rfl := Option.some.inj H
    go_wp2
    go_ret
    exact ⟨_, eR, uR HO_3.out, uB⟩
def slices_Equal_int_int.l0 : Nat → List Int → List Int → Int → Int → Option (Bool)
  | 0, _, _, _, _ => none
  | k + 1, x0, x1, x12, x13 => if x13 < x12 then (if 0 ≤ x13 then (if x13 < (x0.length : Int) then (if x13 < (x1.length : Int) then (if (rd x0 x13) = (rd x1 x13) then (slices_Equal_int_int.l0 k x0 x1 x12 (wrap64 (x13 + 1))) else (some false)) else (none)) else (none)) else (none)) else (some true)
def slices_Equal_int_int.f (k : Nat) (l0 : List Int) (l1 : List Int) : Option (Bool) := if (l0.length : Int) = (l1.length : Int) then (slices_Equal_int_int.l0 k l0 l1 (l0.length : Int) 0) else (some false)
theorem slices_Equal_int_int.calls (k : Nat) (A0 : Option Addr) (c0 : Nat) (l0 : List Int) (A1 : Option Addr) (c1 : Nat) (l1 : List Int) (r : Bool) (w : World) (hr0 : Kd.C (Kd.int .i64) w A0 l0.length l0) (hc0 : l0.length ≤ c0) (hr1 : Kd.C (Kd.int .i64) w A1 l1.length l1) (hc1 : l1.length ≤ c1) (h : slices_Equal_int_int.f k l0 l1 = some r) :
    Calls Tryz.prog 63 #[.slice A0 l0.length c0, .slice A1 l1.length c1] w fun e w' => e = .returned (.bool r) ∧ Drawn0 w w' := by
 have HR0 := Aside0.mk hr0
 have HC0 := Aside0.mk hc0
 clear hr0 hc0
 have HR1 := Aside0.mk hr1
 have HC1 := Aside0.mk hc1
 clear hr1 hc1
 have H := h
 clear h
 unfold slices_Equal_int_int.f at H
 by_cases c3 : (l0.length : Int) = (l1.length : Int)
 ·rw [if_pos c3] at H
  have c3b0 : ((l0.length : Int) == (l1.length : Int)) = true := beq_iff_eq.mpr c3
  have c3b1 : ((l0.length : Int) != (l1.length : Int)) = false := bne_eq_false_iff_eq.mpr c3
  have c3b2 : (l0.length == l1.length) = true := by first | simpa using c3 | (simp at c3 ⊢; omega)
  clear c3
  have H' := Aside0.mk H
  clear H
  go_enter Tryz.func63, Tryz.ntmps63
  go_wp2
  repeat (go_quiet (fail); try go_wp2)
  go_loopg [13] k (fun kq v13 w' => ∃ (x13_1 : Int), v13 = .int .i64 x13_1 ∧ Aside0 (slices_Equal_int_int.l0 kq l0 l1 (l0.length : Int) x13_1 = some r) ∧ Aside0 (kq ≤ k) ∧ Drawn0 w w')
  case atStart => exact ⟨(0), sD, H', ⟨Nat.le_refl _⟩, dD⟩
  case round =>
   clear H'
   obtain ⟨x13_1, rfl, HA, HK1, ⟨m1, rfl⟩⟩ := hrel
   cases gk with
   | zero => exact absurd HA.out (by simp [slices_Equal_int_int.l0])
   | succ k1 =>
    have H := HA.out
    clear HA
    simp only [slices_Equal_int_int.l0] at H
    rcases ifC H with ⟨c4b0, H⟩ | ⟨c4b0, H⟩
    ·obtain ⟨c5b0, H⟩ := ifD H
     obtain ⟨c6b0, c7b0, H⟩ := ifD2 H
     by_cases c8 : (rd l0 x13_1) = (rd l1 x13_1)
     ·rw [if_pos c8] at H
      have c8b0 : ((rd l0 x13_1) == (rd l1 x13_1)) = true := beq_iff_eq.mpr c8
      have c8b1 : ((rd l0 x13_1) != (rd l1 x13_1)) = false := bne_eq_false_iff_eq.mpr c8
      clear c8
      have H' := Aside0.mk H
      clear H
      obtain ⟨ad126, e126, hx126_0, p126, q126⟩ := rI HR0.out x13_1
      cases e126
      obtain ⟨ad127, e127, hx127_0, p127, q127⟩ := rI HR1.out x13_1
      cases e127
      go_wp2
      repeat (go_quiet (fail); try go_wp2)
      go_roundg k1
      case measure => have := HK1.out; omega
      case rel => exact ⟨(wrap64 (x13_1 + 1)), sD, H', ⟨by have := HK1.out; omega⟩, dD⟩
     ·rw [if_neg c8] at H
      have c8b0 : ((rd l0 x13_1) == (rd l1 x13_1)) = false := beq_eq_false_iff_ne.mpr c8
      have c8b1 : ((rd l0 x13_1) != (rd l1 x13_1)) = true := bne_iff_ne.mpr c8
      obtain rfl := Option.some.inj H
      obtain ⟨ad126, e126, hx126_0, p126, q126⟩ := rI HR0.out x13_1
      cases e126
      obtain ⟨ad127, e127, hx127_0, p127, q127⟩ := rI HR1.out x13_1
      cases e127
      go_wp2
      repeat (go_quiet (fail); try go_wp2)
      go_ret
      exact ⟨sD, dD⟩
    ·obtain rfl := Option.some.inj H
     go_wp2
     repeat (go_quiet (fail); try go_wp2)
     go_ret
     exact ⟨sD, dD⟩
 ·rw [if_neg c3] at H
  have c3b0 : ((l0.length : Int) == (l1.length : Int)) = false := beq_eq_false_iff_ne.mpr c3
  have c3b1 : ((l0.length : Int) != (l1.length : Int)) = true := bne_iff_ne.mpr c3
  have c3b2 : (l0.length == l1.length) = false := by first | simpa using c3 | (simp at c3 ⊢; omega)
  obtain rfl := Option.some.inj H
  go_enter Tryz.func63, Tryz.ntmps63
  go_wp2
  repeat (go_quiet (fail); try go_wp2)
  go_ret
  exact ⟨sD, dD⟩
def cmp_isNaN_int.f (a0 : Int) : Option (Bool) := some (a0 != a0)
theorem cmp_isNaN_int.calls (a0 : Int) (r : Bool) (w : World) (h : cmp_isNaN_int.f a0 = some r) :
    Calls Tryz.prog 103 #[.int .i64 a0] w fun e w' => e = .returned (.bool r) ∧ Drawn0 w w' := by
 have H := h
 clear h
 unfold cmp_isNaN_int.f at H
 obtain rfl := Option.some.inj H
 go_enter Tryz.func103, Tryz.ntmps103
 go_wp2
 go_ret
 exact ⟨sD, dD⟩
def cmp_Less_int.f (a0 : Int) (a1 : Int) : Option (Bool) := (cmp_isNaN_int.f a0).bind fun t128 => (if t128 = true then ((cmp_isNaN_int.f a1).bind fun t129 => (if t129 = true then (some (decide (a0 < a1))) else (some true))) else (some (decide (a0 < a1))))
theorem cmp_Less_int.calls (a0 : Int) (a1 : Int) (r : Bool) (w : World) (h : cmp_Less_int.f a0 a1 = some r) :
    Calls Tryz.prog 155 #[.int .i64 a0, .int .i64 a1] w fun e w' => e = .returned (.bool r) ∧ Drawn0 w w' := by
 have H := h
 clear h
 unfold cmp_Less_int.f at H
 obtain ⟨t128, A3, H⟩ := bdS H
 try dsimp only at H
 by_cases c4 : t128 = true
 ·subst c4
  rw [if_pos rfl] at H
  obtain ⟨t129, A5, H⟩ := bdS H
  try dsimp only at H
  by_cases c6 : t129 = true
  ·subst c6
   rw [if_pos rfl] at H
   obtain rfl := Option.some.inj H
   go_enter Tryz.func155, Tryz.ntmps155
   go_wp2_with (first | ((with_reducible refine gate_callee (f := 103) rfl ?_); refine goesL_ (some 6) rfl rfl Tryz.func103 (by kernel_rfl) rfl #[.int .i64 a0] rfl aE ?_; (with_reducible refine (cmp_isNaN_int.calls a0 true _ A3.out).mono ?_); rintro e w' ⟨rfl, ⟨nd, rfl⟩⟩; refine ⟨_, rfl, ?_⟩) | (go_at_call 103; (with_reducible refine (cmp_isNaN_int.calls a1 true _ A5.out).mono ?_); rintro e w' ⟨rfl, ⟨nd, rfl⟩⟩))
   go_ret
   exact ⟨sD, dD⟩
  ·replace c6 := Bool.eq_false_iff.mpr c6
   subst c6
   rw [if_neg (by decide)] at H
   obtain rfl := Option.some.inj H
   go_enter Tryz.func155, Tryz.ntmps155
   go_wp2_with (first | ((with_reducible refine gate_callee (f := 103) rfl ?_); refine goesL_ (some 6) rfl rfl Tryz.func103 (by kernel_rfl) rfl #[.int .i64 a0] rfl aE ?_; (with_reducible refine (cmp_isNaN_int.calls a0 true _ A3.out).mono ?_); rintro e w' ⟨rfl, ⟨nd, rfl⟩⟩; refine ⟨_, rfl, ?_⟩) | (go_at_call 103; (with_reducible refine (cmp_isNaN_int.calls a1 false _ A5.out).mono ?_); rintro e w' ⟨rfl, ⟨nd, rfl⟩⟩))
   go_ret
   exact ⟨sD, dD⟩
 ·replace c4 := Bool.eq_false_iff.mpr c4
  subst c4
  rw [if_neg (by decide)] at H
  obtain rfl := Option.some.inj H
  go_enter Tryz.func155, Tryz.ntmps155
  go_wp2_with (first | ((with_reducible refine gate_callee (f := 103) rfl ?_); refine goesL_ (some 6) rfl rfl Tryz.func103 (by kernel_rfl) rfl #[.int .i64 a0] rfl aE ?_; (with_reducible refine (cmp_isNaN_int.calls a0 false _ A3.out).mono ?_); rintro e w' ⟨rfl, ⟨nd, rfl⟩⟩; refine ⟨_, rfl, ?_⟩))
  go_ret
  exact ⟨sD, dD⟩
def bucket_Starts.l0 : Nat → List Int → Int → List Int → Int → Int → Option (List Int)
  | 0, _, _, _, _, _ => none
  | k + 1, x3, x4, x10, x11, x12 => if x12 < x11 then (if 0 ≤ x12 then (if x12 < (x10.length : Int) then (if x12 < (x3.length : Int) then (bucket_Starts.l0 k (x3.set (x12 : Int).toNat x4) (wrap64 (x4 + (rd x10 x12))) x10 x11 (wrap64 (x12 + 1))) else (none)) else (none)) else (none)) else (some x3)
def bucket_Starts.f (k : Nat) (l0 : List Int) : Option (List Int) := if 0 ≤ (l0.length : Int) then (if ((l0.length : Int) : Int).toNat ≤ 35184372088832 then (bucket_Starts.l0 k (List.replicate ((l0.length : Int) : Int).toNat 0) 0 l0 (l0.length : Int) 0) else (none)) else (none)
theorem bucket_Starts.calls (k : Nat) (A0 : Option Addr) (c0 : Nat) (l0 : List Int) (r : List Int) (w : World) (hr0 : Kd.C (Kd.int .i64) w A0 l0.length l0) (hc0 : l0.length ≤ c0) (h : bucket_Starts.f k l0 = some r) :
    Calls Tryz.prog 93 #[.slice A0 l0.length c0] w fun e w' => ∃ v0_ : Value, e = .returned (v0_) ∧ Kd.R (Kd.int .i64) 3 w' w.heap.size (fun _ => True) v0_ r ∧ Below w.heap.size w w' := by
 have HR0 := Aside0.mk hr0
 have HC0 := Aside0.mk hc0
 clear hr0 hc0
 have HB := Aside0.mk (Below.refl w.heap.size w)
 have H := h
 clear h
 unfold bucket_Starts.f at H
 obtain ⟨c2b0, c2b1, H⟩ := ifE H
 obtain ⟨c3b0, c3b1, H⟩ := ifE H
 generalize hy130 : (List.replicate ((l0.length : Int) : Int).toNat 0 : List Int) = y130 at H
 try simp only [Option.bind_some] at H
 have Ny130 := Aside0.mk hy130.symm
 clear hy130
 have H' := Aside0.mk H
 clear H
 go_enter Tryz.func93, Tryz.ntmps93
 go_wp2_with (first | ((with_reducible refine gate_dst (N := 9) rfl ?_); refine Kd.R_make (Kd.int .i64) _ 3 rfl (N := 9) rfl 29 _ _ rfl (l0.length : Int) rfl rfl Tryz.underlying29 (.int .i64 0) 8 info3 rfl (by decide) (by omega) 0 (ok := fun _ => True) (okp := fun _ => True) rfl (fun _ hk => hk) trivial dT (Nat.le_trans (Nat.mul_le_mul_right _ (dT : (l0.length : Int).toNat ≤ 35184372088832)) (by omega)) (Below.refl _ _) (Nat.le_refl _) ?_; intro v131 w4 ho5 hb hg_ hnew_; clear hg_ hnew_; (first | rw [← Ny130.out] at ho5 | (simp only [Int.reduceToNat] at ho5; rw [← Ny130.out] at ho5)); have n0_ := Aside0.mk (Kd.R_lower ho5 (below_size uB)); have n1_ := Aside0.mk (below_step uB hb); clear HB; have HO132 := n0_; have HB := n1_; clear n0_ n1_; clear hb ho5))
 go_loopg [4, 12] k (fun kq v4 v12 w' => ∃ (x3_1 : List Int) (x4_1 : Int) (x12_1 : Int), v4 = .int .i64 x4_1 ∧ v12 = .int .i64 x12_1 ∧ Aside0 (bucket_Starts.l0 kq x3_1 x4_1 l0 (l0.length : Int) x12_1 = some r) ∧ Aside0 (kq ≤ k) ∧ Aside0 (Kd.R (Kd.int .i64) 3 w' w.heap.size (fun _ => True) v131 x3_1) ∧ Aside0 (Below w.heap.size w w'))
 case atStart => exact ⟨(y130), (0), (0), sD, sD, H', ⟨Nat.le_refl _⟩, ⟨uR HO132.out⟩, ⟨uB⟩⟩
 case round =>
  clear H'
  obtain ⟨x3_1, x4_1, x12_1, rfl, rfl, HA, HK1, HO_3, HB⟩ := hrel
  cases gk with
  | zero => exact absurd HA.out (by simp [bucket_Starts.l0])
  | succ k1 =>
   have H := HA.out
   clear HA
   simp only [bucket_Starts.l0] at H
   rcases ifC H with ⟨c6b0, H⟩ | ⟨c6b0, H⟩
   ·obtain ⟨c7b0, H⟩ := ifD H
    obtain ⟨c8b0, c9b0, H⟩ := ifD2 H
    generalize hy134 : (x3_1.set (x12_1 : Int).toNat x4_1 : List Int) = y134 at H
    try simp only [Option.bind_some] at H
    have Ny134 := Aside0.mk hy134.symm
    clear hy134
    have H' := Aside0.mk H
    clear H
    obtain ⟨ad133, e133, hx133_0, p133, q133⟩ := rIO HB.out HR0.out x12_1
    cases e133
    have p10 : 0 ≤ (x12_1 : Int) := dT
    have q10 : (x12_1 : Int) < ((x3_1.length : Int) : Int) := dT
    obtain ⟨go10, co10, eo10, gb10, gl10, cl10, HG10⟩ := Kd.R_form HO_3.out (by omega)
    (first | cases eo10 | (injection eo10 with ea_ en_ ec_; (first | subst ea_ | (injection ea_ with ea_; subst ea_)); subst ec_; clear en_))
    have GB10 := Aside0.mk gb10
    have GG10 := Aside0.mk HG10
    clear gb10 gl10 HG10
    obtain ⟨hx10_0, hf10_0⟩ := Kd.R_celln 0 HO_3.out (x12_1 : Int) p10 q10
    replace p10 := eq_true p10
    replace q10 := eq_true q10
    have HP11 := Kd.R_putg HO_3.out (x12_1 : Int) x4_1
    go_wp2_with (first | ((with_reducible refine gate_store (t := 3) (p := 20) rfl ?_); refine store_event (t := 3) (p := 20) (v := ?vo_w12) (w1 := (wr.setCell ⟨go10, (x12_1 : Int).toNat, none⟩ (.int .i64 x4_1))) ?hg ?ho ?hn ?hr ?_; (case ho => rfl); (case hg => rfl); (case hn => rfl); (case hr => first | (go_simp; done) | (go_simp; rfl)); intro w12 hw; have hg : wr.grownBy w12 (some go10) := (by rw [hw]; exact HP11.2); have hp_ : Kd.R (Kd.int .i64) 3 w12 w.heap.size (fun _ => True) (.slice (some ⟨go10, 0, none⟩) x3_1.length co10) y134 := (by rw [hw, Ny134.out]; exact HP11.1); clear HP11; have n0_ := Aside0.mk (hp_); have n1_ := Aside0.mk ((by rw [hw]; exact below_set (HB.out) GB10.out : Below w.heap.size w w12)); clear HO_3 HB; have HO_3 := n0_; have HB := n1_; clear n0_ n1_; clear hg hw hp_))
    go_roundg k1
    case measure => have := HK1.out; omega
    case rel => exact ⟨(y134), (wrap64 (x4_1 + (rd l0 x12_1))), (wrap64 (x12_1 + 1)), sD, sD, H', ⟨by have := HK1.out; omega⟩, ⟨uR HO_3.out⟩, ⟨uB⟩⟩
   ·obtain rfl := Option.some.inj H
    go_wp2
    go_ret
    exact ⟨_, eR, uR HO_3.out, uB⟩
def induce_Sort.f (k : Nat) (l0 : List Int) (a1 : Int) (l2 : List Int) : Option (List Int × Bool) :=
  (bucket_Counts.f k l0 a1).bind fun co => (kinds_First.f k l0).bind fun fs => (slices_Equal_int_int.f k (Go.Proofs.YtbbpplnnegdenaaGreat.Srt.srt l2) fs).bind fun eq => (kinds_Small.f k l0).bind fun sm => (bucket_Starts.f k co.1).bind fun st =>
    if co.2 = true then (if eq = true then (if l2.length ≤ 1000000 then (if l0.length = 0 then some (([] : List Int), true) else (if l0.length ≤ 1000000 then (if st.length = co.1.length then (if 0 < co.1.length then (if co.1.length < 4611686018427387904 then (if sm.length < 4611686018427387904 then
      (Go.Proofs.YtbbpplnnegdenaaGreat.St.sortL l0 l2 co.1 sm st).bind fun r => some (r, true) else none) else none) else none) else none) else none)) else none) else none) else none
theorem induce_Sort.calls (k : Nat) (A0 : Option Addr) (c0 : Nat) (l0 : List Int) (a1 : Int) (A2 : Option Addr) (c2 : Nat) (l2 : List Int) (r1 : List Int) (r2 : Bool) (w : World) (hr0 : Kd.C (Kd.int .i64) w A0 l0.length l0) (hc0 : l0.length ≤ c0) (hr2 : Kd.C (Kd.int .i64) w A2 l2.length l2) (hc2 : l2.length ≤ c2) (h : induce_Sort.f k l0 a1 l2 = some (r1, r2)) :
    Calls Tryz.prog 105 #[.slice A0 l0.length c0, .int .i64 a1, .slice A2 l2.length c2] w fun e w' => ∃ v0_ : Value, e = .returned (.tuple #[v0_, .bool r2]) ∧ Kd.R (Kd.int .i64) 3 w' w.heap.size (fun _ => True) v0_ r1 ∧ Below w.heap.size w w' := by
 unfold induce_Sort.f at h
 cases h1 : bucket_Counts.f k l0 a1 with
 | none => rw [h1] at h; simp at h
 | some co =>
 obtain ⟨co, ok⟩ := co
 rw [h1, Option.bind_some] at h
 cases h2 : kinds_First.f k l0 with
 | none => rw [h2] at h; simp at h
 | some fs =>
 rw [h2, Option.bind_some] at h
 rw [Go.Proofs.YtbbpplnnegdenaaGreat.Srt.srt_eq] at h
 generalize hri : l2.mergeSort (fun x y => decide (x ≤ y)) = ri at h
 cases h3 : slices_Equal_int_int.f k ri fs with
 | none => rw [h3] at h; simp at h
 | some eq =>
 rw [h3, Option.bind_some] at h
 cases h4 : kinds_Small.f k l0 with
 | none => rw [h4] at h; simp at h
 | some sm =>
 rw [h4, Option.bind_some] at h
 cases h5 : bucket_Starts.f k (co, ok).1 with
 | none => rw [h5] at h; simp at h
 | some st =>
 rw [h5, Option.bind_some] at h
 dsimp only at h h5
 by_cases c1 : ok = true
 case neg => rw [if_neg c1] at h; exact absurd h (by simp)
 rw [if_pos c1] at h
 subst c1
 by_cases c2' : eq = true
 case neg => rw [if_neg c2'] at h; exact absurd h (by simp)
 rw [if_pos c2'] at h
 subst c2'
 by_cases c3 : l2.length ≤ 1000000
 case neg => rw [if_neg c3] at h; exact absurd h (by simp)
 rw [if_pos c3] at h
 have q1 := fun W hW => bucket_Counts.calls k A0 c0 l0 a1 co true W hW hc0 h1
 have q2 := fun W hW => kinds_First.calls k A0 c0 l0 fs W hW hc0 h2
 have q3 := fun W A B c d e1 e2 hA hB => slices_Equal_int_int.calls k A c ri B d fs true W hA e1 hB e2 h3
 by_cases c4 : l0.length = 0
 ·rw [if_pos c4] at h
  cases h
  exact (callsIn_wide (n := 6)).1 (Go.Proofs.YtbbpplnnegdenaaGreat.St.sort_empty 6 (by omega) hr0 hr2 c3 c4 hri q1 q2 q3)
 ·rw [if_neg c4] at h
  by_cases c5 : l0.length ≤ 1000000
  case neg => rw [if_neg c5] at h; exact absurd h (by simp)
  rw [if_pos c5] at h
  by_cases c6 : st.length = co.length
  case neg => rw [if_neg c6] at h; exact absurd h (by simp)
  rw [if_pos c6] at h
  by_cases c7 : 0 < co.length
  case neg => rw [if_neg c7] at h; exact absurd h (by simp)
  rw [if_pos c7] at h
  by_cases c8 : co.length < 4611686018427387904
  case neg => rw [if_neg c8] at h; exact absurd h (by simp)
  rw [if_pos c8] at h
  by_cases c9 : sm.length < 4611686018427387904
  case neg => rw [if_neg c9] at h; exact absurd h (by simp)
  rw [if_pos c9] at h
  cases h6 : Go.Proofs.YtbbpplnnegdenaaGreat.St.sortL l0 l2 co sm st with
  | none => rw [h6] at h; simp at h
  | some r =>
  rw [h6, Option.bind_some] at h
  cases h
  exact Go.Proofs.YtbbpplnnegdenaaGreat.St.sort_calls hr0 hr2 c3 (by omega) c5 c6 c7 c8 c9 h6 hri q1 q2 q3 (fun W hW => kinds_Small.calls k A0 c0 l0 sm W hW hc0 h4) (fun W A c e1 hA => bucket_Starts.calls k A c co st W hA e1 h5)
def sais_named.f (k : Nat) (l0 : List Int) (l1 : List Int) (l2 : List Int) : Option (List Int × Int) :=
  if l0.length ≤ 1000000 then (if l1.length ≤ 1000000 then (if l2.length ≤ 1000000 then
    (Go.Proofs.YtbbpplnnegdenaaGreat.Nm.nextL l0.length l1 l1.length 0 (List.replicate l0.length 0)).bind fun nx => (Go.Proofs.YtbbpplnnegdenaaGreat.Nm.namesL (slices_Equal_int_int.f k) l0 nx l2 l2.length 0 (List.replicate l0.length 0) 0 (-1)).bind fun x =>
      (Go.Proofs.YtbbpplnnegdenaaGreat.Nm.outL x.1 l1 l1.length 0 []).bind fun o => some (o, wrap64 (x.2 + 1)) else none) else none) else none
theorem sais_named.calls (k : Nat) (A0 : Option Addr) (c0 : Nat) (l0 : List Int) (A1 : Option Addr) (c1 : Nat) (l1 : List Int) (A2 : Option Addr) (c2 : Nat) (l2 : List Int) (r1 : List Int) (r2 : Int) (w : World) (hr0 : Kd.C (Kd.int .i64) w A0 l0.length l0) (hc0 : l0.length ≤ c0) (hr1 : Kd.C (Kd.int .i64) w A1 l1.length l1) (hc1 : l1.length ≤ c1) (hr2 : Kd.C (Kd.int .i64) w A2 l2.length l2) (hc2 : l2.length ≤ c2) (h : sais_named.f k l0 l1 l2 = some (r1, r2)) :
    Calls Tryz.prog 106 #[.slice A0 l0.length c0, .slice A1 l1.length c1, .slice A2 l2.length c2] w fun e w' => ∃ v0_ : Value, e = .returned (.tuple #[v0_, .int .i64 r2]) ∧ Kd.R (Kd.int .i64) 3 w' w.heap.size (fun _ => True) v0_ r1 ∧ Below w.heap.size w w' := by
 unfold sais_named.f at h
 by_cases c3 : l0.length ≤ 1000000
 case neg => rw [if_neg c3] at h; exact absurd h (by simp)
 rw [if_pos c3] at h
 by_cases c4 : l1.length ≤ 1000000
 case neg => rw [if_neg c4] at h; exact absurd h (by simp)
 rw [if_pos c4] at h
 by_cases c5 : l2.length ≤ 1000000
 case neg => rw [if_neg c5] at h; exact absurd h (by simp)
 rw [if_pos c5] at h
 cases h1 : Go.Proofs.YtbbpplnnegdenaaGreat.Nm.nextL l0.length l1 l1.length 0 (List.replicate l0.length 0) with
 | none => rw [h1] at h; simp at h
 | some nx =>
 rw [h1, Option.bind_some] at h
 cases h2 : Go.Proofs.YtbbpplnnegdenaaGreat.Nm.namesL (slices_Equal_int_int.f k) l0 nx l2 l2.length 0 (List.replicate l0.length 0) 0 (-1) with
 | none => rw [h2] at h; simp at h
 | some x =>
 obtain ⟨nm, n0⟩ := x
 rw [h2, Option.bind_some] at h
 cases h3 : Go.Proofs.YtbbpplnnegdenaaGreat.Nm.outL nm l1 l1.length 0 [] with
 | none => rw [h3] at h; simp at h
 | some o =>
 rw [h3, Option.bind_some] at h
 cases h
 exact Go.Proofs.YtbbpplnnegdenaaGreat.Nm.named_calls hr0 hc0 hr1 hr2 c3 c4 c5 (fun W A B c d p q b e1 e2 hA hB he => slices_Equal_int_int.calls k A c p B d q b W hA e1 hB e2 he) h1 h2 h3
mutual
def sais_sorted.l0 : Nat → List Int → Int → List Int → List Int → List Int → Int → Int → Option (List Int)
  | 0, _, _, _, _, _, _, _ => none
  | k + 1, x0, x1, x5, x10, x35, x36, x37 => if x37 < x36 then (if 0 ≤ x37 then (if x37 < (x35.length : Int) then (if 0 ≤ (rd x35 x37) then (if (rd x35 x37) < (x5.length : Int) then (if x10.length < 17592186044416 then (sais_sorted.l0 k x0 x1 x5 (x10 ++ [rd x5 (rd x35 x37)]) x35 x36 (wrap64 (x37 + 1))) else (none)) else (none)) else (none)) else (none)) else (none)) else ((induce_Sort.f k x0 x1 x10).bind fun bt177 => (some bt177.1))
def sais_sorted.f : Nat → List Int → Int → Option (List Int)
  | 0, _, _ => none
  | k + 1, l0, a1 => (kinds_First.f k l0).bind fun t158 => ((induce_Sort.f k l0 a1 t158).bind fun bt161 => (if (t158.length : Int) < 2 then (some bt161.1) else ((sais_named.f k l0 t158 bt161.1).bind fun bt165 => ((sais_sorted.f k bt165.1 bt165.2).bind fun t169 => (sais_sorted.l0 k l0 a1 t158 ([] : List Int) t169 (t169.length : Int) 0)))))
end
theorem sais_sorted.calls (k : Nat) : ∀ (A0 : Option Addr) (c0 : Nat) (l0 : List Int) (a1 : Int) (r : List Int) (w : World) (hr0 : Kd.C (Kd.int .i64) w A0 l0.length l0) (hc0 : l0.length ≤ c0) (h : sais_sorted.f k l0 a1 = some r),
    Calls Tryz.prog 92 #[.slice A0 l0.length c0, .int .i64 a1] w fun e w' => ∃ v0_ : Value, e = .returned (v0_) ∧ Kd.R (Kd.int .i64) 3 w' w.heap.size (fun _ => True) v0_ r ∧ Below w.heap.size w w' := by
 induction k using Nat.strongRecOn with
 | _ k ih =>
 intro A0 c0 l0 a1 r w hr0 hc0 h
 cases k with
 | zero => exact absurd h (by simp [sais_sorted.f])
 | succ k =>
 simp only [sais_sorted.f] at h
 have HR0 := Aside0.mk hr0
 have HC0 := Aside0.mk hc0
 clear hr0 hc0
 have HB := Aside0.mk (Below.refl w.heap.size w)
 have H : ((kinds_First.f k l0).bind fun t158 => ((induce_Sort.f k l0 a1 t158).bind fun bt161 => (if (t158.length : Int) < 2 then (some bt161.1) else ((sais_named.f k l0 t158 bt161.1).bind fun bt165 => ((sais_sorted.f k bt165.1 bt165.2).bind fun t169 => (sais_sorted.l0 k l0 a1 t158 ([] : List Int) t169 (t169.length : Int) 0)))))) = some r := h
 clear h
 obtain ⟨t158, A3, H⟩ := bdS H
 try dsimp only at H
 obtain ⟨⟨t161, t162⟩, A4, H⟩ := bdS H
 try dsimp only at H
 by_cases c5 : (t158.length : Int) < 2
 ·rw [if_pos c5] at H
  have c5b0 : decide ((t158.length : Int) < 2) = true := decide_eq_true c5
  have c5b1 : decide (t158.length < 2) = true := decide_eq_true (by omega)
  clear c5
  obtain rfl := Option.some.inj H
  go_enter Tryz.func92, Tryz.ntmps92
  go_wp2_with (first | ((with_reducible refine gate_callee (f := 104) rfl ?_); refine goesL_ (some 14) rfl rfl Tryz.func104 (by kernel_rfl) rfl #[.slice A0 l0.length c0] rfl aE ?_; (with_reducible refine (kinds_First.calls k _ _ l0 t158 _ ?side1 ?side2 A3.out).mono ?_); (case side1 => exact uC HR0.out); (case side2 => exact HC0.out); rintro e w6 ⟨v159, rfl, ho0, hb⟩; refine ⟨_, rfl, ?_⟩; have n0_ := Aside0.mk (Kd.R_lower ho0 (below_size uB)); have n1_ := Aside0.mk (below_step uB hb); clear HB; have HO160 := n0_; have HB := n1_; clear n0_ n1_; obtain ⟨Ao7, co7, eo7⟩ := Kd.R_slice HO160.out; subst eo7) | ((with_reducible refine gate_callee (f := 105) rfl ?_); refine goesL_ (some 19) rfl rfl Tryz.func105 (by kernel_rfl) rfl #[.slice A0 l0.length c0, .int .i64 a1, .slice Ao7 t158.length co7] rfl aE ?_; (with_reducible refine (induce_Sort.calls k _ _ l0 a1 _ _ t158 t161 t162 _ ?side1 ?side2 ?side3 ?side4 A4.out).mono ?_); (case side1 => exact uC (Kd.C_below HR0.out HB.out)); (case side2 => exact HC0.out); (case side3 => exact uC (Kd.R_reads' HO160.out).2.2); (case side4 => exact (Kd.R_reads' HO160.out).2.1); rintro e w8 ⟨v163, rfl, ho0, hb⟩; refine ⟨_, rfl, ?_⟩; have n0_ := Aside0.mk (Kd.R_elder' (uR HO160.out) (Kd.R_base ho0) hb); have n1_ := Aside0.mk (Kd.R_lower (Kd.R_new' ho0 (Kd.R_lt (uR HO160.out))) (below_size uB)); have n2_ := Aside0.mk (below_step uB hb); clear HO160 HB; have HO160 := n0_; have HO164 := n1_; have HB := n2_; clear n0_ n1_ n2_))
  go_ret
  exact ⟨_, eR, by (with_reducible repeat (first | apply Kd.R_alloc | apply Kd.R_drewN | apply Kd.R_drew)); exact Kd.R_mono HO164.out (fun _ hk => trivial), uB⟩
 ·rw [if_neg c5] at H
  have c5b0 : decide ((t158.length : Int) < 2) = false := decide_eq_false c5
  have c5b1 : decide (t158.length < 2) = false := decide_eq_false (by omega)
  clear c5
  obtain ⟨⟨t165, t166⟩, A9, H⟩ := bdS H
  try dsimp only at H
  obtain ⟨t169, A10, H⟩ := bdS H
  try dsimp only at H
  have H' := Aside0.mk H
  clear H
  go_enter Tryz.func92, Tryz.ntmps92
  go_wp2_with (first | ((with_reducible refine gate_callee (f := 104) rfl ?_); refine goesL_ (some 14) rfl rfl Tryz.func104 (by kernel_rfl) rfl #[.slice A0 l0.length c0] rfl aE ?_; (with_reducible refine (kinds_First.calls k _ _ l0 t158 _ ?side1 ?side2 A3.out).mono ?_); (case side1 => exact uC HR0.out); (case side2 => exact HC0.out); rintro e w11 ⟨v159, rfl, ho0, hb⟩; refine ⟨_, rfl, ?_⟩; have n0_ := Aside0.mk (Kd.R_lower ho0 (below_size uB)); have n1_ := Aside0.mk (below_step uB hb); clear HB; have HO160 := n0_; have HB := n1_; clear n0_ n1_; obtain ⟨Ao12, co12, eo12⟩ := Kd.R_slice HO160.out; subst eo12) | ((with_reducible refine gate_callee (f := 105) rfl ?_); refine goesL_ (some 19) rfl rfl Tryz.func105 (by kernel_rfl) rfl #[.slice A0 l0.length c0, .int .i64 a1, .slice Ao12 t158.length co12] rfl aE ?_; (with_reducible refine (induce_Sort.calls k _ _ l0 a1 _ _ t158 t161 t162 _ ?side1 ?side2 ?side3 ?side4 A4.out).mono ?_); (case side1 => exact uC (Kd.C_below HR0.out HB.out)); (case side2 => exact HC0.out); (case side3 => exact uC (Kd.R_reads' HO160.out).2.2); (case side4 => exact (Kd.R_reads' HO160.out).2.1); rintro e w13 ⟨v163, rfl, ho0, hb⟩; refine ⟨_, rfl, ?_⟩; have n0_ := Aside0.mk (Kd.R_elder' (uR HO160.out) (Kd.R_base ho0) hb); have n1_ := Aside0.mk (Kd.R_lower (Kd.R_new' ho0 (Kd.R_lt (uR HO160.out))) (below_size uB)); have n2_ := Aside0.mk (below_step uB hb); clear HO160 HB; have HO160 := n0_; have HO164 := n1_; have HB := n2_; clear n0_ n1_ n2_; obtain ⟨Ao14, co14, eo14⟩ := Kd.R_slice HO164.out; subst eo14) | ((with_reducible refine gate_callee (f := 106) rfl ?_); refine goesL_ (some 30) rfl rfl Tryz.func106 (by kernel_rfl) rfl #[.slice A0 l0.length c0, .slice Ao12 t158.length co12, .slice Ao14 t161.length co14] rfl aE ?_; (with_reducible refine (sais_named.calls k _ _ l0 _ _ t158 _ _ t161 t165 t166 _ ?side1 ?side2 ?side3 ?side4 ?side5 ?side6 A9.out).mono ?_); (case side1 => exact uC (Kd.C_below HR0.out HB.out)); (case side2 => exact HC0.out); (case side3 => exact uC (Kd.R_reads' HO160.out).2.2); (case side4 => exact (Kd.R_reads' HO160.out).2.1); (case side5 => exact uC (Kd.R_reads' HO164.out).2.2); (case side6 => exact (Kd.R_reads' HO164.out).2.1); rintro e w15 ⟨v167, rfl, ho0, hb⟩; refine ⟨_, rfl, ?_⟩; have n0_ := Aside0.mk (Kd.R_elder' (uR HO160.out) (Kd.R_base ho0) hb); have n1_ := Aside0.mk (Kd.R_elder' (uR HO164.out) (Kd.R_base ho0) hb); have n2_ := Aside0.mk (Kd.R_lower (Kd.R_new' (Kd.R_new' ho0 (Kd.R_lt (uR HO160.out))) (Kd.R_lt (uR HO164.out))) (below_size uB)); have n3_ := Aside0.mk (below_step uB hb); clear HO160 HO164 HB; have HO160 := n0_; have HO164 := n1_; have HO168 := n2_; have HB := n3_; clear n0_ n1_ n2_ n3_; obtain ⟨Ao16, co16, eo16⟩ := Kd.R_slice HO168.out; subst eo16) | ((with_reducible refine gate_callee (f := 92) rfl ?_); refine goesL_ (some 35) rfl rfl Tryz.func92 (by kernel_rfl) rfl #[.slice Ao16 t165.length co16, .int .i64 t166] rfl aE ?_; (with_reducible refine (ih k (by omega) _ _ t165 t166 t169 _ ?side1 ?side2 A10.out).mono ?_); (case side1 => exact uC (Kd.R_reads' HO168.out).2.2); (case side2 => exact (Kd.R_reads' HO168.out).2.1); rintro e w17 ⟨v170, rfl, ho0, hb⟩; refine ⟨_, rfl, ?_⟩; have n0_ := Aside0.mk (Kd.R_elder' (uR HO160.out) (Kd.R_base ho0) hb); have n1_ := Aside0.mk (Kd.R_elder' (uR HO164.out) (Kd.R_base ho0) hb); have n2_ := Aside0.mk (Kd.R_elder' (uR HO168.out) (Kd.R_base ho0) hb); have n3_ := Aside0.mk (Kd.R_lower (Kd.R_new' (Kd.R_new' (Kd.R_new' ho0 (Kd.R_lt (uR HO160.out))) (Kd.R_lt (uR HO164.out))) (Kd.R_lt (uR HO168.out))) (below_size uB)); have n4_ := Aside0.mk (below_step uB hb); clear HO160 HO164 HO168 HB; have HO160 := n0_; have HO164 := n1_; have HO168 := n2_; have HO171 := n3_; have HB := n4_; clear n0_ n1_ n2_ n3_ n4_; obtain ⟨Ao18, co18, eo18⟩ := Kd.R_slice HO171.out; subst eo18))
  go_loopg [10, 37] k (fun kq v10 v37 w' => ∃ (x10_1 : List Int) (x37_1 : Int), v37 = .int .i64 x37_1 ∧ Aside0 (sais_sorted.l0 kq l0 a1 t158 x10_1 t169 (t169.length : Int) x37_1 = some r) ∧ Aside0 (kq ≤ k) ∧ Aside0 (Kd.R (Kd.int .i64) 3 w' w.heap.size (fun k_ => some k_ ≠ (v10 : Value).ownBlock ∧ some k_ ≠ ((.slice Ao18 t169.length co18) : Value).ownBlock) (.slice Ao12 t158.length co12) t158) ∧ Aside0 (Kd.R (Kd.int .i64) 3 w' w.heap.size (fun k_ => some k_ ≠ ((.slice Ao12 t158.length co12) : Value).ownBlock ∧ some k_ ≠ ((.slice Ao18 t169.length co18) : Value).ownBlock) v10 x10_1) ∧ Aside0 (Kd.R (Kd.int .i64) 3 w' w.heap.size (fun k_ => some k_ ≠ ((.slice Ao12 t158.length co12) : Value).ownBlock ∧ some k_ ≠ (v10 : Value).ownBlock) (.slice Ao18 t169.length co18) t169) ∧ Aside0 (Below w.heap.size w w'))
  case atStart => exact ⟨(([] : List Int)), (0), sD, H', ⟨Nat.le_refl _⟩, ⟨by (with_reducible repeat (first | apply Kd.R_alloc | apply Kd.R_drewN | apply Kd.R_drew)); exact Kd.R_mono HO160.out (fun _ hk => ⟨(by simp [Value.ownBlock]), hk.2⟩)⟩, ⟨nL⟩, ⟨by (with_reducible repeat (first | apply Kd.R_alloc | apply Kd.R_drewN | apply Kd.R_drew)); exact Kd.R_mono HO171.out (fun _ hk => ⟨hk.1.1.2, (by simp [Value.ownBlock])⟩)⟩, ⟨uB⟩⟩
  case round =>
   clear H'
   obtain ⟨x10_1, x37_1, rfl, HA, HK1, HO_5, HO_10, HO_35, HB⟩ := hrel
   cases gk with
   | zero => exact absurd HA.out (by simp [sais_sorted.l0])
   | succ k1 =>
    have H := HA.out
    clear HA
    simp only [sais_sorted.l0] at H
    rcases ifC H with ⟨c19b0, H⟩ | ⟨c19b0, H⟩
    ·obtain ⟨c20b0, c21b0, H⟩ := ifD2 H
     obtain ⟨c22b0, c23b0, H⟩ := ifD2 H
     obtain ⟨c24, H⟩ := ifP H
     have LMc24 := Aside0.mk c24
     clear c24
     generalize hy174 : (x10_1 ++ [rd t158 (rd t169 x37_1)] : List Int) = y174 at H
     try simp only [Option.bind_some] at H
     have Ny174 := Aside0.mk hy174.symm
     clear hy174
     have H' := Aside0.mk H
     clear H
     obtain ⟨ad172, e172, hx172_0, p172, q172⟩ := rI (Kd.R_reads' HO_35.out).2.2 x37_1
     cases e172
     obtain ⟨ad173, e173, hx173_0, p173, q173⟩ := rI (Kd.R_reads' HO_5.out).2.2 (rd t169 x37_1)
     cases e173
     go_wp2_with (first | ((with_reducible refine gate_builtin (b := .append) (xs := #[.tmp 41, .tmp 46]) rfl ?_); at_builtin; refine Kd.R_append (Kd.int .i64) (w0 := w) w.heap.size rfl (.tmp 41) (.tmp 46) 29 3 (.int .i64 0) 8 rfl Tryz.underlying29 info3 rfl (by decide) (by omega) u10 x10_1 (rd t158 (rd t169 x37_1)) [.int .i64 (rd t158 (rd t169 x37_1))] (fun k_ => some k_ ≠ (.slice (some ad173) t158.length co12 : Value).ownBlock ∧ some k_ ≠ (.slice (some ad172) t169.length co18 : Value).ownBlock) (fun _ => False) rfl rfl ?aP (fun _ hk => hk.elim) ?aF ?aO ?aB ?aS ?aL ?_; (case aP => exact rfl); (case aB => exact uB); (case aF => exact (fun k_ hk => ⟨Kd.fresh' (Kd.R_lt (uR HO_5.out)) k_ hk, Kd.fresh' (Kd.R_lt (uR HO_35.out)) k_ hk⟩)); (case aO => exact (uR HO_10.out)); (case aS => exact (below_size uB)); (case aL => have := LMc24.out; omega); intro v175 w25 ho hb hg hat; rw [← Ny174.out] at ho; have n0_ := Aside0.mk (Kd.R_after (ok := (fun k_ => some k_ ≠ (.slice (some ad172) t169.length co18 : Value).ownBlock)) (by (with_reducible repeat (first | apply Kd.R_alloc | apply Kd.R_drewN | apply Kd.R_drew)); exact Kd.R_mono HO_5.out (fun _ hk => ⟨hk.2, hk.1⟩)) hg hat); have n1_ := Aside0.mk (Kd.R_after (ok := (fun k_ => some k_ ≠ (.slice (some ad173) t158.length co12 : Value).ownBlock)) (uR HO_35.out) hg hat); have n2_ := Aside0.mk (hb); have n3_ := Aside0.mk (ho); clear HO_5 HO_35 HB HO_10; have HO_5 := n0_; have HO_35 := n1_; have HB := n2_; have HO176 := n3_; clear n0_ n1_ n2_ n3_; clear ho hb hg hat))
     go_roundg k1
     case measure => have := HK1.out; omega
     case rel => exact ⟨(y174), (wrap64 (x37_1 + 1)), sD, H', ⟨by have := HK1.out; omega⟩, ⟨by (with_reducible repeat (first | apply Kd.R_alloc | apply Kd.R_drewN | apply Kd.R_drew)); exact Kd.R_mono HO_5.out (fun _ hk => ⟨hk.2, hk.1⟩)⟩, ⟨uR HO176.out⟩, ⟨uR HO_35.out⟩, ⟨uB⟩⟩
    ·obtain ⟨⟨t177, t178⟩, A26, H⟩ := bdS H
     try dsimp only at H
     obtain rfl := Option.some.inj H
     obtain ⟨Ao27, co27, eo27⟩ := Kd.R_slice HO_10.out
     subst eo27
     go_wp2_with (first | ((with_reducible refine gate_callee (f := 105) rfl ?_); refine goesL_ (some 53) rfl rfl Tryz.func105 (by kernel_rfl) rfl #[.slice A0 l0.length c0, .int .i64 a1, .slice Ao27 x10_1.length co27] rfl aE ?_; (with_reducible refine (induce_Sort.calls k1 _ _ l0 a1 _ _ x10_1 t177 t178 _ ?side1 ?side2 ?side3 ?side4 A26.out).mono ?_); (case side1 => exact uC (Kd.C_below HR0.out HB.out)); (case side2 => exact HC0.out); (case side3 => exact uC (Kd.R_reads' HO_10.out).2.2); (case side4 => exact (Kd.R_reads' HO_10.out).2.1); rintro e w28 ⟨v179, rfl, ho0, hb⟩; refine ⟨_, rfl, ?_⟩; have n0_ := Aside0.mk (Kd.R_elder' (uR HO_5.out) (Kd.R_base ho0) hb); have n1_ := Aside0.mk (Kd.R_elder' (uR HO_10.out) (Kd.R_base ho0) hb); have n2_ := Aside0.mk (Kd.R_elder' (uR HO_35.out) (Kd.R_base ho0) hb); have n3_ := Aside0.mk (Kd.R_lower (Kd.R_new' (Kd.R_new' (Kd.R_new' ho0 (Kd.R_lt (uR HO_5.out))) (Kd.R_lt (uR HO_10.out))) (Kd.R_lt (uR HO_35.out))) (below_size uB)); have n4_ := Aside0.mk (below_step uB hb); clear HO_5 HO_10 HO_35 HB; have HO_5 := n0_; have HO_10 := n1_; have HO_35 := n2_; have HO180 := n3_; have HB := n4_; clear n0_ n1_ n2_ n3_ n4_))
     go_ret
     exact ⟨_, eR, by (with_reducible repeat (first | apply Kd.R_alloc | apply Kd.R_drewN | apply Kd.R_drew)); exact Kd.R_mono HO180.out (fun _ hk => trivial), uB⟩
def sais_Ints.f (k : Nat) (l0 : List Int) (a1 : Int) : Option (List Int × Int) := if (l0.length : Int) > 100000 then (some (([] : List Int), 2)) else ((bucket_Counts.f k l0 a1).bind fun bt181 => (if bt181.2 = true then ((sais_sorted.f k l0 a1).bind fun t185 => (some (t185, 0))) else (some (([] : List Int), 1))))
theorem sais_Ints.calls (k : Nat) (A0 : Option Addr) (c0 : Nat) (l0 : List Int) (a1 : Int) (r1 : List Int) (r2 : Int) (w : World) (hr0 : Kd.C (Kd.int .i64) w A0 l0.length l0) (hc0 : l0.length ≤ c0) (h : sais_Ints.f k l0 a1 = some (r1, r2)) :
    Calls Tryz.prog 69 #[.slice A0 l0.length c0, .int .i64 a1] w fun e w' => ∃ v0_ : Value, e = .returned (.tuple #[v0_, .int .i64 r2]) ∧ Kd.R (Kd.int .i64) 3 w' w.heap.size (fun _ => True) v0_ r1 ∧ Below w.heap.size w w' := by
 have HR0 := Aside0.mk hr0
 have HC0 := Aside0.mk hc0
 clear hr0 hc0
 have HB := Aside0.mk (Below.refl w.heap.size w)
 have H := h
 clear h
 unfold sais_Ints.f at H
 by_cases c3 : (l0.length : Int) > 100000
 ·rw [if_pos c3] at H
  have c3b0 : decide (100000 < (l0.length : Int)) = true := decide_eq_true c3
  have c3b1 : decide (100000 < l0.length) = true := decide_eq_true (by omega)
  clear c3
  simp only [Option.some.injEq, Prod.mk.injEq] at H
  obtain ⟨rfl, rfl⟩ := H
  go_enter Tryz.func69, Tryz.ntmps69
  go_wp2
  go_ret2
  exact ⟨_, eR, nL, uB⟩
 ·rw [if_neg c3] at H
  have c3b0 : decide (100000 < (l0.length : Int)) = false := decide_eq_false c3
  have c3b1 : decide (100000 < l0.length) = false := decide_eq_false (by omega)
  clear c3
  obtain ⟨⟨t181, t182⟩, A4, H⟩ := bdS H
  try dsimp only at H
  by_cases c5 : t182 = true
  ·subst c5
   rw [if_pos rfl] at H
   obtain ⟨t185, A6, H⟩ := bdS H
   try dsimp only at H
   simp only [Option.some.injEq, Prod.mk.injEq] at H
   obtain ⟨rfl, rfl⟩ := H
   go_enter Tryz.func69, Tryz.ntmps69
   go_wp2_with (first | ((with_reducible refine gate_callee (f := 91) rfl ?_); refine goesL_ (some 14) rfl rfl Tryz.func91 (by kernel_rfl) rfl #[.slice A0 l0.length c0, .int .i64 a1] rfl aE ?_; (with_reducible refine (bucket_Counts.calls k _ _ l0 a1 t181 true _ ?side1 ?side2 A4.out).mono ?_); (case side1 => exact uC HR0.out); (case side2 => exact HC0.out); rintro e w7 ⟨v183, rfl, ho0, hb⟩; refine ⟨_, rfl, ?_⟩; have n0_ := Aside0.mk (Kd.R_lower ho0 (below_size uB)); have n1_ := Aside0.mk (below_step uB hb); clear HB; have HO184 := n0_; have HB := n1_; clear n0_ n1_) | ((with_reducible refine gate_callee (f := 92) rfl ?_); refine goesL_ (some 21) rfl rfl Tryz.func92 (by kernel_rfl) rfl #[.slice A0 l0.length c0, .int .i64 a1] rfl aE ?_; (with_reducible refine (sais_sorted.calls k _ _ l0 a1 t185 _ ?side1 ?side2 A6.out).mono ?_); (case side1 => exact uC (Kd.C_below HR0.out HB.out)); (case side2 => exact HC0.out); rintro e w8 ⟨v186, rfl, ho0, hb⟩; refine ⟨_, rfl, ?_⟩; have n0_ := Aside0.mk (Kd.R_elder' (uR HO184.out) (Kd.R_base ho0) hb); have n1_ := Aside0.mk (Kd.R_lower (Kd.R_new' ho0 (Kd.R_lt (uR HO184.out))) (below_size uB)); have n2_ := Aside0.mk (below_step uB hb); clear HO184 HB; have HO184 := n0_; have HO187 := n1_; have HB := n2_; clear n0_ n1_ n2_))
   go_ret2
   exact ⟨_, eR, by (with_reducible repeat (first | apply Kd.R_alloc | apply Kd.R_drewN | apply Kd.R_drew)); exact Kd.R_mono HO187.out (fun _ hk => trivial), uB⟩
  ·replace c5 := Bool.eq_false_iff.mpr c5
   subst c5
   rw [if_neg (by decide)] at H
   simp only [Option.some.injEq, Prod.mk.injEq] at H
   obtain ⟨rfl, rfl⟩ := H
   go_enter Tryz.func69, Tryz.ntmps69
   go_wp2_with (first | ((with_reducible refine gate_callee (f := 91) rfl ?_); refine goesL_ (some 14) rfl rfl Tryz.func91 (by kernel_rfl) rfl #[.slice A0 l0.length c0, .int .i64 a1] rfl aE ?_; (with_reducible refine (bucket_Counts.calls k _ _ l0 a1 t181 false _ ?side1 ?side2 A4.out).mono ?_); (case side1 => exact uC HR0.out); (case side2 => exact HC0.out); rintro e w9 ⟨v183, rfl, ho0, hb⟩; refine ⟨_, rfl, ?_⟩; have n0_ := Aside0.mk (Kd.R_lower ho0 (below_size uB)); have n1_ := Aside0.mk (below_step uB hb); clear HB; have HO184 := n0_; have HB := n1_; clear n0_ n1_))
   go_ret2
   exact ⟨_, eR, nL, uB⟩
def sais_Bytes.l0 : Nat → List Int → List Int → Int → Int → Option (List Int × Int)
  | 0, _, _, _, _ => none
  | k + 1, x4, x10, x11, x12 => if x12 < x11 then (if 0 ≤ x12 then (if x12 < (x10.length : Int) then (if x4.length < 17592186044416 then (sais_Bytes.l0 k (x4 ++ [wrap64 (rd x10 x12)]) x10 x11 (wrap64 (x12 + 1))) else (none)) else (none)) else (none)) else ((sais_Ints.f k x4 256).bind fun bt192 => (some (bt192.1, bt192.2)))
def sais_Bytes.f (k : Nat) (l0 : List Int) : Option (List Int × Int) := if (l0.length : Int) ≤ 100000 then (sais_Bytes.l0 k ([] : List Int) l0 (l0.length : Int) 0) else (some (([] : List Int), 2))
theorem sais_Bytes.calls (k : Nat) (A0 : Option Addr) (c0 : Nat) (l0 : List Int) (r1 : List Int) (r2 : Int) (w : World) (hr0 : Kd.C (Kd.int .u8) w A0 l0.length l0) (hc0 : l0.length ≤ c0) (h : sais_Bytes.f k l0 = some (r1, r2)) :
    Calls Tryz.prog 38 #[.slice A0 l0.length c0] w fun e w' => ∃ v0_ : Value, e = .returned (.tuple #[v0_, .int .i64 r2]) ∧ Kd.R (Kd.int .i64) 3 w' w.heap.size (fun _ => True) v0_ r1 ∧ Below w.heap.size w w' := by
 have HR0 := Aside0.mk hr0
 have HC0 := Aside0.mk hc0
 clear hr0 hc0
 have HB := Aside0.mk (Below.refl w.heap.size w)
 have H := h
 clear h
 unfold sais_Bytes.f at H
 by_cases c2 : (l0.length : Int) ≤ 100000
 ·rw [if_pos c2] at H
  have c2b0 : decide ((l0.length : Int) ≤ 100000) = true := decide_eq_true c2
  have c2b1 : decide (l0.length ≤ 100000) = true := decide_eq_true (by omega)
  clear c2
  have H' := Aside0.mk H
  clear H
  go_enter Tryz.func38, Tryz.ntmps38
  go_wp2
  go_loopg [4, 12] k (fun kq v4 v12 w' => ∃ (x4_1 : List Int) (x12_1 : Int), v12 = .int .i64 x12_1 ∧ Aside0 (sais_Bytes.l0 kq x4_1 l0 (l0.length : Int) x12_1 = some (r1, r2)) ∧ Aside0 (kq ≤ k) ∧ Aside0 (Kd.R (Kd.int .i64) 3 w' w.heap.size (fun _ => True) v4 x4_1) ∧ Aside0 (Below w.heap.size w w'))
  case atStart => exact ⟨(([] : List Int)), (0), sD, H', ⟨Nat.le_refl _⟩, ⟨nL⟩, ⟨uB⟩⟩
  case round =>
   clear H'
   obtain ⟨x4_1, x12_1, rfl, HA, HK1, HO_4, HB⟩ := hrel
   cases gk with
   | zero => exact absurd HA.out (by simp [sais_Bytes.l0])
   | succ k1 =>
    have H := HA.out
    clear HA
    simp only [sais_Bytes.l0] at H
    rcases ifC H with ⟨c3b0, H⟩ | ⟨c3b0, H⟩
    ·obtain ⟨c4b0, c5b0, H⟩ := ifD2 H
     obtain ⟨c6, H⟩ := ifP H
     have LMc6 := Aside0.mk c6
     clear c6
     generalize hy189 : (x4_1 ++ [wrap64 (rd l0 x12_1)] : List Int) = y189 at H
     try simp only [Option.bind_some] at H
     have Ny189 := Aside0.mk hy189.symm
     clear hy189
     have H' := Aside0.mk H
     clear H
     obtain ⟨ad188, e188, hx188_0, p188, q188⟩ := rIO HB.out HR0.out x12_1
     cases e188
     go_wp2_with (first | ((with_reducible refine gate_builtin (b := .append) (xs := #[.tmp 16, .tmp 19]) rfl ?_); at_builtin; refine Kd.R_append (Kd.int .i64) (w0 := w) w.heap.size rfl (.tmp 16) (.tmp 19) 29 3 (.int .i64 0) 8 rfl Tryz.underlying29 info3 rfl (by decide) (by omega) u4 x4_1 (wrap64 (rd l0 x12_1)) [.int .i64 (wrap64 (rd l0 x12_1))] (fun _ => True) (fun _ => False) rfl rfl ?aP (fun _ hk => hk.elim) ?aF ?aO ?aB ?aS ?aL ?_; (case aP => exact rfl); (case aB => exact uB); (case aF => exact (fun _ _ => trivial)); (case aO => exact (uR HO_4.out)); (case aS => exact (below_size uB)); (case aL => have := LMc6.out; omega); intro v190 w7 ho hb hg hat; rw [← Ny189.out] at ho; have n0_ := Aside0.mk (hb); have n1_ := Aside0.mk (ho); clear HB HO_4; have HB := n0_; have HO191 := n1_; clear n0_ n1_; clear ho hb hg hat))
     go_roundg k1
     case measure => have := HK1.out; omega
     case rel => exact ⟨(y189), (wrap64 (x12_1 + 1)), sD, H', ⟨by have := HK1.out; omega⟩, ⟨uR HO191.out⟩, ⟨uB⟩⟩
    ·obtain ⟨⟨t192, t193⟩, A8, H⟩ := bdS H
     try dsimp only at H
     simp only [Option.some.injEq, Prod.mk.injEq] at H
     obtain ⟨rfl, rfl⟩ := H
     obtain ⟨Ao9, co9, eo9⟩ := Kd.R_slice HO_4.out
     subst eo9
     go_wp2_with (first | ((with_reducible refine gate_callee (f := 69) rfl ?_); refine goesL_ (some 23) rfl rfl Tryz.func69 (by kernel_rfl) rfl #[.slice Ao9 x4_1.length co9, .int .i64 256] rfl aE ?_; (with_reducible refine (sais_Ints.calls k1 _ _ x4_1 256 t192 t193 _ ?side1 ?side2 A8.out).mono ?_); (case side1 => exact uC (Kd.R_reads' HO_4.out).2.2); (case side2 => exact (Kd.R_reads' HO_4.out).2.1); rintro e w10 ⟨v194, rfl, ho0, hb⟩; refine ⟨_, rfl, ?_⟩; have n0_ := Aside0.mk (Kd.R_elder' (uR HO_4.out) (Kd.R_base ho0) hb); have n1_ := Aside0.mk (Kd.R_lower (Kd.R_new' ho0 (Kd.R_lt (uR HO_4.out))) (below_size uB)); have n2_ := Aside0.mk (below_step uB hb); clear HO_4 HB; have HO_4 := n0_; have HO195 := n1_; have HB := n2_; clear n0_ n1_ n2_))
     go_ret2
     exact ⟨_, eR, by (with_reducible repeat (first | apply Kd.R_alloc | apply Kd.R_drewN | apply Kd.R_drew)); exact Kd.R_mono HO195.out (fun _ hk => trivial), uB⟩
 ·rw [if_neg c2] at H
  have c2b0 : decide ((l0.length : Int) ≤ 100000) = false := decide_eq_false c2
  have c2b1 : decide (l0.length ≤ 100000) = false := decide_eq_false (by omega)
  clear c2
  simp only [Option.some.injEq, Prod.mk.injEq] at H
  obtain ⟨rfl, rfl⟩ := H
  go_enter Tryz.func38, Tryz.ntmps38
  go_wp2
  go_ret2
  exact ⟨_, eR, nL, uB⟩
mutual
def bucket_Pass.l0 : Nat → List Int → List Int → List Int → List Int → Int → Int → Option (List Int × Bool)
  | 0, _, _, _, _, _, _ => none
  | k + 1, x0, x1, x10, x27, x28, x29 => if x29 < x28 then (if 0 ≤ x29 then (if x29 < (x27.length : Int) then (if (rd x27 x29) < 0 then (some (([] : List Int), false)) else (if (rd x27 x29) ≥ (x1.length : Int) then (some (([] : List Int), false)) else (if 0 ≤ (rd x27 x29) then (if (rd x27 x29) < (x1.length : Int) then (if 0 ≤ (rd x1 (rd x27 x29)) then (if (rd x1 (rd x27 x29)) < (x10.length : Int) then (bucket_Pass.l0 k x0 x1 (x10.set ((rd x1 (rd x27 x29)) : Int).toNat (wrap64 ((rd x10 (rd x1 (rd x27 x29))) + 1))) x27 x28 (wrap64 (x29 + 1))) else (none)) else (none)) else (none)) else (none)))) else (none)) else (none)) else ((bucket_Starts.f k x10).bind fun t207 => (if 0 ≤ (x0.length : Int) then (if ((x0.length : Int) : Int).toNat ≤ 35184372088832 then (bucket_Pass.l1 k x1 t207 (List.replicate ((x0.length : Int) : Int).toNat 0) x0 (x0.length : Int) 0) else (none)) else (none)))
def bucket_Pass.l1 : Nat → List Int → List Int → List Int → List Int → Int → Int → Option (List Int × Bool)
  | 0, _, _, _, _, _, _ => none
  | k + 1, x1, x13, x14, x56, x57, x58 => if x58 < x57 then (if 0 ≤ x58 then (if x58 < (x56.length : Int) then (if 0 ≤ (rd x56 x58) then (if (rd x56 x58) < (x1.length : Int) then (if 0 ≤ (rd x1 (rd x56 x58)) then (if (rd x1 (rd x56 x58)) < (x13.length : Int) then (if 0 ≤ (rd x13 (rd x1 (rd x56 x58))) then (if (rd x13 (rd x1 (rd x56 x58))) < (x14.length : Int) then (bucket_Pass.l1 k x1 (x13.set ((rd x1 (rd x56 x58)) : Int).toNat (wrap64 ((rd x13 (rd x1 (rd x56 x58))) + 1))) (x14.set ((rd x13 (rd x1 (rd x56 x58))) : Int).toNat (rd x56 x58)) x56 x57 (wrap64 (x58 + 1))) else (none)) else (none)) else (none)) else (none)) else (none)) else (none)) else (none)) else (none)) else (some (x14, true))
end
def bucket_Pass.f (k : Nat) (l0 : List Int) (l1 : List Int) (a2 : Int) : Option (List Int × Bool) := (bucket_Counts.f k l1 a2).bind fun bt196 => (if bt196.2 = true then (if 0 ≤ a2 then (if (a2 : Int).toNat ≤ 35184372088832 then (bucket_Pass.l0 k l0 l1 (List.replicate (a2 : Int).toNat 0) l0 (l0.length : Int) 0) else (none)) else (none)) else (some (([] : List Int), false)))
theorem bucket_Pass.calls (k : Nat) (A0 : Option Addr) (c0 : Nat) (l0 : List Int) (A1 : Option Addr) (c1 : Nat) (l1 : List Int) (a2 : Int) (r1 : List Int) (r2 : Bool) (w : World) (hr0 : Kd.C (Kd.int .i64) w A0 l0.length l0) (hc0 : l0.length ≤ c0) (hr1 : Kd.C (Kd.int .i64) w A1 l1.length l1) (hc1 : l1.length ≤ c1) (h : bucket_Pass.f k l0 l1 a2 = some (r1, r2)) :
    Calls Tryz.prog 71 #[.slice A0 l0.length c0, .slice A1 l1.length c1, .int .i64 a2] w fun e w' => ∃ v0_ : Value, e = .returned (.tuple #[v0_, .bool r2]) ∧ Kd.R (Kd.int .i64) 3 w' w.heap.size (fun _ => True) v0_ r1 ∧ Below w.heap.size w w' := by
 have HR0 := Aside0.mk hr0
 have HC0 := Aside0.mk hc0
 clear hr0 hc0
 have HR1 := Aside0.mk hr1
 have HC1 := Aside0.mk hc1
 clear hr1 hc1
 have HB := Aside0.mk (Below.refl w.heap.size w)
 have H := h
 clear h
 unfold bucket_Pass.f at H
 obtain ⟨⟨t196, t197⟩, A4, H⟩ := bdS H
 try dsimp only at H
 by_cases c5 : t197 = true
 ·subst c5
  rw [if_pos rfl] at H
  obtain ⟨c6b0, c6b1, H⟩ := ifE H
  obtain ⟨c7b0, c7b1, H⟩ := ifE H
  generalize hy200 : (List.replicate (a2 : Int).toNat 0 : List Int) = y200 at H
  try simp only [Option.bind_some] at H
  have Ny200 := Aside0.mk hy200.symm
  clear hy200
  have H' := Aside0.mk H
  clear H
  go_enter Tryz.func71, Tryz.ntmps71
  go_wp2_with (first | ((with_reducible refine gate_callee (f := 91) rfl ?_); refine goesL_ (some 20) rfl rfl Tryz.func91 (by kernel_rfl) rfl #[.slice A1 l1.length c1, .int .i64 a2] rfl aE ?_; (with_reducible refine (bucket_Counts.calls k _ _ l1 a2 t196 true _ ?side1 ?side2 A4.out).mono ?_); (case side1 => exact uC HR1.out); (case side2 => exact HC1.out); rintro e w8 ⟨v198, rfl, ho0, hb⟩; refine ⟨_, rfl, ?_⟩; have n0_ := Aside0.mk (Kd.R_lower ho0 (below_size uB)); have n1_ := Aside0.mk (below_step uB hb); clear HB; have HO199 := n0_; have HB := n1_; clear n0_ n1_) | ((with_reducible refine gate_dst (N := 26) rfl ?_); (try (refine gate_guard (by rfl) ?_; dsimp only)); refine Kd.R_make (Kd.int .i64) _ 3 rfl (N := 26) rfl 29 _ _ rfl a2 rfl rfl Tryz.underlying29 (.int .i64 0) 8 info3 rfl (by decide) (by omega) 0 (ok := fun _ => True) (okp := fun _ => True) rfl (fun _ hk => hk) trivial dT (Nat.le_trans (Nat.mul_le_mul_right _ (dT : a2.toNat ≤ 35184372088832)) (by omega)) (Below.refl _ _) (Nat.le_refl _) ?_; intro v201 w9 ho10 hb hg_ hnew_; clear hg_ hnew_; (first | rw [← Ny200.out] at ho10 | (simp only [Int.reduceToNat] at ho10; rw [← Ny200.out] at ho10)); have n0_ := Aside0.mk (Kd.R_elder' (uR HO199.out) (Kd.R_base ho10) hb); have n1_ := Aside0.mk (Kd.R_lower (Kd.R_new' ho10 (Kd.R_lt (uR HO199.out))) (below_size uB)); have n2_ := Aside0.mk (below_step uB hb); clear HO199 HB; have HO199 := n0_; have HO202 := n1_; have HB := n2_; clear n0_ n1_ n2_; clear hb ho10))
  go_loopg [29] k (fun kq v29 w' => ∃ (x10_1 : List Int) (x29_1 : Int), v29 = .int .i64 x29_1 ∧ Aside0 (bucket_Pass.l0 kq l0 l1 x10_1 l0 (l0.length : Int) x29_1 = some (r1, r2)) ∧ Aside0 (kq ≤ k) ∧ Aside0 (Kd.R (Kd.int .i64) 3 w' w.heap.size (fun _ => True) v201 x10_1) ∧ Aside0 (Below w.heap.size w w'))
  case atStart => exact ⟨(y200), (0), sD, H', ⟨Nat.le_refl _⟩, ⟨by (with_reducible repeat (first | apply Kd.R_alloc | apply Kd.R_drewN | apply Kd.R_drew)); exact Kd.R_mono HO202.out (fun _ hk => trivial)⟩, ⟨uB⟩⟩
  case round =>
   clear H'
   obtain ⟨x10_1, x29_1, rfl, HA, HK1, HO_10, HB⟩ := hrel
   cases gk with
   | zero => exact absurd HA.out (by simp [bucket_Pass.l0])
   | succ k1 =>
    have H := HA.out
    clear HA
    simp only [bucket_Pass.l0] at H
    rcases ifC H with ⟨c11b0, H⟩ | ⟨c11b0, H⟩
    ·obtain ⟨c12b0, c13b0, H⟩ := ifD2 H
     rcases ifC H with ⟨c14b0, H⟩ | ⟨c14b0, H⟩
     ·simp only [Option.some.injEq, Prod.mk.injEq] at H
      obtain ⟨rfl, rfl⟩ := H
      obtain ⟨ad203, e203, hx203_0, p203, q203⟩ := rIO HB.out HR0.out x29_1
      cases e203
      go_wp2
      go_ret2
      exact ⟨_, eR, nL, uB⟩
     ·rcases ifG H with ⟨c15b0, H⟩ | ⟨c15b0, H⟩
      ·simp only [Option.some.injEq, Prod.mk.injEq] at H
       obtain ⟨rfl, rfl⟩ := H
       obtain ⟨ad203, e203, hx203_0, p203, q203⟩ := rIO HB.out HR0.out x29_1
       cases e203
       go_wp2
       go_ret2
       exact ⟨_, eR, nL, uB⟩
      ·obtain ⟨c16b0, c17b0, H⟩ := ifD2 H
       obtain ⟨c18b0, c19b0, H⟩ := ifD2 H
       generalize hy206 : (x10_1.set ((rd l1 (rd l0 x29_1)) : Int).toNat (wrap64 ((rd x10_1 (rd l1 (rd l0 x29_1))) + 1)) : List Int) = y206 at H
       try simp only [Option.bind_some] at H
       have Ny206 := Aside0.mk hy206.symm
       clear hy206
       have H' := Aside0.mk H
       clear H
       obtain ⟨ad203, e203, hx203_0, p203, q203⟩ := rIO HB.out HR0.out x29_1
       cases e203
       obtain ⟨ad204, e204, hx204_0, p204, q204⟩ := rIO HB.out HR1.out (rd l0 x29_1)
       cases e204
       obtain ⟨Ao21, co21, eo21⟩ := Kd.R_slice HO_10.out
       subst eo21
       obtain ⟨ad205, e205, hx205_0, p205, q205⟩ := rI (Kd.R_reads' HO_10.out).2.2 (rd l1 (rd l0 x29_1))
       cases e205
       have p20 : 0 ≤ ((rd l1 (rd l0 x29_1)) : Int) := dT
       have q20 : ((rd l1 (rd l0 x29_1)) : Int) < ((x10_1.length : Int) : Int) := dT
       obtain ⟨go20, co20, eo20, gb20, gl20, cl20, HG20⟩ := Kd.R_form HO_10.out (by omega)
       (first | cases eo20 | (injection eo20 with ea_ en_ ec_; (first | subst ea_ | (injection ea_ with ea_; subst ea_)); subst ec_; clear en_))
       have GB20 := Aside0.mk gb20
       have GG20 := Aside0.mk HG20
       clear gb20 gl20 HG20
       (first | simp only [add_plain] at hx205_0 | skip)
       obtain ⟨hx20_0, hf20_0⟩ := Kd.R_celln 0 HO_10.out ((rd l1 (rd l0 x29_1)) : Int) p20 q20
       replace p20 := eq_true p20
       replace q20 := eq_true q20
       have HP22 := Kd.R_putg HO_10.out ((rd l1 (rd l0 x29_1)) : Int) (wrap64 ((rd x10_1 (rd l1 (rd l0 x29_1))) + 1))
       go_wp2_with (first | ((with_reducible refine gate_store (t := 3) (p := 49) rfl ?_); refine store_event (t := 3) (p := 49) (v := ?vo_w23) (w1 := (wr.setCell ⟨go20, ((rd l1 (rd l0 x29_1)) : Int).toNat, none⟩ (.int .i64 (wrap64 ((rd x10_1 (rd l1 (rd l0 x29_1))) + 1))))) ?hg ?ho ?hn ?hr ?_; (case ho => rfl); (case hg => rfl); (case hn => rfl); (case hr => first | (go_simp; done) | (go_simp; rfl)); intro w23 hw; have hg : wr.grownBy w23 (some go20) := (by rw [hw]; exact HP22.2); have hp_ : Kd.R (Kd.int .i64) 3 w23 w.heap.size (fun _ => True) (.slice (some ⟨go20, 0, none⟩) x10_1.length co21) y206 := (by rw [hw, Ny206.out]; exact HP22.1); clear HP22; have n0_ := Aside0.mk (hp_); have n1_ := Aside0.mk ((by rw [hw]; exact below_set (HB.out) GB20.out : Below w.heap.size w w23)); clear HO_10 HB; have HO_10 := n0_; have HB := n1_; clear n0_ n1_; clear hg hw hp_))
       go_roundg k1
       case measure => have := HK1.out; omega
       case rel => exact ⟨(y206), (wrap64 (x29_1 + 1)), sD, H', ⟨by have := HK1.out; omega⟩, ⟨uR HO_10.out⟩, ⟨uB⟩⟩
    ·obtain ⟨t207, A24, H⟩ := bdS H
     try dsimp only at H
     obtain ⟨c25b0, c25b1, H⟩ := ifE H
     obtain ⟨c26b0, c26b1, H⟩ := ifE H
     generalize hy210 : (List.replicate ((l0.length : Int) : Int).toNat 0 : List Int) = y210 at H
     try simp only [Option.bind_some] at H
     have Ny210 := Aside0.mk hy210.symm
     clear hy210
     have H' := Aside0.mk H
     clear H
     obtain ⟨Ao27, co27, eo27⟩ := Kd.R_slice HO_10.out
     subst eo27
     go_wp2_with (first | ((with_reducible refine gate_callee (f := 93) rfl ?_); refine goesL_ (some 52) rfl rfl Tryz.func93 (by kernel_rfl) rfl #[.slice Ao27 x10_1.length co27] rfl aE ?_; (with_reducible refine (bucket_Starts.calls k1 _ _ x10_1 t207 _ ?side1 ?side2 A24.out).mono ?_); (case side1 => exact uC (Kd.R_reads' HO_10.out).2.2); (case side2 => exact (Kd.R_reads' HO_10.out).2.1); rintro e w28 ⟨v208, rfl, ho0, hb⟩; refine ⟨_, rfl, ?_⟩; have n0_ := Aside0.mk (Kd.R_elder' (uR HO_10.out) (Kd.R_base ho0) hb); have n1_ := Aside0.mk (Kd.R_lower (Kd.R_new' ho0 (Kd.R_lt (uR HO_10.out))) (below_size uB)); have n2_ := Aside0.mk (below_step uB hb); clear HO_10 HB; have HO_10 := n0_; have HO209 := n1_; have HB := n2_; clear n0_ n1_ n2_) | ((with_reducible refine gate_dst (N := 55) rfl ?_); (try (refine gate_guard (by rfl) ?_; dsimp only)); refine Kd.R_make (Kd.int .i64) _ 3 rfl (N := 55) rfl 29 _ _ rfl (l0.length : Int) rfl rfl Tryz.underlying29 (.int .i64 0) 8 info3 rfl (by decide) (by omega) 0 (ok := fun _ => True) (okp := fun _ => True) rfl (fun _ hk => hk) trivial dT (Nat.le_trans (Nat.mul_le_mul_right _ (dT : (l0.length : Int).toNat ≤ 35184372088832)) (by omega)) (Below.refl _ _) (Nat.le_refl _) ?_; intro v211 w29 ho30 hb hg_ hnew_; clear hg_ hnew_; (first | rw [← Ny210.out] at ho30 | (simp only [Int.reduceToNat] at ho30; rw [← Ny210.out] at ho30)); have n0_ := Aside0.mk (Kd.R_elder' (uR HO_10.out) (Kd.R_base ho30) hb); have n1_ := Aside0.mk (Kd.R_elder' (uR HO209.out) (Kd.R_base ho30) hb); have n2_ := Aside0.mk (Kd.R_lower (Kd.R_new' (Kd.R_new' ho30 (Kd.R_lt (uR HO_10.out))) (Kd.R_lt (uR HO209.out))) (below_size uB)); have n3_ := Aside0.mk (below_step uB hb); clear HO_10 HO209 HB; have HO_10 := n0_; have HO209 := n1_; have HO212 := n2_; have HB := n3_; clear n0_ n1_ n2_ n3_; clear hb ho30))
     go_loopg [58] k1 (fun kq v58 w' => ∃ (x13_2 : List Int) (x14_2 : List Int) (x58_2 : Int), v58 = .int .i64 x58_2 ∧ Aside0 (bucket_Pass.l1 kq l1 x13_2 x14_2 l0 (l0.length : Int) x58_2 = some (r1, r2)) ∧ Aside0 (kq ≤ k1) ∧ Aside0 (Kd.R (Kd.int .i64) 3 w' w.heap.size (fun k_ => some k_ ≠ (v211 : Value).ownBlock) v208 x13_2) ∧ Aside0 (Kd.R (Kd.int .i64) 3 w' w.heap.size (fun k_ => some k_ ≠ (v208 : Value).ownBlock) v211 x14_2) ∧ Aside0 (Below w.heap.size w w'))
     case atStart => exact ⟨(t207), (y210), (0), sD, H', ⟨Nat.le_refl _⟩, ⟨by (with_reducible repeat (first | apply Kd.R_alloc | apply Kd.R_drewN | apply Kd.R_drew)); exact Kd.R_mono HO209.out (fun _ hk => hk.2)⟩, ⟨by (with_reducible repeat (first | apply Kd.R_alloc | apply Kd.R_drewN | apply Kd.R_drew)); exact Kd.R_mono HO212.out (fun _ hk => hk.2)⟩, ⟨uB⟩⟩
     case round =>
      clear H'
      obtain ⟨x13_2, x14_2, x58_2, rfl, HA, HK2, HO_13, HO_14, HB⟩ := hrel
      cases gk with
      | zero => exact absurd HA.out (by simp [bucket_Pass.l1])
      | succ k2 =>
       have H := HA.out
       clear HA
       simp only [bucket_Pass.l1] at H
       rcases ifC H with ⟨c31b0, H⟩ | ⟨c31b0, H⟩
       ·obtain ⟨c32b0, c33b0, H⟩ := ifD2 H
        obtain ⟨c34b0, c35b0, H⟩ := ifD2 H
        obtain ⟨c36b0, c37b0, H⟩ := ifD2 H
        obtain ⟨c38b0, c39b0, H⟩ := ifD2 H
        generalize hy216 : (x14_2.set ((rd x13_2 (rd l1 (rd l0 x58_2))) : Int).toNat (rd l0 x58_2) : List Int) = y216 at H
        try simp only [Option.bind_some] at H
        have Ny216 := Aside0.mk hy216.symm
        clear hy216
        generalize hy219 : (x13_2.set ((rd l1 (rd l0 x58_2)) : Int).toNat (wrap64 ((rd x13_2 (rd l1 (rd l0 x58_2))) + 1)) : List Int) = y219 at H
        try simp only [Option.bind_some] at H
        have Ny219 := Aside0.mk hy219.symm
        clear hy219
        have H' := Aside0.mk H
        clear H
        obtain ⟨ad213, e213, hx213_0, p213, q213⟩ := rIO HB.out HR0.out x58_2
        cases e213
        obtain ⟨ad214, e214, hx214_0, p214, q214⟩ := rIO HB.out HR1.out (rd l0 x58_2)
        cases e214
        obtain ⟨Ao42, co42, eo42⟩ := Kd.R_slice HO_13.out
        subst eo42
        obtain ⟨ad215, e215, hx215_0, p215, q215⟩ := rI (Kd.R_reads' HO_13.out).2.2 (rd l1 (rd l0 x58_2))
        cases e215
        have p40 : 0 ≤ ((rd x13_2 (rd l1 (rd l0 x58_2))) : Int) := dT
        have q40 : ((rd x13_2 (rd l1 (rd l0 x58_2))) : Int) < ((x14_2.length : Int) : Int) := dT
        obtain ⟨go40, co40, eo40, gb40, gl40, cl40, HG40⟩ := Kd.R_form HO_14.out (by omega)
        (first | cases eo40 | (injection eo40 with ea_ en_ ec_; (first | subst ea_ | (injection ea_ with ea_; subst ea_)); subst ec_; clear en_))
        have GB40 := Aside0.mk gb40
        have GG40 := Aside0.mk HG40
        clear gb40 gl40 HG40
        obtain ⟨hx40_0, hf40_0⟩ := Kd.R_celln 0 HO_14.out ((rd x13_2 (rd l1 (rd l0 x58_2))) : Int) p40 q40
        replace p40 := eq_true p40
        replace q40 := eq_true q40
        have HP43 := Kd.R_putg HO_14.out ((rd x13_2 (rd l1 (rd l0 x58_2))) : Int) (rd l0 x58_2)
        go_wp2_with (first | ((with_reducible refine gate_store (t := 3) (p := 71) rfl ?_); refine store_event (t := 3) (p := 71) (v := ?vo_w44) (w1 := (wr.setCell ⟨go40, ((rd x13_2 (rd l1 (rd l0 x58_2))) : Int).toNat, none⟩ (.int .i64 (rd l0 x58_2)))) ?hg ?ho ?hn ?hr ?_; (case ho => rfl); (case hg => rfl); (case hn => rfl); (case hr => first | (go_simp; done) | (go_simp; rfl)); intro w44 hw; have hg : wr.grownBy w44 (some go40) := (by rw [hw]; exact HP43.2); have hp_ : Kd.R (Kd.int .i64) 3 w44 w.heap.size (fun k_ => some k_ ≠ (.slice (some ad215) x13_2.length co42 : Value).ownBlock) (.slice (some ⟨go40, 0, none⟩) x14_2.length co40) y216 := (by rw [hw, Ny216.out]; exact HP43.1); clear HP43; have n0_ := Aside0.mk (Kd.R_after (v := (.slice (some ⟨go40, 0, none⟩) x14_2.length co40)) (v1 := (.slice (some ⟨go40, 0, none⟩) x14_2.length co40)) (ok := (fun _ => True)) (by (with_reducible repeat (first | apply Kd.R_alloc | apply Kd.R_drewN | apply Kd.R_drew)); exact Kd.R_mono HO_13.out (fun _ hk => ⟨trivial, hk⟩)) hg (.inl rfl)); have n1_ := Aside0.mk (hp_); have n2_ := Aside0.mk ((by rw [hw]; exact below_set (HB.out) GB40.out : Below w.heap.size w w44)); clear HO_13 HO_14 HB; have HO_13 := n0_; have HO_14 := n1_; have HB := n2_; clear n0_ n1_ n2_; clear hg hw hp_; have p217 : 0 ≤ ((rd l0 x58_2) : Int) := dT; have q217 : (rd l0 x58_2) < (l1.length : Int) := dT; obtain ⟨ad217, e217, hx217_0⟩ := Kd.at_int HR1.out (rd l0 x58_2) p217 q217; obtain rfl : ad214 = ad217 := (by injection e217); replace hx217_0 := (HB.out.cell (World.block_lt_of_cell? w _ hx217_0)).trans hx217_0; replace p217 := eq_true p217; replace q217 := eq_true q217; have p218 : 0 ≤ ((rd l1 (rd l0 x58_2)) : Int) := dT; have q218 : (rd l1 (rd l0 x58_2)) < (x13_2.length : Int) := dT; obtain ⟨ad218, e218, hx218_0⟩ := Kd.at_int (Kd.R_reads' HO_13.out).2.2 (rd l1 (rd l0 x58_2)) p218 q218; obtain rfl : ad215 = ad218 := (by injection e218); replace p218 := eq_true p218; replace q218 := eq_true q218; have p41 : 0 ≤ ((rd l1 (rd l0 x58_2)) : Int) := dT; have q41 : ((rd l1 (rd l0 x58_2)) : Int) < ((x13_2.length : Int) : Int) := dT; obtain ⟨go41, co41, eo41, gb41, gl41, cl41, HG41⟩ := Kd.R_form HO_13.out (by omega); (first | cases eo41 | (injection eo41 with ea_ en_ ec_; (first | subst ea_ | (injection ea_ with ea_; subst ea_)); subst ec_; clear en_)); have GB41 := Aside0.mk gb41; have GG41 := Aside0.mk HG41; clear gb41 gl41 HG41; (first | simp only [add_plain] at hx215_0 | skip); (first | simp only [add_plain] at hx218_0 | skip); obtain ⟨hx41_0, hf41_0⟩ := Kd.R_celln 0 HO_13.out ((rd l1 (rd l0 x58_2)) : Int) p41 q41; replace p41 := eq_true p41; replace q41 := eq_true q41; have n_ := Aside0.mk (Kd.R_mono (ok' := (fun k_ => some k_ ≠ (.slice (some ⟨go40, 0, none⟩) x14_2.length co40 : Value).ownBlock)) HO_13.out (fun k_ hk => hk.2)); clear HO_13; have HO_13 := n_; clear n_; obtain ⟨hy45_, hz45_⟩ := Kd.R_celln 0 HO_13.out ((rd l1 (rd l0 x58_2)) : Int) dT dT; have HP45 := Kd.R_putg HO_13.out ((rd l1 (rd l0 x58_2)) : Int) (wrap64 ((rd x13_2 (rd l1 (rd l0 x58_2))) + 1))) | ((with_reducible refine gate_store (t := 3) (p := 80) rfl ?_); refine store_event (t := 3) (p := 80) (v := ?vo_w46) (w1 := (w44.setCell ⟨go41, ((rd l1 (rd l0 x58_2)) : Int).toNat, none⟩ (.int .i64 (wrap64 ((rd x13_2 (rd l1 (rd l0 x58_2))) + 1))))) ?hg ?ho ?hn ?hr ?_; (case ho => rfl); (case hg => rfl); (case hn => rfl); (case hr => first | (go_simp; done) | (go_simp; rfl)); intro w46 hw; have hg : w44.grownBy w46 (some go41) := (by rw [hw]; exact HP45.2); have hp_ : Kd.R (Kd.int .i64) 3 w46 w.heap.size (fun k_ => some k_ ≠ (.slice (some ⟨go40, 0, none⟩) x14_2.length co40 : Value).ownBlock) (.slice (some ⟨go41, 0, none⟩) x13_2.length co42) y219 := (by rw [hw, Ny219.out]; exact HP45.1); clear HP45; have n0_ := Aside0.mk (hp_); have n1_ := Aside0.mk (Kd.R_after (v := (.slice (some ⟨go41, 0, none⟩) x13_2.length co42)) (v1 := (.slice (some ⟨go41, 0, none⟩) x13_2.length co42)) (ok := (fun _ => True)) (by (with_reducible repeat (first | apply Kd.R_alloc | apply Kd.R_drewN | apply Kd.R_drew)); exact Kd.R_mono HO_14.out (fun _ hk => ⟨trivial, hk⟩)) hg (.inl rfl)); have n2_ := Aside0.mk ((by rw [hw]; exact below_set (HB.out) GB41.out : Below w.heap.size w w46)); clear HO_13 HO_14 HB; have HO_13 := n0_; have HO_14 := n1_; have HB := n2_; clear n0_ n1_ n2_; clear hg hw hp_))
        go_roundg k2
        case measure => have := HK1.out; have := HK2.out; omega
        case rel => exact ⟨(y219), (y216), (wrap64 (x58_2 + 1)), sD, H', ⟨by have := HK1.out; have := HK2.out; omega⟩, ⟨uR HO_13.out⟩, ⟨by (with_reducible repeat (first | apply Kd.R_alloc | apply Kd.R_drewN | apply Kd.R_drew)); exact Kd.R_mono HO_14.out (fun _ hk => hk.2)⟩, ⟨uB⟩⟩
       ·simp only [Option.some.injEq, Prod.mk.injEq] at H
        obtain ⟨rfl, rfl⟩ := H
        go_wp2
        go_ret2
        exact ⟨_, eR, by (with_reducible repeat (first | apply Kd.R_alloc | apply Kd.R_drewN | apply Kd.R_drew)); exact Kd.R_mono HO_14.out (fun _ hk => trivial), uB⟩
 ·replace c5 := Bool.eq_false_iff.mpr c5
  subst c5
  rw [if_neg (by decide)] at H
  simp only [Option.some.injEq, Prod.mk.injEq] at H
  obtain ⟨rfl, rfl⟩ := H
  go_enter Tryz.func71, Tryz.ntmps71
  go_wp2_with (first | ((with_reducible refine gate_callee (f := 91) rfl ?_); refine goesL_ (some 20) rfl rfl Tryz.func91 (by kernel_rfl) rfl #[.slice A1 l1.length c1, .int .i64 a2] rfl aE ?_; (with_reducible refine (bucket_Counts.calls k _ _ l1 a2 t196 false _ ?side1 ?side2 A4.out).mono ?_); (case side1 => exact uC HR1.out); (case side2 => exact HC1.out); rintro e w47 ⟨v198, rfl, ho0, hb⟩; refine ⟨_, rfl, ?_⟩; have n0_ := Aside0.mk (Kd.R_lower ho0 (below_size uB)); have n1_ := Aside0.mk (below_step uB hb); clear HB; have HO199 := n0_; have HB := n1_; clear n0_ n1_))
  go_ret2
  exact ⟨_, eR, nL, uB⟩
def skew_places.l0 : Nat → Int → List Int → Int → Option (List Int)
  | 0, _, _, _ => none
  | k + 1, x0, x5, x6 => if x6 < x0 then (if x5.length < 17592186044416 then (skew_places.l0 k x0 (x5 ++ [x6]) (wrap64 (x6 + 3))) else (none)) else (some x5)
def skew_places.f (k : Nat) (a0 : Int) (a1 : Int) : Option (List Int) := skew_places.l0 k a0 ([] : List Int) a1
theorem skew_places.calls (k : Nat) (a0 : Int) (a1 : Int) (r : List Int) (w : World) (h : skew_places.f k a0 a1 = some r) :
    Calls Tryz.prog 129 #[.int .i64 a0, .int .i64 a1] w fun e w' => ∃ v0_ : Value, e = .returned (v0_) ∧ Kd.R (Kd.int .i64) 3 w' w.heap.size (fun _ => True) v0_ r ∧ Below w.heap.size w w' := by
 have HB := Aside0.mk (Below.refl w.heap.size w)
 have H := h
 clear h
 unfold skew_places.f at H
 have H' := Aside0.mk H
 clear H
 go_enter Tryz.func129, Tryz.ntmps129
 go_wp2
 go_loopg [5, 6] k (fun kq v5 v6 w' => ∃ (x5_1 : List Int) (x6_1 : Int), v6 = .int .i64 x6_1 ∧ Aside0 (skew_places.l0 kq a0 x5_1 x6_1 = some r) ∧ Aside0 (kq ≤ k) ∧ Aside0 (Kd.R (Kd.int .i64) 3 w' w.heap.size (fun _ => True) v5 x5_1) ∧ Aside0 (Below w.heap.size w w'))
 case atStart => exact ⟨(([] : List Int)), (a1), sD, H', ⟨Nat.le_refl _⟩, ⟨nL⟩, ⟨uB⟩⟩
 case round =>
  clear H'
  obtain ⟨x5_1, x6_1, rfl, HA, HK1, HO_5, HB⟩ := hrel
  cases gk with
  | zero => exact absurd HA.out (by simp [skew_places.l0])
  | succ k1 =>
   have H := HA.out
   clear HA
   simp only [skew_places.l0] at H
   rcases ifC H with ⟨c3b0, H⟩ | ⟨c3b0, H⟩
   ·obtain ⟨c4, H⟩ := ifP H
    have LMc4 := Aside0.mk c4
    clear c4
    generalize hy220 : (x5_1 ++ [x6_1] : List Int) = y220 at H
    try simp only [Option.bind_some] at H
    have Ny220 := Aside0.mk hy220.symm
    clear hy220
    have H' := Aside0.mk H
    clear H
    go_wp2_with (first | ((with_reducible refine gate_builtin (b := .append) (xs := #[.tmp 13, .tmp 15]) rfl ?_); at_builtin; refine Kd.R_append (Kd.int .i64) (w0 := w) w.heap.size rfl (.tmp 13) (.tmp 15) 29 3 (.int .i64 0) 8 rfl Tryz.underlying29 info3 rfl (by decide) (by omega) u5 x5_1 x6_1 [.int .i64 x6_1] (fun _ => True) (fun _ => False) rfl rfl ?aP (fun _ hk => hk.elim) ?aF ?aO ?aB ?aS ?aL ?_; (case aP => exact rfl); (case aB => exact uB); (case aF => exact (fun _ _ => trivial)); (case aO => exact (uR HO_5.out)); (case aS => exact (below_size uB)); (case aL => have := LMc4.out; omega); intro v221 w5 ho hb hg hat; rw [← Ny220.out] at ho; have n0_ := Aside0.mk (hb); have n1_ := Aside0.mk (ho); clear HB HO_5; have HB := n0_; have HO222 := n1_; clear n0_ n1_; clear ho hb hg hat))
    go_roundg k1
    case measure => have := HK1.out; omega
    case rel => exact ⟨(y220), (wrap64 (x6_1 + 3)), sD, H', ⟨by have := HK1.out; omega⟩, ⟨uR HO222.out⟩, ⟨uB⟩⟩
   ·obtain rfl := Option.some.inj H
    go_wp2
    go_ret
    exact ⟨_, eR, uR HO_5.out, uB⟩
def skew_key.f (l0 : List Int) (a1 : Int) : Option (Int) := if a1 ≥ (l0.length : Int) then (some 0) else (if 0 ≤ a1 then (if a1 < (l0.length : Int) then (some (wrap64 ((rd l0 a1) + 1))) else (none)) else (none))
theorem skew_key.calls (A0 : Option Addr) (c0 : Nat) (l0 : List Int) (a1 : Int) (r : Int) (w : World) (hr0 : Kd.C (Kd.int .i64) w A0 l0.length l0) (hc0 : l0.length ≤ c0) (h : skew_key.f l0 a1 = some r) :
    Calls Tryz.prog 147 #[.slice A0 l0.length c0, .int .i64 a1] w fun e w' => e = .returned (.int .i64 r) ∧ Drawn0 w w' := by
 have HR0 := Aside0.mk hr0
 have HC0 := Aside0.mk hc0
 clear hr0 hc0
 have H := h
 clear h
 unfold skew_key.f at H
 rcases ifG H with ⟨c3b0, H⟩ | ⟨c3b0, H⟩
 ·obtain rfl := Option.some.inj H
  go_enter Tryz.func147, Tryz.ntmps147
  go_wp2
  go_ret
  exact ⟨sD, dD⟩
 ·obtain ⟨c4b0, c5b0, H⟩ := ifD2 H
  obtain rfl := Option.some.inj H
  obtain ⟨ad223, e223, hx223_0, p223, q223⟩ := rI HR0.out a1
  cases e223
  go_enter Tryz.func147, Tryz.ntmps147
  go_wp2
  go_ret
  exact ⟨sD, dD⟩
def skew_keys.l0 : Nat → List Int → Int → List Int → Int → Int → Option (List Int)
  | 0, _, _, _, _, _ => none
  | k + 1, x0, x1, x5, x11, x12 => if x12 < x11 then ((skew_key.f x0 (wrap64 (x12 + x1))).bind fun t227 => (if 0 ≤ x12 then (if x12 < (x5.length : Int) then (skew_keys.l0 k x0 x1 (x5.set (x12 : Int).toNat t227) x11 (wrap64 (x12 + 1))) else (none)) else (none))) else (some x5)
def skew_keys.f (k : Nat) (l0 : List Int) (a1 : Int) : Option (List Int) := if 0 ≤ (l0.length : Int) then (if ((l0.length : Int) : Int).toNat ≤ 35184372088832 then ((some (List.replicate ((l0.length : Int) : Int).toNat 0 : List Int)).bind fun y224 => (skew_keys.l0 k l0 a1 y224 (y224.length : Int) 0)) else (none)) else (none)
theorem skew_keys.calls (k : Nat) (A0 : Option Addr) (c0 : Nat) (l0 : List Int) (a1 : Int) (r : List Int) (w : World) (hr0 : Kd.C (Kd.int .i64) w A0 l0.length l0) (hc0 : l0.length ≤ c0) (h : skew_keys.f k l0 a1 = some r) :
    Calls Tryz.prog 131 #[.slice A0 l0.length c0, .int .i64 a1] w fun e w' => ∃ v0_ : Value, e = .returned (v0_) ∧ Kd.R (Kd.int .i64) 3 w' w.heap.size (fun _ => True) v0_ r ∧ Below w.heap.size w w' := by
 have HR0 := Aside0.mk hr0
 have HC0 := Aside0.mk hc0
 clear hr0 hc0
 have HB := Aside0.mk (Below.refl w.heap.size w)
 have H := h
 clear h
 unfold skew_keys.f at H
 obtain ⟨c3b0, c3b1, H⟩ := ifE H
 obtain ⟨c4b0, c4b1, H⟩ := ifE H
 generalize hy224 : (List.replicate ((l0.length : Int) : Int).toNat 0 : List Int) = y224 at H
 try simp only [Option.bind_some] at H
 have Ny224 := Aside0.mk hy224.symm
 clear hy224
 have H' := Aside0.mk H
 clear H
 go_enter Tryz.func131, Tryz.ntmps131
 go_wp2_with (first | ((with_reducible refine gate_dst (N := 9) rfl ?_); refine Kd.R_make (Kd.int .i64) _ 3 rfl (N := 9) rfl 29 _ _ rfl (l0.length : Int) rfl rfl Tryz.underlying29 (.int .i64 0) 8 info3 rfl (by decide) (by omega) 0 (ok := fun _ => True) (okp := fun _ => True) rfl (fun _ hk => hk) trivial dT (Nat.le_trans (Nat.mul_le_mul_right _ (dT : (l0.length : Int).toNat ≤ 35184372088832)) (by omega)) (Below.refl _ _) (Nat.le_refl _) ?_; intro v225 w5 ho6 hb hg_ hnew_; clear hg_ hnew_; (first | rw [← Ny224.out] at ho6 | (simp only [Int.reduceToNat] at ho6; rw [← Ny224.out] at ho6)); have n0_ := Aside0.mk (Kd.R_lower ho6 (below_size uB)); have n1_ := Aside0.mk (below_step uB hb); clear HB; have HO226 := n0_; have HB := n1_; clear n0_ n1_; clear hb ho6; obtain ⟨Ao7, co7, eo7⟩ := Kd.R_slice HO226.out; subst eo7))
 go_loopg [12] k (fun kq v12 w' => ∃ (x5_1 : List Int) (x12_1 : Int), v12 = .int .i64 x12_1 ∧ Aside0 (skew_keys.l0 kq l0 a1 x5_1 (y224.length : Int) x12_1 = some r) ∧ Aside0 (kq ≤ k) ∧ Aside0 (Kd.R (Kd.int .i64) 3 w' w.heap.size (fun _ => True) (.slice Ao7 y224.length co7) x5_1) ∧ Aside0 (Below w.heap.size w w'))
 case atStart => exact ⟨(y224), (0), sD, H', ⟨Nat.le_refl _⟩, ⟨uR HO226.out⟩, ⟨uB⟩⟩
 case round =>
  clear H'
  obtain ⟨x5_1, x12_1, rfl, HA, HK1, HO_5, HB⟩ := hrel
  have hl5_1 := (Kd.R_reads' HO_5.out).1
  rw [hl5_1] at HO_5
  (try simp only [hl5_1])
  cases gk with
  | zero => exact absurd HA.out (by simp [skew_keys.l0])
  | succ k1 =>
   have H := HA.out
   clear HA
   simp only [skew_keys.l0] at H
   by_cases c8 : x12_1 < (y224.length : Int)
   ·rw [if_pos c8] at H
    have c8b0 : decide (x12_1 < (y224.length : Int)) = true := decide_eq_true c8
    clear c8
    obtain ⟨t227, A9, H⟩ := bdS H
    try dsimp only at H
    obtain ⟨c10b0, c11b0, H⟩ := ifD2 H
    generalize hy228 : (x5_1.set (x12_1 : Int).toNat t227 : List Int) = y228 at H
    try simp only [Option.bind_some] at H
    have Ny228 := Aside0.mk hy228.symm
    clear hy228
    have H' := Aside0.mk H
    clear H
    go_wp2_with (first | ((with_reducible refine gate_callee (f := 147) rfl ?_); refine goesL_ (some 21) rfl rfl Tryz.func147 (by kernel_rfl) rfl #[.slice A0 l0.length c0, .int .i64 (wrap64 (x12_1 + a1))] rfl aE ?_; (with_reducible refine (skew_key.calls _ _ l0 (wrap64 (x12_1 + a1)) t227 _ ?side1 ?side2 A9.out).mono ?_); (case side1 => exact uC (Kd.C_below HR0.out HB.out)); (case side2 => exact HC0.out); rintro e w' ⟨rfl, ⟨nd, rfl⟩⟩; refine ⟨_, rfl, ?_⟩; (try (rw [drewN_self wr]; generalize hq_ : World.drewN wr _ = wr; have n0_ : Aside0 (Kd.R (Kd.int .i64) 3 wr w.heap.size (fun _ => True) (.slice Ao7 x5_1.length co7) x5_1) := ⟨by rw [← hq_]; exact (uR HO_5.out)⟩; have n1_ : Aside0 (Below w.heap.size w wr) := ⟨by rw [← hq_]; exact uB⟩; clear HO_5 HB hq_; have HO_5 := n0_; have HB := n1_; clear n0_ n1_)); have p12 : 0 ≤ (x12_1 : Int) := dT; have q12 : (x12_1 : Int) < ((x5_1.length : Int) : Int) := dT; obtain ⟨go12, co12, eo12, gb12, gl12, cl12, HG12⟩ := Kd.R_form HO_5.out (by omega); (first | cases eo12 | (injection eo12 with ea_ en_ ec_; (first | subst ea_ | (injection ea_ with ea_; subst ea_)); subst ec_; clear en_)); have GB12 := Aside0.mk gb12; have GG12 := Aside0.mk HG12; clear gb12 gl12 HG12; obtain ⟨hx12_0, hf12_0⟩ := Kd.R_celln 0 HO_5.out (x12_1 : Int) p12 q12; replace p12 := eq_true p12; replace q12 := eq_true q12; obtain ⟨hy13_, hz13_⟩ := Kd.R_celln 0 HO_5.out (x12_1 : Int) dT dT; have HP13 := Kd.R_putg HO_5.out (x12_1 : Int) t227) | ((with_reducible refine gate_store (t := 3) (p := 22) rfl ?_); refine store_event (t := 3) (p := 22) (v := ?vo_w14) (w1 := (wr.setCell ⟨go12, (x12_1 : Int).toNat, none⟩ (.int .i64 t227))) ?hg ?ho ?hn ?hr ?_; (case ho => rfl); (case hg => rfl); (case hn => rfl); (case hr => first | (go_simp; done) | (go_simp; rfl)); intro w14 hw; have hg : wr.grownBy w14 (some go12) := (by rw [hw]; exact HP13.2); have hp_ : Kd.R (Kd.int .i64) 3 w14 w.heap.size (fun _ => True) (.slice (some ⟨go12, 0, none⟩) x5_1.length co7) y228 := (by rw [hw, Ny228.out]; exact HP13.1); clear HP13; have n0_ := Aside0.mk (hp_); have n1_ := Aside0.mk ((by rw [hw]; exact below_set (HB.out) GB12.out : Below w.heap.size w w14)); clear HO_5 HB; have HO_5 := n0_; have HB := n1_; clear n0_ n1_; clear hg hw hp_))
    (try simp only [← hl5_1])
    go_roundg k1
    case measure => have := HK1.out; omega
    case rel => exact ⟨(y228), (wrap64 (x12_1 + 1)), sD, H', ⟨by have := HK1.out; omega⟩, ⟨by (try simp only [hl5_1]); (with_reducible repeat (first | apply Kd.R_alloc | apply Kd.R_drewN | apply Kd.R_drew)); exact HO_5.out⟩, ⟨uB⟩⟩
   ·rw [if_neg c8] at H
    have c8b0 : decide (x12_1 < (y224.length : Int)) = false := decide_eq_false c8
    (try simp only [hl5_1] at c8b0)
    clear c8
    obtain rfl := Option.some.inj H
    go_wp2
    go_ret
    exact ⟨_, eR, uR HO_5.out, uB⟩
def skew_Sample.j0 : Nat → Int → Bool → Option (List Int)
  | 0, _, _ => none
  | k + 1, x0, x8 => if x8 = true then (some ([] : List Int)) else ((skew_places.f k x0 1).bind fun t229 => ((skew_places.f k x0 2).bind fun t232 => (if t229.length + t232.length < 17592186044416 then (some (t229 ++ t232)) else (none))))
def skew_Sample.f (k : Nat) (a0 : Int) : Option (List Int) := if a0 < 0 then (skew_Sample.j0 k a0 true) else (skew_Sample.j0 k a0 (decide (a0 > 100000)))
theorem skew_Sample.calls (k : Nat) (a0 : Int) (r : List Int) (w : World) (h : skew_Sample.f k a0 = some r) :
    Calls Tryz.prog 145 #[.int .i64 a0] w fun e w' => ∃ v0_ : Value, e = .returned (v0_) ∧ Kd.R (Kd.int .i64) 3 w' w.heap.size (fun _ => True) v0_ r ∧ Below w.heap.size w w' := by
 have HB := Aside0.mk (Below.refl w.heap.size w)
 have H := h
 clear h
 unfold skew_Sample.f at H
 have HC2 := Aside0.mk H
 clear H
 go_enter Tryz.func145, Tryz.ntmps145
 go_upto_region 1 with (fail)
 go_cut [8] (fun v8 wc => ∃ (kq : Nat) (x8_1 : Bool), v8 = .bool x8_1 ∧ Aside0 (skew_Sample.j0 kq a0 x8_1 = some r) ∧ Aside0 (kq ≤ k) ∧ Aside0 (Below w.heap.size w wc))
 case first =>
  have H := HC2.out
  clear HC2
  rcases ifC H with ⟨c3b0, H⟩ | ⟨c3b0, H⟩
  ·(first | rw [c3b0] | (simp only [i64_w, i32_w]; rw [c3b0]) | skip)
   have H' := Aside0.mk H
   clear H
   go_wp2
   go_meet
   case rel => exact ⟨_, (true), sD, H', ⟨by first | omega | exact Nat.le_refl _⟩, ⟨uB⟩⟩
  ·(first | rw [c3b0] | (simp only [i64_w, i32_w]; rw [c3b0]) | skip)
   have H' := Aside0.mk H
   clear H
   go_wp2
   go_meet
   case rel => exact ⟨_, (decide (a0 > 100000)), sD, H', ⟨by first | omega | exact Nat.le_refl _⟩, ⟨uB⟩⟩
 case rest =>
  clear HC2
  obtain ⟨kq, x8_1, rfl, HA, HJ1, HB⟩ := hcut
  cases kq with
  | zero => exact absurd HA.out (by simp [skew_Sample.j0])
  | succ kj1 =>
   have H := HA.out
   clear HA
   simp only [skew_Sample.j0] at H
   by_cases c4 : x8_1 = true
   ·subst c4
    rw [if_pos rfl] at H
    obtain rfl := Option.some.inj H
    go_wp2
    go_ret
    exact ⟨_, eR, nL, uB⟩
   ·replace c4 := Bool.eq_false_iff.mpr c4
    subst c4
    rw [if_neg (by decide)] at H
    obtain ⟨t229, A5, H⟩ := bdS H
    try dsimp only at H
    obtain ⟨t232, A6, H⟩ := bdS H
    try dsimp only at H
    obtain ⟨c7, H⟩ := ifP H
    have LMc7 := Aside0.mk c7
    clear c7
    generalize hy235 : (t229 ++ t232 : List Int) = y235 at H
    try simp only [Option.bind_some] at H
    have Ny235 := Aside0.mk hy235.symm
    clear hy235
    obtain rfl := Option.some.inj H
    go_wp2_with (first | ((with_reducible refine gate_callee (f := 129) rfl ?_); refine goesL_ (some 10) rfl rfl Tryz.func129 (by kernel_rfl) rfl #[.int .i64 a0, .int .i64 1] rfl aE ?_; (with_reducible refine (skew_places.calls kj1 a0 1 t229 _ A5.out).mono ?_); rintro e w8 ⟨v230, rfl, ho0, hb⟩; refine ⟨_, rfl, ?_⟩; have n0_ := Aside0.mk (Kd.R_lower ho0 (below_size uB)); have n1_ := Aside0.mk (below_step uB hb); clear HB; have HO231 := n0_; have HB := n1_; clear n0_ n1_) | ((with_reducible refine gate_callee (f := 129) rfl ?_); refine goesL_ (some 12) rfl rfl Tryz.func129 (by kernel_rfl) rfl #[.int .i64 a0, .int .i64 2] rfl aE ?_; (with_reducible refine (skew_places.calls kj1 a0 2 t232 _ A6.out).mono ?_); rintro e w9 ⟨v233, rfl, ho0, hb⟩; refine ⟨_, rfl, ?_⟩; have n0_ := Aside0.mk (Kd.R_elder' (uR HO231.out) (Kd.R_base ho0) hb); have n1_ := Aside0.mk (Kd.R_lower (Kd.R_new' ho0 (Kd.R_lt (uR HO231.out))) (below_size uB)); have n2_ := Aside0.mk (below_step uB hb); clear HO231 HB; have HO231 := n0_; have HO234 := n1_; have HB := n2_; clear n0_ n1_ n2_; obtain ⟨Ao11, co11, eo11⟩ := Kd.R_slice HO234.out; subst eo11) | ((with_reducible refine gate_builtin (b := .append) (xs := #[.tmp 10, .tmp 12]) rfl ?_); at_builtin; refine Kd.R_append_rows (Kd.int .i64) (w0 := w) w.heap.size rfl (.tmp 10) (.tmp 12) 29 3 (.int .i64 0) 8 rfl Tryz.underlying29 info3 rfl (by decide) (by omega) v230 t229 t232 _ _ _ (fun k_ => some k_ ≠ (.slice Ao11 t232.length co11 : Value).ownBlock) (fun _ => False) rfl rfl ?aO ?aR (fun _ _ h => h) (fun _ h => h.elim) ?aF ?aB ?aS ?aL ?_; (case aR => repeat (first | exact (Kd.R_reads' HO234.out).2.2 | (with_reducible refine Kd.C_alloc ?_ _) | (with_reducible refine Kd.C_drewN ?_ _) | (with_reducible refine Kd.C_drew ?_))); (case aB => exact uB); (case aF => exact (fun k_ hk => Kd.fresh' (Kd.R_lt (uR HO234.out)) k_ hk)); (case aO => exact (by (with_reducible repeat (first | apply Kd.R_alloc | apply Kd.R_drewN | apply Kd.R_drew)); exact Kd.R_mono HO231.out (fun _ hk => hk.2))); (case aS => exact (below_size uB)); (case aL => have := LMc7.out; omega); intro v236 w10 ho hb hg hat; rw [← Ny235.out] at ho; have n0_ := Aside0.mk (Kd.R_after (ok := (fun _ => True)) (uR HO234.out) hg hat); have n1_ := Aside0.mk (hb); have n2_ := Aside0.mk (ho); clear HO234 HB HO231; have HO234 := n0_; have HB := n1_; have HO237 := n2_; clear n0_ n1_ n2_; clear ho hb hg hat))
    go_ret
    exact ⟨_, eR, by (with_reducible repeat (first | apply Kd.R_alloc | apply Kd.R_drewN | apply Kd.R_drew)); exact Kd.R_mono HO237.out (fun _ hk => trivial), uB⟩
def skew_alike.l0 : Nat → List Int → Int → Int → Int → Option (Bool)
  | 0, _, _, _, _ => none
  | k + 1, x0, x1, x2, x8 => if x8 < 3 then ((skew_key.f x0 (wrap64 (x1 + x8))).bind fun t238 => ((skew_key.f x0 (wrap64 (x2 + x8))).bind fun t239 => (if t238 = t239 then (skew_alike.l0 k x0 x1 x2 (wrap64 (x8 + 1))) else (some false)))) else (some true)
def skew_alike.f (k : Nat) (l0 : List Int) (a1 : Int) (a2 : Int) : Option (Bool) := skew_alike.l0 k l0 a1 a2 0
theorem skew_alike.calls (k : Nat) (A0 : Option Addr) (c0 : Nat) (l0 : List Int) (a1 : Int) (a2 : Int) (r : Bool) (w : World) (hr0 : Kd.C (Kd.int .i64) w A0 l0.length l0) (hc0 : l0.length ≤ c0) (h : skew_alike.f k l0 a1 a2 = some r) :
    Calls Tryz.prog 146 #[.slice A0 l0.length c0, .int .i64 a1, .int .i64 a2] w fun e w' => e = .returned (.bool r) ∧ Drawn0 w w' := by
 have HR0 := Aside0.mk hr0
 have HC0 := Aside0.mk hc0
 clear hr0 hc0
 have H := h
 clear h
 unfold skew_alike.f at H
 have H' := Aside0.mk H
 clear H
 go_enter Tryz.func146, Tryz.ntmps146
 go_wp2
 go_loopg [8] k (fun kq v8 w' => ∃ (x8_1 : Int), v8 = .int .i64 x8_1 ∧ Aside0 (skew_alike.l0 kq l0 a1 a2 x8_1 = some r) ∧ Aside0 (kq ≤ k) ∧ Drawn0 w w')
 case atStart => exact ⟨(0), sD, H', ⟨Nat.le_refl _⟩, dD⟩
 case round =>
  clear H'
  obtain ⟨x8_1, rfl, HA, HK1, ⟨m1, rfl⟩⟩ := hrel
  cases gk with
  | zero => exact absurd HA.out (by simp [skew_alike.l0])
  | succ k1 =>
   have H := HA.out
   clear HA
   simp only [skew_alike.l0] at H
   rcases ifC H with ⟨c4b0, H⟩ | ⟨c4b0, H⟩
   ·obtain ⟨t238, A5, H⟩ := bdS H
    try dsimp only at H
    obtain ⟨t239, A6, H⟩ := bdS H
    try dsimp only at H
    by_cases c7 : t238 = t239
    ·rw [if_pos c7] at H
     have c7b0 : (t238 == t239) = true := beq_iff_eq.mpr c7
     have c7b1 : (t238 != t239) = false := bne_eq_false_iff_eq.mpr c7
     clear c7
     have H' := Aside0.mk H
     clear H
     go_wp2_with (first | ((with_reducible refine gate_callee (f := 147) rfl ?_); refine goesL_ (some 15) rfl rfl Tryz.func147 (by kernel_rfl) rfl #[.slice A0 l0.length c0, .int .i64 (wrap64 (a1 + x8_1))] rfl aE ?_; (with_reducible refine (skew_key.calls _ _ l0 (wrap64 (a1 + x8_1)) t238 _ ?side1 ?side2 A5.out).mono ?_); (case side1 => exact uC HR0.out); (case side2 => exact HC0.out); rintro e w' ⟨rfl, ⟨nd, rfl⟩⟩; refine ⟨_, rfl, ?_⟩) | ((with_reducible refine gate_callee (f := 147) rfl ?_); refine goesL_ (some 20) rfl rfl Tryz.func147 (by kernel_rfl) rfl #[.slice A0 l0.length c0, .int .i64 (wrap64 (a2 + x8_1))] rfl aE ?_; (with_reducible refine (skew_key.calls _ _ l0 (wrap64 (a2 + x8_1)) t239 _ ?side1 ?side2 A6.out).mono ?_); (case side1 => exact uC HR0.out); (case side2 => exact HC0.out); rintro e w' ⟨rfl, ⟨nd, rfl⟩⟩; refine ⟨_, rfl, ?_⟩))
     go_roundg k1
     case measure => have := HK1.out; omega
     case rel => exact ⟨(wrap64 (x8_1 + 1)), sD, H', ⟨by have := HK1.out; omega⟩, dD⟩
    ·rw [if_neg c7] at H
     have c7b0 : (t238 == t239) = false := beq_eq_false_iff_ne.mpr c7
     have c7b1 : (t238 != t239) = true := bne_iff_ne.mpr c7
     obtain rfl := Option.some.inj H
     go_wp2_with (first | ((with_reducible refine gate_callee (f := 147) rfl ?_); refine goesL_ (some 15) rfl rfl Tryz.func147 (by kernel_rfl) rfl #[.slice A0 l0.length c0, .int .i64 (wrap64 (a1 + x8_1))] rfl aE ?_; (with_reducible refine (skew_key.calls _ _ l0 (wrap64 (a1 + x8_1)) t238 _ ?side1 ?side2 A5.out).mono ?_); (case side1 => exact uC HR0.out); (case side2 => exact HC0.out); rintro e w' ⟨rfl, ⟨nd, rfl⟩⟩; refine ⟨_, rfl, ?_⟩) | ((with_reducible refine gate_callee (f := 147) rfl ?_); refine goesL_ (some 20) rfl rfl Tryz.func147 (by kernel_rfl) rfl #[.slice A0 l0.length c0, .int .i64 (wrap64 (a2 + x8_1))] rfl aE ?_; (with_reducible refine (skew_key.calls _ _ l0 (wrap64 (a2 + x8_1)) t239 _ ?side1 ?side2 A6.out).mono ?_); (case side1 => exact uC HR0.out); (case side2 => exact HC0.out); rintro e w' ⟨rfl, ⟨nd, rfl⟩⟩; refine ⟨_, rfl, ?_⟩))
     go_ret
     exact ⟨sD, dD⟩
   ·obtain rfl := Option.some.inj H
    go_wp2
    go_ret
    exact ⟨sD, dD⟩
mutual
def skew_ranked.l0 (sf : List Int → Int → Option (List Int)) : Nat → List Int → Int → List Int → List Int → Int → Option (List Int × List Int)
  | 0, _, _, _, _, _ => none
  | k + 1, x0, x1, x4, x6, x7 => if x7 ≥ 0 then ((skew_keys.f k x0 x7).bind fun t243 => ((bucket_Pass.f k x4 t243 (wrap64 (x1 + 1))).bind fun bt246 => (skew_ranked.l0 sf k x0 x1 bt246.1 x6 (wrap64 (x7 - 1))))) else (if 0 ≤ (wrap64 ((x0.length : Int) + 3)) then (if (wrap64 ((x0.length : Int) + 3) : Int).toNat ≤ 35184372088832 then (skew_ranked.l1 sf k x0 x4 (List.replicate (wrap64 ((x0.length : Int) + 3) : Int).toNat 0) x6 0 x4 (x4.length : Int) 0) else (none)) else (none))
def skew_ranked.l1 (sf : List Int → Int → Option (List Int)) : Nat → List Int → List Int → List Int → List Int → Int → List Int → Int → Int → Option (List Int × List Int)
  | 0, _, _, _, _, _, _, _, _ => none
  | k + 1, x0, x4, x5, x6, x8, x43, x44, x45 => if x45 < x44 then (if 0 ≤ x45 then (if x45 < (x43.length : Int) then (if x45 = 0 then (if 0 ≤ (rd x43 x45) then (if (rd x43 x45) < (x5.length : Int) then (skew_ranked.l1 sf k x0 x4 (x5.set ((rd x43 x45) : Int).toNat (wrap64 (x8 + 1))) x6 (wrap64 (x8 + 1)) x43 x44 (wrap64 (x45 + 1))) else (none)) else (none)) else (if 0 ≤ (wrap64 (x45 - 1)) then (if (wrap64 (x45 - 1)) < (x4.length : Int) then ((skew_alike.f k x0 (rd x4 (wrap64 (x45 - 1))) (rd x43 x45)).bind fun t256 => (if t256 = true then (if 0 ≤ (rd x43 x45) then (if (rd x43 x45) < (x5.length : Int) then (skew_ranked.l1 sf k x0 x4 (x5.set ((rd x43 x45) : Int).toNat x8) x6 x8 x43 x44 (wrap64 (x45 + 1))) else (none)) else (none)) else (if 0 ≤ (rd x43 x45) then (if (rd x43 x45) < (x5.length : Int) then (skew_ranked.l1 sf k x0 x4 (x5.set ((rd x43 x45) : Int).toNat (wrap64 (x8 + 1))) x6 (wrap64 (x8 + 1)) x43 x44 (wrap64 (x45 + 1))) else (none)) else (none)))) else (none)) else (none))) else (none)) else (none)) else (if x8 = (x6.length : Int) then (some (x4, x5)) else ((skew_places.f k (x0.length : Int) 1).bind fun t259 => (skew_ranked.l2 sf k x0 x5 x6 x8 t259 ([] : List Int) t259 (t259.length : Int) 0)))
def skew_ranked.l2 (sf : List Int → Int → Option (List Int)) : Nat → List Int → List Int → List Int → Int → List Int → List Int → List Int → Int → Int → Option (List Int × List Int)
  | 0, _, _, _, _, _, _, _, _, _ => none
  | k + 1, x0, x5, x6, x8, x11, x12, x79, x80, x81 => if x81 < x80 then (if 0 ≤ x81 then (if x81 < (x79.length : Int) then (if 0 ≤ (rd x79 x81) then (if (rd x79 x81) < (x5.length : Int) then (if x12.length < 17592186044416 then (skew_ranked.l2 sf k x0 x5 x6 x8 x11 (x12 ++ [rd x5 (rd x79 x81)]) x79 x80 (wrap64 (x81 + 1))) else (none)) else (none)) else (none)) else (none)) else (none)) else (if x12.length < 17592186044416 then ((skew_places.f k (x0.length : Int) 2).bind fun t270 => (skew_ranked.l3 sf k x5 x6 x8 x11 (x12 ++ [0]) t270 (t270.length : Int) 0)) else (none))
def skew_ranked.l3 (sf : List Int → Int → Option (List Int)) : Nat → List Int → List Int → Int → List Int → List Int → List Int → Int → Int → Option (List Int × List Int)
  | 0, _, _, _, _, _, _, _, _ => none
  | k + 1, x5, x6, x8, x11, x12, x98, x99, x100 => if x100 < x99 then (if 0 ≤ x100 then (if x100 < (x98.length : Int) then (if 0 ≤ (rd x98 x100) then (if (rd x98 x100) < (x5.length : Int) then (if x12.length < 17592186044416 then (skew_ranked.l3 sf k x5 x6 x8 x11 (x12 ++ [rd x5 (rd x98 x100)]) x98 x99 (wrap64 (x100 + 1))) else (none)) else (none)) else (none)) else (none)) else (none)) else ((sf x12 (wrap64 (x8 + 1))).bind fun t278 => (skew_ranked.l4 sf k ([] : List Int) x5 x6 x11 t278 (t278.length : Int) 0))
def skew_ranked.l4 (sf : List Int → Int → Option (List Int)) : Nat → List Int → List Int → List Int → List Int → List Int → Int → Int → Option (List Int × List Int)
  | 0, _, _, _, _, _, _, _ => none
  | k + 1, x4, x5, x6, x11, x115, x116, x117 => if x117 < x116 then (if 0 ≤ x117 then (if x117 < (x115.length : Int) then (if (rd x115 x117) < (x11.length : Int) then (if 0 ≤ (rd x115 x117) then (if x4.length < 17592186044416 then (skew_ranked.l4 sf k (x4 ++ [rd x11 (rd x115 x117)]) x5 x6 x11 x115 x116 (wrap64 (x117 + 1))) else (none)) else (none)) else (if (rd x115 x117) > (x11.length : Int) then (if 0 ≤ (wrap64 ((rd x115 x117) - 1)) then (if (wrap64 ((rd x115 x117) - 1)) < (x6.length : Int) then (if x4.length < 17592186044416 then (skew_ranked.l4 sf k (x4 ++ [rd x6 (wrap64 ((rd x115 x117) - 1))]) x5 x6 x11 x115 x116 (wrap64 (x117 + 1))) else (none)) else (none)) else (none)) else (skew_ranked.l4 sf k x4 x5 x6 x11 x115 x116 (wrap64 (x117 + 1))))) else (none)) else (none)) else (skew_ranked.l5 sf k x4 x5 x4 (x4.length : Int) 0)
def skew_ranked.l5 (sf : List Int → Int → Option (List Int)) : Nat → List Int → List Int → List Int → Int → Int → Option (List Int × List Int)
  | 0, _, _, _, _, _ => none
  | k + 1, x4, x5, x147, x148, x149 => if x149 < x148 then (if 0 ≤ x149 then (if x149 < (x147.length : Int) then (if 0 ≤ (rd x147 x149) then (if (rd x147 x149) < (x5.length : Int) then (skew_ranked.l5 sf k x4 (x5.set ((rd x147 x149) : Int).toNat (wrap64 (x149 + 1))) x147 x148 (wrap64 (x149 + 1))) else (none)) else (none)) else (none)) else (none)) else (some (x4, x5))
end
def skew_ranked.f (sf : List Int → Int → Option (List Int)) (k : Nat) (l0 : List Int) (a1 : Int) : Option (List Int × List Int) := (skew_Sample.f k (l0.length : Int)).bind fun t240 => (skew_ranked.l0 sf k l0 a1 t240 t240 2)
theorem skew_ranked.calls (sf : List Int → Int → Option (List Int)) (hsf : ∀ (A0 : Option Addr) (c0 : Nat) (l0 : List Int) (a1 : Int) (r : List Int) (w : World) (hr0 : Kd.C (Kd.int .i64) w A0 l0.length l0) (hc0 : l0.length ≤ c0) (h : sf l0 a1 = some r),
    Calls Tryz.prog 107 #[.slice A0 l0.length c0, .int .i64 a1] w fun e w' => ∃ v0_ : Value, e = .returned (v0_) ∧ Kd.R (Kd.int .i64) 3 w' w.heap.size (fun _ => True) v0_ r ∧ Below w.heap.size w w') (k : Nat) (A0 : Option Addr) (c0 : Nat) (l0 : List Int) (a1 : Int) (r1 : List Int) (r2 : List Int) (w : World) (hr0 : Kd.C (Kd.int .i64) w A0 l0.length l0) (hc0 : l0.length ≤ c0) (h : skew_ranked.f sf k l0 a1 = some (r1, r2)) :
    Calls Tryz.prog 130 #[.slice A0 l0.length c0, .int .i64 a1] w fun e w' => ∃ v0_ v1_ : Value, e = .returned (.tuple #[v0_, v1_]) ∧ Kd.R (Kd.int .i64) 3 w' w.heap.size (fun k_ => some k_ ≠ (v1_ : Value).ownBlock) v0_ r1 ∧ Kd.R (Kd.int .i64) 3 w' w.heap.size (fun k_ => some k_ ≠ (v0_ : Value).ownBlock) v1_ r2 ∧ Below w.heap.size w w' := by
 have HR0 := Aside0.mk hr0
 have HC0 := Aside0.mk hc0
 clear hr0 hc0
 have HB := Aside0.mk (Below.refl w.heap.size w)
 have H := h
 clear h
 unfold skew_ranked.f at H
 obtain ⟨t240, A3, H⟩ := bdS H
 try dsimp only at H
 have H' := Aside0.mk H
 clear H
 go_enter Tryz.func130, Tryz.ntmps130
 go_wp2_with (first | ((with_reducible refine gate_callee (f := 145) rfl ?_); refine goesL_ (some 23) rfl rfl Tryz.func145 (by kernel_rfl) rfl #[.int .i64 (l0.length : Int)] rfl aE ?_; (with_reducible refine (skew_Sample.calls k (l0.length : Int) t240 _ A3.out).mono ?_); rintro e w4 ⟨v241, rfl, ho0, hb⟩; refine ⟨_, rfl, ?_⟩; have n0_ := Aside0.mk (Kd.R_lower ho0 (below_size uB)); have n1_ := Aside0.mk (below_step uB hb); clear HB; have HO242 := n0_; have HB := n1_; clear n0_ n1_))
 go_loopg [4, 7] k (fun kq v4 v7 w' => ∃ (x4_1 : List Int) (x7_1 : Int), v7 = .int .i64 x7_1 ∧ Aside0 (skew_ranked.l0 sf kq l0 a1 x4_1 t240 x7_1 = some (r1, r2)) ∧ Aside0 (kq ≤ k) ∧ Aside0 (Kd.R (Kd.int .i64) 3 w' w.heap.size (fun _ => True) v4 x4_1) ∧ Aside0 (Kd.R (Kd.int .i64) 3 w' w.heap.size (fun _ => True) v241 t240) ∧ Aside0 (Below w.heap.size w w'))
 case atStart => exact ⟨(t240), (2), sD, H', ⟨Nat.le_refl _⟩, ⟨uR HO242.out⟩, ⟨uR HO242.out⟩, ⟨uB⟩⟩
 case round =>
  clear H'
  obtain ⟨x4_1, x7_1, rfl, HA, HK1, HO_4, HO_6, HB⟩ := hrel
  cases gk with
  | zero => exact absurd HA.out (by simp [skew_ranked.l0])
  | succ k1 =>
   have H := HA.out
   clear HA
   simp only [skew_ranked.l0] at H
   rcases ifG H with ⟨c5b0, H⟩ | ⟨c5b0, H⟩
   ·obtain ⟨t243, A6, H⟩ := bdS H
    try dsimp only at H
    obtain ⟨⟨t246, t247⟩, A7, H⟩ := bdS H
    try dsimp only at H
    have H' := Aside0.mk H
    clear H
    go_wp2_with (first | ((with_reducible refine gate_callee (f := 131) rfl ?_); refine goesL_ (some 33) rfl rfl Tryz.func131 (by kernel_rfl) rfl #[.slice A0 l0.length c0, .int .i64 x7_1] rfl aE ?_; (with_reducible refine (skew_keys.calls k1 _ _ l0 x7_1 t243 _ ?side1 ?side2 A6.out).mono ?_); (case side1 => exact uC (Kd.C_below HR0.out HB.out)); (case side2 => exact HC0.out); rintro e w8 ⟨v244, rfl, ho0, hb⟩; refine ⟨_, rfl, ?_⟩; have n0_ := Aside0.mk (Kd.R_elder' (uR HO_4.out) (Kd.R_base ho0) hb); have n1_ := Aside0.mk (Kd.R_elder' (uR HO_6.out) (Kd.R_base ho0) hb); have n2_ := Aside0.mk (Kd.R_lower (Kd.R_new' (Kd.R_new' ho0 (Kd.R_lt (uR HO_4.out))) (Kd.R_lt (uR HO_6.out))) (below_size uB)); have n3_ := Aside0.mk (below_step uB hb); clear HO_4 HO_6 HB; have HO_4 := n0_; have HO_6 := n1_; have HO245 := n2_; have HB := n3_; clear n0_ n1_ n2_ n3_; obtain ⟨Ao9, co9, eo9⟩ := Kd.R_slice HO_4.out; subst eo9; obtain ⟨Ao10, co10, eo10⟩ := Kd.R_slice HO245.out; subst eo10) | ((with_reducible refine gate_callee (f := 71) rfl ?_); refine goesL_ (some 36) rfl rfl Tryz.func71 (by kernel_rfl) rfl #[.slice Ao9 x4_1.length co9, .slice Ao10 t243.length co10, .int .i64 (wrap64 (a1 + 1))] rfl aE ?_; (with_reducible refine (bucket_Pass.calls k1 _ _ x4_1 _ _ t243 (wrap64 (a1 + 1)) t246 t247 _ ?side1 ?side2 ?side3 ?side4 A7.out).mono ?_); (case side1 => exact uC (Kd.R_reads' HO_4.out).2.2); (case side2 => exact (Kd.R_reads' HO_4.out).2.1); (case side3 => exact uC (Kd.R_reads' HO245.out).2.2); (case side4 => exact (Kd.R_reads' HO245.out).2.1); rintro e w11 ⟨v248, rfl, ho0, hb⟩; refine ⟨_, rfl, ?_⟩; have n0_ := Aside0.mk (Kd.R_elder' (uR HO_4.out) (Kd.R_base ho0) hb); have n1_ := Aside0.mk (Kd.R_elder' (uR HO_6.out) (Kd.R_base ho0) hb); have n2_ := Aside0.mk (Kd.R_elder' (uR HO245.out) (Kd.R_base ho0) hb); have n3_ := Aside0.mk (Kd.R_lower (Kd.R_new' (Kd.R_new' (Kd.R_new' ho0 (Kd.R_lt (uR HO_4.out))) (Kd.R_lt (uR HO_6.out))) (Kd.R_lt (uR HO245.out))) (below_size uB)); have n4_ := Aside0.mk (below_step uB hb); clear HO_4 HO_6 HO245 HB; have HO_4 := n0_; have HO_6 := n1_; have HO245 := n2_; have HO249 := n3_; have HB := n4_; clear n0_ n1_ n2_ n3_ n4_))
    go_roundg k1
    case measure => have := HK1.out; omega
    case rel => exact ⟨(t246), (wrap64 (x7_1 - 1)), sD, H', ⟨by have := HK1.out; omega⟩, ⟨by (with_reducible repeat (first | apply Kd.R_alloc | apply Kd.R_drewN | apply Kd.R_drew)); exact Kd.R_mono HO249.out (fun _ hk => trivial)⟩, ⟨by (with_reducible repeat (first | apply Kd.R_alloc | apply Kd.R_drewN | apply Kd.R_drew)); exact Kd.R_mono HO_6.out (fun _ hk => trivial)⟩, ⟨uB⟩⟩
   ·obtain ⟨ji12, hji12⟩ : ∃ j_ : Int, (wrap64 ((l0.length : Int) + 3)) = j_ := ⟨_, rfl⟩
    first | rw [hji12] at H | simp only [hji12] at H
    have hji12w : (IntKind.i64.wrap ((l0.length : Int) + 3)) = ji12 := (i64_w _).trans hji12
    obtain ⟨c13b0, c13b1, H⟩ := ifE H
    obtain ⟨c14b0, c14b1, H⟩ := ifE H
    generalize hy250 : (List.replicate (ji12 : Int).toNat 0 : List Int) = y250 at H
    try simp only [Option.bind_some] at H
    have Ny250 := Aside0.mk hy250.symm
    clear hy250
    have H' := Aside0.mk H
    clear H
    go_wp2_with (first | ((with_reducible refine gate_dst (N := 42) rfl ?_); refine Kd.R_make (Kd.int .i64) _ 3 rfl (N := 42) rfl 29 _ _ rfl ji12 rfl rfl Tryz.underlying29 (.int .i64 0) 8 info3 rfl (by decide) (by omega) 0 (ok := fun _ => True) (okp := fun _ => True) rfl (fun _ hk => hk) trivial dT (Nat.le_trans (Nat.mul_le_mul_right _ (dT : ji12.toNat ≤ 35184372088832)) (by omega)) (Below.refl _ _) (Nat.le_refl _) ?_; intro v251 w15 ho16 hb hg_ hnew_; clear hg_ hnew_; (first | rw [← Ny250.out] at ho16 | (simp only [Int.reduceToNat] at ho16; rw [← Ny250.out] at ho16)); have n0_ := Aside0.mk (Kd.R_elder' (uR HO_4.out) (Kd.R_base ho16) hb); have n1_ := Aside0.mk (Kd.R_elder' (uR HO_6.out) (Kd.R_base ho16) hb); have n2_ := Aside0.mk (Kd.R_lower (Kd.R_new' (Kd.R_new' ho16 (Kd.R_lt (uR HO_4.out))) (Kd.R_lt (uR HO_6.out))) (below_size uB)); have n3_ := Aside0.mk (below_step uB hb); clear HO_4 HO_6 HB; have HO_4 := n0_; have HO_6 := n1_; have HO252 := n2_; have HB := n3_; clear n0_ n1_ n2_ n3_; clear hb ho16; obtain ⟨Ao17, co17, eo17⟩ := Kd.R_slice HO_4.out; subst eo17))
    go_loopg [8, 45] k1 (fun kq v8 v45 w' => ∃ (x5_2 : List Int) (x8_2 : Int) (x45_2 : Int), v8 = .int .i64 x8_2 ∧ v45 = .int .i64 x45_2 ∧ Aside0 (skew_ranked.l1 sf kq l0 x4_1 x5_2 t240 x8_2 x4_1 (x4_1.length : Int) x45_2 = some (r1, r2)) ∧ Aside0 (kq ≤ k1) ∧ Aside0 (Kd.R (Kd.int .i64) 3 w' w.heap.size (fun k_ => some k_ ≠ (v251 : Value).ownBlock) (.slice Ao17 x4_1.length co17) x4_1) ∧ Aside0 (Kd.R (Kd.int .i64) 3 w' w.heap.size (fun k_ => some k_ ≠ ((.slice Ao17 x4_1.length co17) : Value).ownBlock ∧ some k_ ≠ (v241 : Value).ownBlock ∧ some k_ ≠ ((.slice Ao17 x4_1.length co17) : Value).ownBlock) v251 x5_2) ∧ Aside0 (Kd.R (Kd.int .i64) 3 w' w.heap.size (fun k_ => some k_ ≠ (v251 : Value).ownBlock) v241 t240) ∧ Aside0 (Kd.R (Kd.int .i64) 3 w' w.heap.size (fun k_ => some k_ ≠ (v251 : Value).ownBlock) (.slice Ao17 x4_1.length co17) x4_1) ∧ Aside0 (Below w.heap.size w w'))
    case atStart => exact ⟨(y250), (0), (0), sD, sD, H', ⟨Nat.le_refl _⟩, ⟨by (with_reducible repeat (first | apply Kd.R_alloc | apply Kd.R_drewN | apply Kd.R_drew)); exact Kd.R_mono HO_4.out (fun _ hk => hk.2)⟩, ⟨by (with_reducible repeat (first | apply Kd.R_alloc | apply Kd.R_drewN | apply Kd.R_drew)); exact Kd.R_mono HO252.out (fun _ hk => ⟨hk.1.2, ⟨hk.2, hk.1.2⟩⟩)⟩, ⟨by (with_reducible repeat (first | apply Kd.R_alloc | apply Kd.R_drewN | apply Kd.R_drew)); exact Kd.R_mono HO_6.out (fun _ hk => hk.2)⟩, ⟨by (with_reducible repeat (first | apply Kd.R_alloc | apply Kd.R_drewN | apply Kd.R_drew)); exact Kd.R_mono HO_4.out (fun _ hk => hk.2)⟩, ⟨uB⟩⟩
    case round =>
     clear H'
     obtain ⟨x5_2, x8_2, x45_2, rfl, rfl, HA, HK2, HO_4, HO_5, HO_6, HO_43, HB⟩ := hrel
     cases gk with
     | zero => exact absurd HA.out (by simp [skew_ranked.l1])
     | succ k2 =>
      have H := HA.out
      clear HA
      simp only [skew_ranked.l1] at H
      rcases ifC H with ⟨c18b0, H⟩ | ⟨c18b0, H⟩
      ·obtain ⟨c19b0, c20b0, H⟩ := ifD2 H
       by_cases c21 : x45_2 = 0
       ·rw [if_pos c21] at H
        have c21b0 : (x45_2 == 0) = true := beq_iff_eq.mpr c21
        have c21b1 : (x45_2 != 0) = false := bne_eq_false_iff_eq.mpr c21
        clear c21
        obtain ⟨c22b0, c23b0, H⟩ := ifD2 H
        generalize hy254 : (x5_2.set ((rd x4_1 x45_2) : Int).toNat (wrap64 (x8_2 + 1)) : List Int) = y254 at H
        try simp only [Option.bind_some] at H
        have Ny254 := Aside0.mk hy254.symm
        clear hy254
        have H' := Aside0.mk H
        clear H
        obtain ⟨ad253, e253, hx253_0, p253, q253⟩ := rI (Kd.R_reads' HO_43.out).2.2 x45_2
        cases e253
        have p24 : 0 ≤ ((rd x4_1 x45_2) : Int) := dT
        have q24 : ((rd x4_1 x45_2) : Int) < ((x5_2.length : Int) : Int) := dT
        obtain ⟨go24, co24, eo24, gb24, gl24, cl24, HG24⟩ := Kd.R_form HO_5.out (by omega)
        (first | cases eo24 | (injection eo24 with ea_ en_ ec_; (first | subst ea_ | (injection ea_ with ea_; subst ea_)); subst ec_; clear en_))
        have GB24 := Aside0.mk gb24
        have GG24 := Aside0.mk HG24
        clear gb24 gl24 HG24
        obtain ⟨hx24_0, hf24_0⟩ := Kd.R_celln 0 HO_5.out ((rd x4_1 x45_2) : Int) p24 q24
        replace p24 := eq_true p24
        replace q24 := eq_true q24
        have HP25 := Kd.R_putg HO_5.out ((rd x4_1 x45_2) : Int) (wrap64 (x8_2 + 1))
        go_wp2_with (first | ((with_reducible refine gate_store (t := 3) (p := 68) rfl ?_); refine store_event (t := 3) (p := 68) (v := ?vo_w26) (w1 := (wr.setCell ⟨go24, ((rd x4_1 x45_2) : Int).toNat, none⟩ (.int .i64 (wrap64 (x8_2 + 1))))) ?hg ?ho ?hn ?hr ?_; (case ho => rfl); (case hg => rfl); (case hn => rfl); (case hr => first | (go_simp; done) | (go_simp; rfl)); intro w26 hw; have hg : wr.grownBy w26 (some go24) := (by rw [hw]; exact HP25.2); have hp_ : Kd.R (Kd.int .i64) 3 w26 w.heap.size (fun k_ => some k_ ≠ (.slice (some ad253) x4_1.length co17 : Value).ownBlock ∧ some k_ ≠ (v241 : Value).ownBlock ∧ some k_ ≠ (.slice (some ad253) x4_1.length co17 : Value).ownBlock) (.slice (some ⟨go24, 0, none⟩) x5_2.length co24) y254 := (by rw [hw, Ny254.out]; first | exact HP25.1 | exact Kd.R_mono (d := Kd.int .i64) HP25.1 (fun _ hk => ⟨hk.1, ⟨hk.2.2, hk.2.1⟩⟩)); clear HP25; have n0_ := Aside0.mk (Kd.R_after (v := (.slice (some ⟨go24, 0, none⟩) x5_2.length co24)) (v1 := (.slice (some ⟨go24, 0, none⟩) x5_2.length co24)) (ok := (fun _ => True)) (by (with_reducible repeat (first | apply Kd.R_alloc | apply Kd.R_drewN | apply Kd.R_drew)); exact Kd.R_mono HO_4.out (fun _ hk => ⟨trivial, hk⟩)) hg (.inl rfl)); have n1_ := Aside0.mk (hp_); have n2_ := Aside0.mk (Kd.R_after (v := (.slice (some ⟨go24, 0, none⟩) x5_2.length co24)) (v1 := (.slice (some ⟨go24, 0, none⟩) x5_2.length co24)) (ok := (fun _ => True)) (by (with_reducible repeat (first | apply Kd.R_alloc | apply Kd.R_drewN | apply Kd.R_drew)); exact Kd.R_mono HO_6.out (fun _ hk => ⟨trivial, hk⟩)) hg (.inl rfl)); have n3_ := Aside0.mk (Kd.R_after (v := (.slice (some ⟨go24, 0, none⟩) x5_2.length co24)) (v1 := (.slice (some ⟨go24, 0, none⟩) x5_2.length co24)) (ok := (fun _ => True)) (by (with_reducible repeat (first | apply Kd.R_alloc | apply Kd.R_drewN | apply Kd.R_drew)); exact Kd.R_mono HO_43.out (fun _ hk => ⟨trivial, hk⟩)) hg (.inl rfl)); have n4_ := Aside0.mk ((by rw [hw]; exact below_set (HB.out) GB24.out : Below w.heap.size w w26)); clear HO_4 HO_5 HO_6 HO_43 HB; have HO_4 := n0_; have HO_5 := n1_; have HO_6 := n2_; have HO_43 := n3_; have HB := n4_; clear n0_ n1_ n2_ n3_ n4_; clear hg hw hp_))
        go_roundg k2
        case measure => have := HK1.out; have := HK2.out; omega
        case rel => exact ⟨(y254), (wrap64 (x8_2 + 1)), (wrap64 (x45_2 + 1)), sD, sD, H', ⟨by have := HK1.out; have := HK2.out; omega⟩, ⟨by (with_reducible repeat (first | apply Kd.R_alloc | apply Kd.R_drewN | apply Kd.R_drew)); exact Kd.R_mono HO_4.out (fun _ hk => hk.2)⟩, ⟨uR HO_5.out⟩, ⟨by (with_reducible repeat (first | apply Kd.R_alloc | apply Kd.R_drewN | apply Kd.R_drew)); exact Kd.R_mono HO_6.out (fun _ hk => hk.2)⟩, ⟨by (with_reducible repeat (first | apply Kd.R_alloc | apply Kd.R_drewN | apply Kd.R_drew)); exact Kd.R_mono HO_43.out (fun _ hk => hk.2)⟩, ⟨uB⟩⟩
       ·rw [if_neg c21] at H
        have c21b0 : (x45_2 == 0) = false := beq_eq_false_iff_ne.mpr c21
        have c21b1 : (x45_2 != 0) = true := bne_iff_ne.mpr c21
        obtain ⟨ji27, hji27⟩ : ∃ j_ : Int, (wrap64 (x45_2 - 1)) = j_ := ⟨_, rfl⟩
        first | rw [hji27] at H | simp only [hji27] at H
        have hji27w : (IntKind.i64.wrap (x45_2 - 1)) = ji27 := (i64_w _).trans hji27
        obtain ⟨c28b0, c29b0, H⟩ := ifD2 H
        obtain ⟨t256, A30, H⟩ := bdS H
        try dsimp only at H
        by_cases c31 : t256 = true
        ·subst c31
         rw [if_pos rfl] at H
         obtain ⟨c32b0, c33b0, H⟩ := ifD2 H
         generalize hy257 : (x5_2.set ((rd x4_1 x45_2) : Int).toNat x8_2 : List Int) = y257 at H
         try simp only [Option.bind_some] at H
         have Ny257 := Aside0.mk hy257.symm
         clear hy257
         have H' := Aside0.mk H
         clear H
         obtain ⟨ad253, e253, hx253_0, p253, q253⟩ := rI (Kd.R_reads' HO_43.out).2.2 x45_2
         cases e253
         obtain ⟨ad255, e255, hx255_0, p255, q255⟩ := rI (Kd.R_reads' HO_4.out).2.2 (ji27)
         obtain rfl : ad253 = ad255 := (by injection e255)
         go_wp2_with (first | (go_at_call 146; (with_reducible refine (skew_alike.calls k2 _ _ l0 (rd x4_1 (ji27)) (rd x4_1 x45_2) true _ ?side1 ?side2 A30.out).mono ?_); (case side1 => exact uC (Kd.C_below HR0.out HB.out)); (case side2 => exact HC0.out); rintro e w' ⟨rfl, ⟨nd, rfl⟩⟩; (try (rw [drewN_self wr]; generalize hq_ : World.drewN wr _ = wr; have n0_ : Aside0 (Kd.R (Kd.int .i64) 3 wr w.heap.size (fun k_ => some k_ ≠ (v251 : Value).ownBlock) (.slice (some ad253) x4_1.length co17) x4_1) := ⟨by rw [← hq_]; exact (uR HO_4.out)⟩; have n1_ : Aside0 (Kd.R (Kd.int .i64) 3 wr w.heap.size (fun k_ => some k_ ≠ (v251 : Value).ownBlock) (.slice (some ad253) x4_1.length co17) x4_1) := ⟨by rw [← hq_]; exact (uR HO_43.out)⟩; have n2_ : Aside0 (Kd.R (Kd.int .i64) 3 wr w.heap.size (fun k_ => some k_ ≠ (.slice (some ad253) x4_1.length co17 : Value).ownBlock ∧ some k_ ≠ (.slice (some ad253) x4_1.length co17 : Value).ownBlock ∧ some k_ ≠ (v241 : Value).ownBlock) v251 x5_2) := ⟨by rw [← hq_]; exact (by (with_reducible repeat (first | apply Kd.R_alloc | apply Kd.R_drewN | apply Kd.R_drew)); exact Kd.R_mono HO_5.out (fun _ hk => ⟨hk.1, ⟨hk.2.2, hk.2.1⟩⟩))⟩; have n3_ : Aside0 (Kd.R (Kd.int .i64) 3 wr w.heap.size (fun k_ => some k_ ≠ (v251 : Value).ownBlock) v241 t240) := ⟨by rw [← hq_]; exact (uR HO_6.out)⟩; have n4_ : Aside0 (Below w.heap.size w wr) := ⟨by rw [← hq_]; exact uB⟩; clear HO_4 HO_43 HO_5 HO_6 HB hq_; have HO_4 := n0_; have HO_43 := n1_; have HO_5 := n2_; have HO_6 := n3_; have HB := n4_; clear n0_ n1_ n2_ n3_ n4_)); have p34 : 0 ≤ ((rd x4_1 x45_2) : Int) := dT; have q34 : ((rd x4_1 x45_2) : Int) < ((x5_2.length : Int) : Int) := dT; obtain ⟨go34, co34, eo34, gb34, gl34, cl34, HG34⟩ := Kd.R_form HO_5.out (by omega); (first | cases eo34 | (injection eo34 with ea_ en_ ec_; (first | subst ea_ | (injection ea_ with ea_; subst ea_)); subst ec_; clear en_)); have GB34 := Aside0.mk gb34; have GG34 := Aside0.mk HG34; clear gb34 gl34 HG34; obtain ⟨hx34_0, hf34_0⟩ := Kd.R_celln 0 HO_5.out ((rd x4_1 x45_2) : Int) p34 q34; replace p34 := eq_true p34; replace q34 := eq_true q34; obtain ⟨hy35_, hz35_⟩ := Kd.R_celln 0 HO_5.out ((rd x4_1 x45_2) : Int) dT dT; have HP35 := Kd.R_putg HO_5.out ((rd x4_1 x45_2) : Int) x8_2) | ((with_reducible refine gate_store (t := 3) (p := 68) rfl ?_); refine store_event (t := 3) (p := 68) (v := ?vo_w36) (w1 := (wr.setCell ⟨go34, ((rd x4_1 x45_2) : Int).toNat, none⟩ (.int .i64 x8_2))) ?hg ?ho ?hn ?hr ?_; (case ho => rfl); (case hg => rfl); (case hn => rfl); (case hr => first | (go_simp; done) | (go_simp; rfl)); intro w36 hw; have hg : wr.grownBy w36 (some go34) := (by rw [hw]; exact HP35.2); have hp_ : Kd.R (Kd.int .i64) 3 w36 w.heap.size (fun k_ => some k_ ≠ (.slice (some ad253) x4_1.length co17 : Value).ownBlock ∧ some k_ ≠ (v241 : Value).ownBlock ∧ some k_ ≠ (.slice (some ad253) x4_1.length co17 : Value).ownBlock) (.slice (some ⟨go34, 0, none⟩) x5_2.length co34) y257 := (by rw [hw, Ny257.out]; first | exact HP35.1 | exact Kd.R_mono (d := Kd.int .i64) HP35.1 (fun _ hk => ⟨hk.1, ⟨hk.2.2, hk.2.1⟩⟩)); clear HP35; have n0_ := Aside0.mk (Kd.R_after (v := (.slice (some ⟨go34, 0, none⟩) x5_2.length co34)) (v1 := (.slice (some ⟨go34, 0, none⟩) x5_2.length co34)) (ok := (fun _ => True)) (by (with_reducible repeat (first | apply Kd.R_alloc | apply Kd.R_drewN | apply Kd.R_drew)); exact Kd.R_mono HO_4.out (fun _ hk => ⟨trivial, hk⟩)) hg (.inl rfl)); have n1_ := Aside0.mk (hp_); have n2_ := Aside0.mk (Kd.R_after (v := (.slice (some ⟨go34, 0, none⟩) x5_2.length co34)) (v1 := (.slice (some ⟨go34, 0, none⟩) x5_2.length co34)) (ok := (fun _ => True)) (by (with_reducible repeat (first | apply Kd.R_alloc | apply Kd.R_drewN | apply Kd.R_drew)); exact Kd.R_mono HO_6.out (fun _ hk => ⟨trivial, hk⟩)) hg (.inl rfl)); have n3_ := Aside0.mk (Kd.R_after (v := (.slice (some ⟨go34, 0, none⟩) x5_2.length co34)) (v1 := (.slice (some ⟨go34, 0, none⟩) x5_2.length co34)) (ok := (fun _ => True)) (by (with_reducible repeat (first | apply Kd.R_alloc | apply Kd.R_drewN | apply Kd.R_drew)); exact Kd.R_mono HO_43.out (fun _ hk => ⟨trivial, hk⟩)) hg (.inl rfl)); have n4_ := Aside0.mk ((by rw [hw]; exact below_set (HB.out) GB34.out : Below w.heap.size w w36)); clear HO_4 HO_5 HO_6 HO_43 HB; have HO_4 := n0_; have HO_5 := n1_; have HO_6 := n2_; have HO_43 := n3_; have HB := n4_; clear n0_ n1_ n2_ n3_ n4_; clear hg hw hp_))
         go_roundg k2
         case measure => have := HK1.out; have := HK2.out; omega
         case rel => exact ⟨(y257), (x8_2), (wrap64 (x45_2 + 1)), sD, sD, H', ⟨by have := HK1.out; have := HK2.out; omega⟩, ⟨by (with_reducible repeat (first | apply Kd.R_alloc | apply Kd.R_drewN | apply Kd.R_drew)); exact Kd.R_mono HO_4.out (fun _ hk => hk.2)⟩, ⟨uR HO_5.out⟩, ⟨by (with_reducible repeat (first | apply Kd.R_alloc | apply Kd.R_drewN | apply Kd.R_drew)); exact Kd.R_mono HO_6.out (fun _ hk => hk.2)⟩, ⟨by (with_reducible repeat (first | apply Kd.R_alloc | apply Kd.R_drewN | apply Kd.R_drew)); exact Kd.R_mono HO_43.out (fun _ hk => hk.2)⟩, ⟨uB⟩⟩
        ·replace c31 := Bool.eq_false_iff.mpr c31
         subst c31
         rw [if_neg (by decide)] at H
         obtain ⟨c37b0, c38b0, H⟩ := ifD2 H
         generalize hy258 : (x5_2.set ((rd x4_1 x45_2) : Int).toNat (wrap64 (x8_2 + 1)) : List Int) = y258 at H
         try simp only [Option.bind_some] at H
         have Ny258 := Aside0.mk hy258.symm
         clear hy258
         have H' := Aside0.mk H
         clear H
         obtain ⟨ad253, e253, hx253_0, p253, q253⟩ := rI (Kd.R_reads' HO_43.out).2.2 x45_2
         cases e253
         obtain ⟨ad255, e255, hx255_0, p255, q255⟩ := rI (Kd.R_reads' HO_4.out).2.2 (ji27)
         obtain rfl : ad253 = ad255 := (by injection e255)
         go_wp2_with (first | (go_at_call 146; (with_reducible refine (skew_alike.calls k2 _ _ l0 (rd x4_1 (ji27)) (rd x4_1 x45_2) false _ ?side1 ?side2 A30.out).mono ?_); (case side1 => exact uC (Kd.C_below HR0.out HB.out)); (case side2 => exact HC0.out); rintro e w' ⟨rfl, ⟨nd, rfl⟩⟩; (try (rw [drewN_self wr]; generalize hq_ : World.drewN wr _ = wr; have n0_ : Aside0 (Kd.R (Kd.int .i64) 3 wr w.heap.size (fun k_ => some k_ ≠ (v251 : Value).ownBlock) (.slice (some ad253) x4_1.length co17) x4_1) := ⟨by rw [← hq_]; exact (uR HO_4.out)⟩; have n1_ : Aside0 (Kd.R (Kd.int .i64) 3 wr w.heap.size (fun k_ => some k_ ≠ (v251 : Value).ownBlock) (.slice (some ad253) x4_1.length co17) x4_1) := ⟨by rw [← hq_]; exact (uR HO_43.out)⟩; have n2_ : Aside0 (Kd.R (Kd.int .i64) 3 wr w.heap.size (fun k_ => some k_ ≠ (.slice (some ad253) x4_1.length co17 : Value).ownBlock ∧ some k_ ≠ (.slice (some ad253) x4_1.length co17 : Value).ownBlock ∧ some k_ ≠ (v241 : Value).ownBlock) v251 x5_2) := ⟨by rw [← hq_]; exact (by (with_reducible repeat (first | apply Kd.R_alloc | apply Kd.R_drewN | apply Kd.R_drew)); exact Kd.R_mono HO_5.out (fun _ hk => ⟨hk.1, ⟨hk.2.2, hk.2.1⟩⟩))⟩; have n3_ : Aside0 (Kd.R (Kd.int .i64) 3 wr w.heap.size (fun k_ => some k_ ≠ (v251 : Value).ownBlock) v241 t240) := ⟨by rw [← hq_]; exact (uR HO_6.out)⟩; have n4_ : Aside0 (Below w.heap.size w wr) := ⟨by rw [← hq_]; exact uB⟩; clear HO_4 HO_43 HO_5 HO_6 HB hq_; have HO_4 := n0_; have HO_43 := n1_; have HO_5 := n2_; have HO_6 := n3_; have HB := n4_; clear n0_ n1_ n2_ n3_ n4_)); have p39 : 0 ≤ ((rd x4_1 x45_2) : Int) := dT; have q39 : ((rd x4_1 x45_2) : Int) < ((x5_2.length : Int) : Int) := dT; obtain ⟨go39, co39, eo39, gb39, gl39, cl39, HG39⟩ := Kd.R_form HO_5.out (by omega); (first | cases eo39 | (injection eo39 with ea_ en_ ec_; (first | subst ea_ | (injection ea_ with ea_; subst ea_)); subst ec_; clear en_)); have GB39 := Aside0.mk gb39; have GG39 := Aside0.mk HG39; clear gb39 gl39 HG39; obtain ⟨hx39_0, hf39_0⟩ := Kd.R_celln 0 HO_5.out ((rd x4_1 x45_2) : Int) p39 q39; replace p39 := eq_true p39; replace q39 := eq_true q39; obtain ⟨hy40_, hz40_⟩ := Kd.R_celln 0 HO_5.out ((rd x4_1 x45_2) : Int) dT dT; have HP40 := Kd.R_putg HO_5.out ((rd x4_1 x45_2) : Int) (wrap64 (x8_2 + 1))) | ((with_reducible refine gate_store (t := 3) (p := 68) rfl ?_); refine store_event (t := 3) (p := 68) (v := ?vo_w41) (w1 := (wr.setCell ⟨go39, ((rd x4_1 x45_2) : Int).toNat, none⟩ (.int .i64 (wrap64 (x8_2 + 1))))) ?hg ?ho ?hn ?hr ?_; (case ho => rfl); (case hg => rfl); (case hn => rfl); (case hr => first | (go_simp; done) | (go_simp; rfl)); intro w41 hw; have hg : wr.grownBy w41 (some go39) := (by rw [hw]; exact HP40.2); have hp_ : Kd.R (Kd.int .i64) 3 w41 w.heap.size (fun k_ => some k_ ≠ (.slice (some ad253) x4_1.length co17 : Value).ownBlock ∧ some k_ ≠ (v241 : Value).ownBlock ∧ some k_ ≠ (.slice (some ad253) x4_1.length co17 : Value).ownBlock) (.slice (some ⟨go39, 0, none⟩) x5_2.length co39) y258 := (by rw [hw, Ny258.out]; first | exact HP40.1 | exact Kd.R_mono (d := Kd.int .i64) HP40.1 (fun _ hk => ⟨hk.1, ⟨hk.2.2, hk.2.1⟩⟩)); clear HP40; have n0_ := Aside0.mk (Kd.R_after (v := (.slice (some ⟨go39, 0, none⟩) x5_2.length co39)) (v1 := (.slice (some ⟨go39, 0, none⟩) x5_2.length co39)) (ok := (fun _ => True)) (by (with_reducible repeat (first | apply Kd.R_alloc | apply Kd.R_drewN | apply Kd.R_drew)); exact Kd.R_mono HO_4.out (fun _ hk => ⟨trivial, hk⟩)) hg (.inl rfl)); have n1_ := Aside0.mk (hp_); have n2_ := Aside0.mk (Kd.R_after (v := (.slice (some ⟨go39, 0, none⟩) x5_2.length co39)) (v1 := (.slice (some ⟨go39, 0, none⟩) x5_2.length co39)) (ok := (fun _ => True)) (by (with_reducible repeat (first | apply Kd.R_alloc | apply Kd.R_drewN | apply Kd.R_drew)); exact Kd.R_mono HO_6.out (fun _ hk => ⟨trivial, hk⟩)) hg (.inl rfl)); have n3_ := Aside0.mk (Kd.R_after (v := (.slice (some ⟨go39, 0, none⟩) x5_2.length co39)) (v1 := (.slice (some ⟨go39, 0, none⟩) x5_2.length co39)) (ok := (fun _ => True)) (by (with_reducible repeat (first | apply Kd.R_alloc | apply Kd.R_drewN | apply Kd.R_drew)); exact Kd.R_mono HO_43.out (fun _ hk => ⟨trivial, hk⟩)) hg (.inl rfl)); have n4_ := Aside0.mk ((by rw [hw]; exact below_set (HB.out) GB39.out : Below w.heap.size w w41)); clear HO_4 HO_5 HO_6 HO_43 HB; have HO_4 := n0_; have HO_5 := n1_; have HO_6 := n2_; have HO_43 := n3_; have HB := n4_; clear n0_ n1_ n2_ n3_ n4_; clear hg hw hp_))
         go_roundg k2
         case measure => have := HK1.out; have := HK2.out; omega
         case rel => exact ⟨(y258), (wrap64 (x8_2 + 1)), (wrap64 (x45_2 + 1)), sD, sD, H', ⟨by have := HK1.out; have := HK2.out; omega⟩, ⟨by (with_reducible repeat (first | apply Kd.R_alloc | apply Kd.R_drewN | apply Kd.R_drew)); exact Kd.R_mono HO_4.out (fun _ hk => hk.2)⟩, ⟨uR HO_5.out⟩, ⟨by (with_reducible repeat (first | apply Kd.R_alloc | apply Kd.R_drewN | apply Kd.R_drew)); exact Kd.R_mono HO_6.out (fun _ hk => hk.2)⟩, ⟨by (with_reducible repeat (first | apply Kd.R_alloc | apply Kd.R_drewN | apply Kd.R_drew)); exact Kd.R_mono HO_43.out (fun _ hk => hk.2)⟩, ⟨uB⟩⟩
      ·by_cases c42 : x8_2 = (t240.length : Int)
       ·rw [if_pos c42] at H
        have c42b0 : (x8_2 == (t240.length : Int)) = true := beq_iff_eq.mpr c42
        have c42b1 : (x8_2 != (t240.length : Int)) = false := bne_eq_false_iff_eq.mpr c42
        clear c42
        simp only [Option.some.injEq, Prod.mk.injEq] at H
        obtain ⟨rfl, rfl⟩ := H
        obtain ⟨Ao43, co43, eo43⟩ := Kd.R_slice HO_6.out
        subst eo43
        go_wp2
        go_ret2
        exact ⟨_, _, by first | rfl | (simp [errW_none, errW_some] <;> rfl) | (simp only [← hji12]; first | rfl | (simp [errW_none, errW_some] <;> rfl)) | (simp [*, errW_none, errW_some] <;> rfl), uR HO_4.out, by (with_reducible repeat (first | apply Kd.R_alloc | apply Kd.R_drewN | apply Kd.R_drew)); exact Kd.R_mono HO_5.out (fun _ hk => hk.1), uB⟩
       ·rw [if_neg c42] at H
        have c42b0 : (x8_2 == (t240.length : Int)) = false := beq_eq_false_iff_ne.mpr c42
        have c42b1 : (x8_2 != (t240.length : Int)) = true := bne_iff_ne.mpr c42
        obtain ⟨t259, A44, H⟩ := bdS H
        try dsimp only at H
        have H' := Aside0.mk H
        clear H
        obtain ⟨Ao45, co45, eo45⟩ := Kd.R_slice HO_6.out
        subst eo45
        go_wp2_with (first | ((with_reducible refine gate_callee (f := 129) rfl ?_); refine goesL_ (some 78) rfl rfl Tryz.func129 (by kernel_rfl) rfl #[.int .i64 (l0.length : Int), .int .i64 1] rfl aE ?_; (with_reducible refine (skew_places.calls k2 (l0.length : Int) 1 t259 _ A44.out).mono ?_); rintro e w46 ⟨v260, rfl, ho0, hb⟩; refine ⟨_, rfl, ?_⟩; have n0_ := Aside0.mk (Kd.R_elder' (uR HO_4.out) (Kd.R_base ho0) hb); have n1_ := Aside0.mk (Kd.R_elder' (uR HO_5.out) (Kd.R_base ho0) hb); have n2_ := Aside0.mk (Kd.R_elder' (uR HO_6.out) (Kd.R_base ho0) hb); have n3_ := Aside0.mk (Kd.R_elder' (uR HO_43.out) (Kd.R_base ho0) hb); have n4_ := Aside0.mk (Kd.R_lower (Kd.R_new' (Kd.R_new' (Kd.R_new' (Kd.R_new' ho0 (Kd.R_lt (uR HO_4.out))) (Kd.R_lt (uR HO_5.out))) (Kd.R_lt (uR HO_6.out))) (Kd.R_lt (uR HO_43.out))) (below_size uB)); have n5_ := Aside0.mk (below_step uB hb); clear HO_4 HO_5 HO_6 HO_43 HB; have HO_4 := n0_; have HO_5 := n1_; have HO_6 := n2_; have HO_43 := n3_; have HO261 := n4_; have HB := n5_; clear n0_ n1_ n2_ n3_ n4_ n5_; obtain ⟨Ao47, co47, eo47⟩ := Kd.R_slice HO261.out; subst eo47))
        go_loopg [12, 81] k2 (fun kq v12 v81 w' => ∃ (x12_3 : List Int) (x81_3 : Int), v81 = .int .i64 x81_3 ∧ Aside0 (skew_ranked.l2 sf kq l0 x5_2 t240 x8_2 t259 x12_3 t259 (t259.length : Int) x81_3 = some (r1, r2)) ∧ Aside0 (kq ≤ k2) ∧ Aside0 (Kd.R (Kd.int .i64) 3 w' w.heap.size (fun k_ => some k_ ≠ ((.slice Ao45 t240.length co45) : Value).ownBlock ∧ some k_ ≠ ((.slice Ao47 t259.length co47) : Value).ownBlock ∧ some k_ ≠ (v12 : Value).ownBlock ∧ some k_ ≠ ((.slice Ao47 t259.length co47) : Value).ownBlock) v251 x5_2) ∧ Aside0 (Kd.R (Kd.int .i64) 3 w' w.heap.size (fun k_ => some k_ ≠ (v251 : Value).ownBlock ∧ some k_ ≠ ((.slice Ao47 t259.length co47) : Value).ownBlock ∧ some k_ ≠ (v12 : Value).ownBlock ∧ some k_ ≠ ((.slice Ao47 t259.length co47) : Value).ownBlock) (.slice Ao45 t240.length co45) t240) ∧ Aside0 (Kd.R (Kd.int .i64) 3 w' w.heap.size (fun k_ => some k_ ≠ (v251 : Value).ownBlock ∧ some k_ ≠ ((.slice Ao45 t240.length co45) : Value).ownBlock ∧ some k_ ≠ (v12 : Value).ownBlock) (.slice Ao47 t259.length co47) t259) ∧ Aside0 (Kd.R (Kd.int .i64) 3 w' w.heap.size (fun k_ => some k_ ≠ (v251 : Value).ownBlock ∧ some k_ ≠ ((.slice Ao45 t240.length co45) : Value).ownBlock ∧ some k_ ≠ ((.slice Ao47 t259.length co47) : Value).ownBlock ∧ some k_ ≠ ((.slice Ao47 t259.length co47) : Value).ownBlock) v12 x12_3) ∧ Aside0 (Kd.R (Kd.int .i64) 3 w' w.heap.size (fun k_ => some k_ ≠ (v251 : Value).ownBlock ∧ some k_ ≠ ((.slice Ao45 t240.length co45) : Value).ownBlock ∧ some k_ ≠ (v12 : Value).ownBlock) (.slice Ao47 t259.length co47) t259) ∧ Aside0 (Below w.heap.size w w'))
        case atStart => exact ⟨(([] : List Int)), (0), sD, H', ⟨Nat.le_refl _⟩, ⟨by (with_reducible repeat (first | apply Kd.R_alloc | apply Kd.R_drewN | apply Kd.R_drew)); exact Kd.R_mono HO_5.out (fun _ hk => ⟨hk.1.2.1, ⟨hk.2, ⟨(by simp [Value.ownBlock]), hk.2⟩⟩⟩)⟩, ⟨by (with_reducible repeat (first | apply Kd.R_alloc | apply Kd.R_drewN | apply Kd.R_drew)); exact Kd.R_mono HO_6.out (fun _ hk => ⟨hk.1, ⟨hk.2, ⟨(by simp [Value.ownBlock]), hk.2⟩⟩⟩)⟩, ⟨by (with_reducible repeat (first | apply Kd.R_alloc | apply Kd.R_drewN | apply Kd.R_drew)); exact Kd.R_mono HO261.out (fun _ hk => ⟨hk.1.1.2, ⟨hk.1.2, (by simp [Value.ownBlock])⟩⟩)⟩, ⟨nL⟩, ⟨by (with_reducible repeat (first | apply Kd.R_alloc | apply Kd.R_drewN | apply Kd.R_drew)); exact Kd.R_mono HO261.out (fun _ hk => ⟨hk.1.1.2, ⟨hk.1.2, (by simp [Value.ownBlock])⟩⟩)⟩, ⟨uB⟩⟩
        case round =>
         clear H'
         obtain ⟨x12_3, x81_3, rfl, HA, HK3, HO_5, HO_6, HO_11, HO_12, HO_79, HB⟩ := hrel
         cases gk with
         | zero => exact absurd HA.out (by simp [skew_ranked.l2])
         | succ k3 =>
          have H := HA.out
          clear HA
          simp only [skew_ranked.l2] at H
          rcases ifC H with ⟨c48b0, H⟩ | ⟨c48b0, H⟩
          ·obtain ⟨c49b0, c50b0, H⟩ := ifD2 H
           obtain ⟨c51b0, c52b0, H⟩ := ifD2 H
           obtain ⟨c53, H⟩ := ifP H
           have LMc53 := Aside0.mk c53
           clear c53
           generalize hy264 : (x12_3 ++ [rd x5_2 (rd t259 x81_3)] : List Int) = y264 at H
           try simp only [Option.bind_some] at H
           have Ny264 := Aside0.mk hy264.symm
           clear hy264
           have H' := Aside0.mk H
           clear H
           obtain ⟨ad262, e262, hx262_0, p262, q262⟩ := rI (Kd.R_reads' HO_79.out).2.2 x81_3
           cases e262
           obtain ⟨Ao54, co54, eo54⟩ := Kd.R_slice HO_5.out
           subst eo54
           obtain ⟨ad263, e263, hx263_0, p263, q263⟩ := rI (Kd.R_reads' HO_5.out).2.2 (rd t259 x81_3)
           cases e263
           go_wp2_with (first | ((with_reducible refine gate_builtin (b := .append) (xs := #[.tmp 85, .tmp 90]) rfl ?_); at_builtin; refine Kd.R_append (Kd.int .i64) (w0 := w) w.heap.size rfl (.tmp 85) (.tmp 90) 29 3 (.int .i64 0) 8 rfl Tryz.underlying29 info3 rfl (by decide) (by omega) u12 x12_3 (rd x5_2 (rd t259 x81_3)) [.int .i64 (rd x5_2 (rd t259 x81_3))] (fun k_ => some k_ ≠ (.slice (some ad263) x5_2.length co54 : Value).ownBlock ∧ some k_ ≠ (.slice Ao45 t240.length co45 : Value).ownBlock ∧ some k_ ≠ (.slice (some ad262) t259.length co47 : Value).ownBlock ∧ some k_ ≠ (.slice (some ad262) t259.length co47 : Value).ownBlock) (fun _ => False) rfl rfl ?aP (fun _ hk => hk.elim) ?aF ?aO ?aB ?aS ?aL ?_; (case aP => exact rfl); (case aB => exact uB); (case aF => exact (fun k_ hk => ⟨Kd.fresh' (Kd.R_lt (uR HO_5.out)) k_ hk, Kd.fresh' (Kd.R_lt (uR HO_6.out)) k_ hk, Kd.fresh' (Kd.R_lt (uR HO_11.out)) k_ hk, Kd.fresh' (Kd.R_lt (uR HO_79.out)) k_ hk⟩)); (case aO => exact (uR HO_12.out)); (case aS => exact (below_size uB)); (case aL => have := LMc53.out; omega); intro v265 w55 ho hb hg hat; rw [← Ny264.out] at ho; have n0_ := Aside0.mk (Kd.R_after (ok := (fun k_ => some k_ ≠ (.slice Ao45 t240.length co45 : Value).ownBlock ∧ some k_ ≠ (.slice (some ad262) t259.length co47 : Value).ownBlock ∧ some k_ ≠ (.slice (some ad262) t259.length co47 : Value).ownBlock)) (by (with_reducible repeat (first | apply Kd.R_alloc | apply Kd.R_drewN | apply Kd.R_drew)); exact Kd.R_mono HO_5.out (fun _ hk => ⟨⟨hk.1, ⟨hk.2.1, hk.2.2.2⟩⟩, hk.2.2.1⟩)) hg hat); have n1_ := Aside0.mk (Kd.R_after (ok := (fun k_ => some k_ ≠ (.slice (some ad263) x5_2.length co54 : Value).ownBlock ∧ some k_ ≠ (.slice (some ad262) t259.length co47 : Value).ownBlock ∧ some k_ ≠ (.slice (some ad262) t259.length co47 : Value).ownBlock)) (by (with_reducible repeat (first | apply Kd.R_alloc | apply Kd.R_drewN | apply Kd.R_drew)); exact Kd.R_mono HO_6.out (fun _ hk => ⟨⟨hk.1, ⟨hk.2.1, hk.2.2.2⟩⟩, hk.2.2.1⟩)) hg hat); have n2_ := Aside0.mk (Kd.R_after (ok := (fun k_ => some k_ ≠ (.slice (some ad263) x5_2.length co54 : Value).ownBlock ∧ some k_ ≠ (.slice Ao45 t240.length co45 : Value).ownBlock)) (by (with_reducible repeat (first | apply Kd.R_alloc | apply Kd.R_drewN | apply Kd.R_drew)); exact Kd.R_mono HO_11.out (fun _ hk => ⟨⟨hk.1, hk.2.1⟩, hk.2.2⟩)) hg hat); have n3_ := Aside0.mk (Kd.R_after (ok := (fun k_ => some k_ ≠ (.slice (some ad263) x5_2.length co54 : Value).ownBlock ∧ some k_ ≠ (.slice Ao45 t240.length co45 : Value).ownBlock)) (by (with_reducible repeat (first | apply Kd.R_alloc | apply Kd.R_drewN | apply Kd.R_drew)); exact Kd.R_mono HO_79.out (fun _ hk => ⟨⟨hk.1, hk.2.1⟩, hk.2.2⟩)) hg hat); have n4_ := Aside0.mk (hb); have n5_ := Aside0.mk (ho); clear HO_5 HO_6 HO_11 HO_79 HB HO_12; have HO_5 := n0_; have HO_6 := n1_; have HO_11 := n2_; have HO_79 := n3_; have HB := n4_; have HO266 := n5_; clear n0_ n1_ n2_ n3_ n4_ n5_; clear ho hb hg hat))
           go_roundg k3
           case measure => have := HK1.out; have := HK2.out; have := HK3.out; omega
           case rel => exact ⟨(y264), (wrap64 (x81_3 + 1)), sD, H', ⟨by have := HK1.out; have := HK2.out; have := HK3.out; omega⟩, ⟨by (with_reducible repeat (first | apply Kd.R_alloc | apply Kd.R_drewN | apply Kd.R_drew)); exact Kd.R_mono HO_5.out (fun _ hk => ⟨hk.1.1, ⟨hk.1.2.1, ⟨hk.2, hk.1.2.2⟩⟩⟩)⟩, ⟨by (with_reducible repeat (first | apply Kd.R_alloc | apply Kd.R_drewN | apply Kd.R_drew)); exact Kd.R_mono HO_6.out (fun _ hk => ⟨hk.1.1, ⟨hk.1.2.1, ⟨hk.2, hk.1.2.2⟩⟩⟩)⟩, ⟨by (with_reducible repeat (first | apply Kd.R_alloc | apply Kd.R_drewN | apply Kd.R_drew)); exact Kd.R_mono HO_11.out (fun _ hk => ⟨hk.1.1, ⟨hk.1.2, hk.2⟩⟩)⟩, ⟨uR HO266.out⟩, ⟨by (with_reducible repeat (first | apply Kd.R_alloc | apply Kd.R_drewN | apply Kd.R_drew)); exact Kd.R_mono HO_79.out (fun _ hk => ⟨hk.1.1, ⟨hk.1.2, hk.2⟩⟩)⟩, ⟨uB⟩⟩
          ·obtain ⟨c56, H⟩ := ifP H
           have LMc56 := Aside0.mk c56
           clear c56
           generalize hy267 : (x12_3 ++ [0] : List Int) = y267 at H
           try simp only [Option.bind_some] at H
           have Ny267 := Aside0.mk hy267.symm
           clear hy267
           obtain ⟨t270, A57, H⟩ := bdS H
           try dsimp only at H
           have H' := Aside0.mk H
           clear H
           go_wp2_with (first | ((with_reducible refine gate_builtin (b := .append) (xs := #[.tmp 93, .tmp 94]) rfl ?_); at_builtin; refine Kd.R_append (Kd.int .i64) (w0 := w) w.heap.size rfl (.tmp 93) (.tmp 94) 29 3 (.int .i64 0) 8 rfl Tryz.underlying29 info3 rfl (by decide) (by omega) u12 x12_3 0 [.int .i64 0] (fun k_ => some k_ ≠ (v251 : Value).ownBlock ∧ some k_ ≠ (.slice Ao45 t240.length co45 : Value).ownBlock ∧ some k_ ≠ (.slice Ao47 t259.length co47 : Value).ownBlock ∧ some k_ ≠ (.slice Ao47 t259.length co47 : Value).ownBlock) (fun _ => False) rfl rfl ?aP (fun _ hk => hk.elim) ?aF ?aO ?aB ?aS ?aL ?_; (case aP => exact rfl); (case aB => exact uB); (case aF => exact (fun k_ hk => ⟨Kd.fresh' (Kd.R_lt (uR HO_5.out)) k_ hk, Kd.fresh' (Kd.R_lt (uR HO_6.out)) k_ hk, Kd.fresh' (Kd.R_lt (uR HO_11.out)) k_ hk, Kd.fresh' (Kd.R_lt (uR HO_79.out)) k_ hk⟩)); (case aO => exact (uR HO_12.out)); (case aS => exact (below_size uB)); (case aL => have := LMc56.out; omega); intro v268 w58 ho hb hg hat; rw [← Ny267.out] at ho; have n0_ := Aside0.mk (Kd.R_after (ok := (fun k_ => some k_ ≠ (.slice Ao45 t240.length co45 : Value).ownBlock ∧ some k_ ≠ (.slice Ao47 t259.length co47 : Value).ownBlock ∧ some k_ ≠ (.slice Ao47 t259.length co47 : Value).ownBlock)) (by (with_reducible repeat (first | apply Kd.R_alloc | apply Kd.R_drewN | apply Kd.R_drew)); exact Kd.R_mono HO_5.out (fun _ hk => ⟨⟨hk.1, ⟨hk.2.1, hk.2.2.2⟩⟩, hk.2.2.1⟩)) hg hat); have n1_ := Aside0.mk (Kd.R_after (ok := (fun k_ => some k_ ≠ (v251 : Value).ownBlock ∧ some k_ ≠ (.slice Ao47 t259.length co47 : Value).ownBlock ∧ some k_ ≠ (.slice Ao47 t259.length co47 : Value).ownBlock)) (by (with_reducible repeat (first | apply Kd.R_alloc | apply Kd.R_drewN | apply Kd.R_drew)); exact Kd.R_mono HO_6.out (fun _ hk => ⟨⟨hk.1, ⟨hk.2.1, hk.2.2.2⟩⟩, hk.2.2.1⟩)) hg hat); have n2_ := Aside0.mk (Kd.R_after (ok := (fun k_ => some k_ ≠ (v251 : Value).ownBlock ∧ some k_ ≠ (.slice Ao45 t240.length co45 : Value).ownBlock)) (by (with_reducible repeat (first | apply Kd.R_alloc | apply Kd.R_drewN | apply Kd.R_drew)); exact Kd.R_mono HO_11.out (fun _ hk => ⟨⟨hk.1, hk.2.1⟩, hk.2.2⟩)) hg hat); have n3_ := Aside0.mk (Kd.R_after (ok := (fun k_ => some k_ ≠ (v251 : Value).ownBlock ∧ some k_ ≠ (.slice Ao45 t240.length co45 : Value).ownBlock)) (by (with_reducible repeat (first | apply Kd.R_alloc | apply Kd.R_drewN | apply Kd.R_drew)); exact Kd.R_mono HO_79.out (fun _ hk => ⟨⟨hk.1, hk.2.1⟩, hk.2.2⟩)) hg hat); have n4_ := Aside0.mk (hb); have n5_ := Aside0.mk (ho); clear HO_5 HO_6 HO_11 HO_79 HB HO_12; have HO_5 := n0_; have HO_6 := n1_; have HO_11 := n2_; have HO_79 := n3_; have HB := n4_; have HO269 := n5_; clear n0_ n1_ n2_ n3_ n4_ n5_; clear ho hb hg hat) | ((with_reducible refine gate_callee (f := 129) rfl ?_); refine goesL_ (some 98) rfl rfl Tryz.func129 (by kernel_rfl) rfl #[.int .i64 (l0.length : Int), .int .i64 2] rfl aE ?_; (with_reducible refine (skew_places.calls k3 (l0.length : Int) 2 t270 _ A57.out).mono ?_); rintro e w59 ⟨v271, rfl, ho0, hb⟩; refine ⟨_, rfl, ?_⟩; have n0_ := Aside0.mk (Kd.R_elder' (uR HO_5.out) (Kd.R_base ho0) hb); have n1_ := Aside0.mk (Kd.R_elder' (uR HO_6.out) (Kd.R_base ho0) hb); have n2_ := Aside0.mk (Kd.R_elder' (uR HO_11.out) (Kd.R_base ho0) hb); have n3_ := Aside0.mk (Kd.R_elder' (uR HO_79.out) (Kd.R_base ho0) hb); have n4_ := Aside0.mk (Kd.R_elder' (uR HO269.out) (Kd.R_base ho0) hb); have n5_ := Aside0.mk (Kd.R_lower (Kd.R_new' (Kd.R_new' (Kd.R_new' (Kd.R_new' (Kd.R_new' ho0 (Kd.R_lt (uR HO_5.out))) (Kd.R_lt (uR HO_6.out))) (Kd.R_lt (uR HO_11.out))) (Kd.R_lt (uR HO_79.out))) (Kd.R_lt (uR HO269.out))) (below_size uB)); have n6_ := Aside0.mk (below_step uB hb); clear HO_5 HO_6 HO_11 HO_79 HO269 HB; have HO_5 := n0_; have HO_6 := n1_; have HO_11 := n2_; have HO_79 := n3_; have HO269 := n4_; have HO272 := n5_; have HB := n6_; clear n0_ n1_ n2_ n3_ n4_ n5_ n6_; obtain ⟨Ao60, co60, eo60⟩ := Kd.R_slice HO272.out; subst eo60))
           go_loopg [12, 100] k3 (fun kq v12 v100 w' => ∃ (x12_4 : List Int) (x100_4 : Int), v100 = .int .i64 x100_4 ∧ Aside0 (skew_ranked.l3 sf kq x5_2 t240 x8_2 t259 x12_4 t270 (t270.length : Int) x100_4 = some (r1, r2)) ∧ Aside0 (kq ≤ k3) ∧ Aside0 (Kd.R (Kd.int .i64) 3 w' w.heap.size (fun k_ => some k_ ≠ ((.slice Ao45 t240.length co45) : Value).ownBlock ∧ some k_ ≠ ((.slice Ao47 t259.length co47) : Value).ownBlock ∧ some k_ ≠ (v12 : Value).ownBlock ∧ some k_ ≠ ((.slice Ao60 t270.length co60) : Value).ownBlock) v251 x5_2) ∧ Aside0 (Kd.R (Kd.int .i64) 3 w' w.heap.size (fun k_ => some k_ ≠ (v251 : Value).ownBlock ∧ some k_ ≠ ((.slice Ao47 t259.length co47) : Value).ownBlock ∧ some k_ ≠ (v12 : Value).ownBlock ∧ some k_ ≠ ((.slice Ao60 t270.length co60) : Value).ownBlock) (.slice Ao45 t240.length co45) t240) ∧ Aside0 (Kd.R (Kd.int .i64) 3 w' w.heap.size (fun k_ => some k_ ≠ (v251 : Value).ownBlock ∧ some k_ ≠ ((.slice Ao45 t240.length co45) : Value).ownBlock ∧ some k_ ≠ (v12 : Value).ownBlock ∧ some k_ ≠ ((.slice Ao60 t270.length co60) : Value).ownBlock) (.slice Ao47 t259.length co47) t259) ∧ Aside0 (Kd.R (Kd.int .i64) 3 w' w.heap.size (fun k_ => some k_ ≠ (v251 : Value).ownBlock ∧ some k_ ≠ ((.slice Ao45 t240.length co45) : Value).ownBlock ∧ some k_ ≠ ((.slice Ao47 t259.length co47) : Value).ownBlock ∧ some k_ ≠ ((.slice Ao60 t270.length co60) : Value).ownBlock) v12 x12_4) ∧ Aside0 (Kd.R (Kd.int .i64) 3 w' w.heap.size (fun k_ => some k_ ≠ (v251 : Value).ownBlock ∧ some k_ ≠ ((.slice Ao45 t240.length co45) : Value).ownBlock ∧ some k_ ≠ ((.slice Ao47 t259.length co47) : Value).ownBlock ∧ some k_ ≠ (v12 : Value).ownBlock) (.slice Ao60 t270.length co60) t270) ∧ Aside0 (Below w.heap.size w w'))
           case atStart => exact ⟨(y267), (0), sD, H', ⟨Nat.le_refl _⟩, ⟨by (with_reducible repeat (first | apply Kd.R_alloc | apply Kd.R_drewN | apply Kd.R_drew)); exact Kd.R_mono HO_5.out (fun _ hk => ⟨hk.1.1.1, ⟨hk.1.1.2.1, ⟨hk.1.2, hk.2⟩⟩⟩)⟩, ⟨by (with_reducible repeat (first | apply Kd.R_alloc | apply Kd.R_drewN | apply Kd.R_drew)); exact Kd.R_mono HO_6.out (fun _ hk => ⟨hk.1.1.1, ⟨hk.1.1.2.1, ⟨hk.1.2, hk.2⟩⟩⟩)⟩, ⟨by (with_reducible repeat (first | apply Kd.R_alloc | apply Kd.R_drewN | apply Kd.R_drew)); exact Kd.R_mono HO_11.out (fun _ hk => ⟨hk.1.1.1, ⟨hk.1.1.2, ⟨hk.1.2, hk.2⟩⟩⟩)⟩, ⟨by (with_reducible repeat (first | apply Kd.R_alloc | apply Kd.R_drewN | apply Kd.R_drew)); exact Kd.R_mono HO269.out (fun _ hk => ⟨hk.1.1, ⟨hk.1.2.1, ⟨hk.1.2.2.1, hk.2⟩⟩⟩)⟩, ⟨by (with_reducible repeat (first | apply Kd.R_alloc | apply Kd.R_drewN | apply Kd.R_drew)); exact Kd.R_mono HO272.out (fun _ hk => ⟨hk.1.1.1.1.2, ⟨hk.1.1.1.2, ⟨hk.1.1.2, hk.2⟩⟩⟩)⟩, ⟨uB⟩⟩
           case round =>
            clear H'
            obtain ⟨x12_4, x100_4, rfl, HA, HK4, HO_5, HO_6, HO_11, HO_12, HO_98, HB⟩ := hrel
            cases gk with
            | zero => exact absurd HA.out (by simp [skew_ranked.l3])
            | succ k4 =>
             have H := HA.out
             clear HA
             simp only [skew_ranked.l3] at H
             rcases ifC H with ⟨c61b0, H⟩ | ⟨c61b0, H⟩
             ·obtain ⟨c62b0, c63b0, H⟩ := ifD2 H
              obtain ⟨c64b0, c65b0, H⟩ := ifD2 H
              obtain ⟨c66, H⟩ := ifP H
              have LMc66 := Aside0.mk c66
              clear c66
              generalize hy275 : (x12_4 ++ [rd x5_2 (rd t270 x100_4)] : List Int) = y275 at H
              try simp only [Option.bind_some] at H
              have Ny275 := Aside0.mk hy275.symm
              clear hy275
              have H' := Aside0.mk H
              clear H
              obtain ⟨ad273, e273, hx273_0, p273, q273⟩ := rI (Kd.R_reads' HO_98.out).2.2 x100_4
              cases e273
              obtain ⟨Ao67, co67, eo67⟩ := Kd.R_slice HO_5.out
              subst eo67
              obtain ⟨ad274, e274, hx274_0, p274, q274⟩ := rI (Kd.R_reads' HO_5.out).2.2 (rd t270 x100_4)
              cases e274
              go_wp2_with (first | ((with_reducible refine gate_builtin (b := .append) (xs := #[.tmp 104, .tmp 109]) rfl ?_); at_builtin; refine Kd.R_append (Kd.int .i64) (w0 := w) w.heap.size rfl (.tmp 104) (.tmp 109) 29 3 (.int .i64 0) 8 rfl Tryz.underlying29 info3 rfl (by decide) (by omega) u12 x12_4 (rd x5_2 (rd t270 x100_4)) [.int .i64 (rd x5_2 (rd t270 x100_4))] (fun k_ => some k_ ≠ (.slice (some ad274) x5_2.length co67 : Value).ownBlock ∧ some k_ ≠ (.slice Ao45 t240.length co45 : Value).ownBlock ∧ some k_ ≠ (.slice Ao47 t259.length co47 : Value).ownBlock ∧ some k_ ≠ (.slice (some ad273) t270.length co60 : Value).ownBlock) (fun _ => False) rfl rfl ?aP (fun _ hk => hk.elim) ?aF ?aO ?aB ?aS ?aL ?_; (case aP => exact rfl); (case aB => exact uB); (case aF => exact (fun k_ hk => ⟨Kd.fresh' (Kd.R_lt (uR HO_5.out)) k_ hk, Kd.fresh' (Kd.R_lt (uR HO_6.out)) k_ hk, Kd.fresh' (Kd.R_lt (uR HO_11.out)) k_ hk, Kd.fresh' (Kd.R_lt (uR HO_98.out)) k_ hk⟩)); (case aO => exact (uR HO_12.out)); (case aS => exact (below_size uB)); (case aL => have := LMc66.out; omega); intro v276 w68 ho hb hg hat; rw [← Ny275.out] at ho; have n0_ := Aside0.mk (Kd.R_after (ok := (fun k_ => some k_ ≠ (.slice Ao45 t240.length co45 : Value).ownBlock ∧ some k_ ≠ (.slice Ao47 t259.length co47 : Value).ownBlock ∧ some k_ ≠ (.slice (some ad273) t270.length co60 : Value).ownBlock)) (by (with_reducible repeat (first | apply Kd.R_alloc | apply Kd.R_drewN | apply Kd.R_drew)); exact Kd.R_mono HO_5.out (fun _ hk => ⟨⟨hk.1, ⟨hk.2.1, hk.2.2.2⟩⟩, hk.2.2.1⟩)) hg hat); have n1_ := Aside0.mk (Kd.R_after (ok := (fun k_ => some k_ ≠ (.slice (some ad274) x5_2.length co67 : Value).ownBlock ∧ some k_ ≠ (.slice Ao47 t259.length co47 : Value).ownBlock ∧ some k_ ≠ (.slice (some ad273) t270.length co60 : Value).ownBlock)) (by (with_reducible repeat (first | apply Kd.R_alloc | apply Kd.R_drewN | apply Kd.R_drew)); exact Kd.R_mono HO_6.out (fun _ hk => ⟨⟨hk.1, ⟨hk.2.1, hk.2.2.2⟩⟩, hk.2.2.1⟩)) hg hat); have n2_ := Aside0.mk (Kd.R_after (ok := (fun k_ => some k_ ≠ (.slice (some ad274) x5_2.length co67 : Value).ownBlock ∧ some k_ ≠ (.slice Ao45 t240.length co45 : Value).ownBlock ∧ some k_ ≠ (.slice (some ad273) t270.length co60 : Value).ownBlock)) (by (with_reducible repeat (first | apply Kd.R_alloc | apply Kd.R_drewN | apply Kd.R_drew)); exact Kd.R_mono HO_11.out (fun _ hk => ⟨⟨hk.1, ⟨hk.2.1, hk.2.2.2⟩⟩, hk.2.2.1⟩)) hg hat); have n3_ := Aside0.mk (Kd.R_after (ok := (fun k_ => some k_ ≠ (.slice (some ad274) x5_2.length co67 : Value).ownBlock ∧ some k_ ≠ (.slice Ao45 t240.length co45 : Value).ownBlock ∧ some k_ ≠ (.slice Ao47 t259.length co47 : Value).ownBlock)) (by (with_reducible repeat (first | apply Kd.R_alloc | apply Kd.R_drewN | apply Kd.R_drew)); exact Kd.R_mono HO_98.out (fun _ hk => ⟨⟨hk.1, ⟨hk.2.1, hk.2.2.1⟩⟩, hk.2.2.2⟩)) hg hat); have n4_ := Aside0.mk (hb); have n5_ := Aside0.mk (ho); clear HO_5 HO_6 HO_11 HO_98 HB HO_12; have HO_5 := n0_; have HO_6 := n1_; have HO_11 := n2_; have HO_98 := n3_; have HB := n4_; have HO277 := n5_; clear n0_ n1_ n2_ n3_ n4_ n5_; clear ho hb hg hat))
              go_roundg k4
              case measure => have := HK1.out; have := HK2.out; have := HK3.out; have := HK4.out; omega
              case rel => exact ⟨(y275), (wrap64 (x100_4 + 1)), sD, H', ⟨by have := HK1.out; have := HK2.out; have := HK3.out; have := HK4.out; omega⟩, ⟨by (with_reducible repeat (first | apply Kd.R_alloc | apply Kd.R_drewN | apply Kd.R_drew)); exact Kd.R_mono HO_5.out (fun _ hk => ⟨hk.1.1, ⟨hk.1.2.1, ⟨hk.2, hk.1.2.2⟩⟩⟩)⟩, ⟨by (with_reducible repeat (first | apply Kd.R_alloc | apply Kd.R_drewN | apply Kd.R_drew)); exact Kd.R_mono HO_6.out (fun _ hk => ⟨hk.1.1, ⟨hk.1.2.1, ⟨hk.2, hk.1.2.2⟩⟩⟩)⟩, ⟨by (with_reducible repeat (first | apply Kd.R_alloc | apply Kd.R_drewN | apply Kd.R_drew)); exact Kd.R_mono HO_11.out (fun _ hk => ⟨hk.1.1, ⟨hk.1.2.1, ⟨hk.2, hk.1.2.2⟩⟩⟩)⟩, ⟨uR HO277.out⟩, ⟨by (with_reducible repeat (first | apply Kd.R_alloc | apply Kd.R_drewN | apply Kd.R_drew)); exact Kd.R_mono HO_98.out (fun _ hk => ⟨hk.1.1, ⟨hk.1.2.1, ⟨hk.1.2.2, hk.2⟩⟩⟩)⟩, ⟨uB⟩⟩
             ·obtain ⟨t278, A69, H⟩ := bdS H
              try dsimp only at H
              have H' := Aside0.mk H
              clear H
              obtain ⟨Ao70, co70, eo70⟩ := Kd.R_slice HO_12.out
              subst eo70
              go_wp2_with (first | ((with_reducible refine gate_callee (f := 107) rfl ?_); refine goesL_ (some 115) rfl rfl Tryz.func107 (by kernel_rfl) rfl #[.slice Ao70 x12_4.length co70, .int .i64 (wrap64 (x8_2 + 1))] rfl aE ?_; (with_reducible refine (hsf _ _ x12_4 (wrap64 (x8_2 + 1)) t278 _ ?side1 ?side2 A69.out).mono ?_); (case side1 => exact uC (Kd.R_reads' HO_12.out).2.2); (case side2 => exact (Kd.R_reads' HO_12.out).2.1); rintro e w71 ⟨v279, rfl, ho0, hb⟩; refine ⟨_, rfl, ?_⟩; have n0_ := Aside0.mk (Kd.R_elder' (uR HO_5.out) (Kd.R_base ho0) hb); have n1_ := Aside0.mk (Kd.R_elder' (uR HO_6.out) (Kd.R_base ho0) hb); have n2_ := Aside0.mk (Kd.R_elder' (uR HO_11.out) (Kd.R_base ho0) hb); have n3_ := Aside0.mk (Kd.R_elder' (uR HO_12.out) (Kd.R_base ho0) hb); have n4_ := Aside0.mk (Kd.R_elder' (uR HO_98.out) (Kd.R_base ho0) hb); have n5_ := Aside0.mk (Kd.R_lower (Kd.R_new' (Kd.R_new' (Kd.R_new' (Kd.R_new' (Kd.R_new' ho0 (Kd.R_lt (uR HO_5.out))) (Kd.R_lt (uR HO_6.out))) (Kd.R_lt (uR HO_11.out))) (Kd.R_lt (uR HO_12.out))) (Kd.R_lt (uR HO_98.out))) (below_size uB)); have n6_ := Aside0.mk (below_step uB hb); clear HO_5 HO_6 HO_11 HO_12 HO_98 HB; have HO_5 := n0_; have HO_6 := n1_; have HO_11 := n2_; have HO_12 := n3_; have HO_98 := n4_; have HO280 := n5_; have HB := n6_; clear n0_ n1_ n2_ n3_ n4_ n5_ n6_; obtain ⟨Ao72, co72, eo72⟩ := Kd.R_slice HO280.out; subst eo72))
              go_loopg [4, 117] k4 (fun kq v4 v117 w' => ∃ (x4_5 : List Int) (x117_5 : Int), v117 = .int .i64 x117_5 ∧ Aside0 (skew_ranked.l4 sf kq x4_5 x5_2 t240 t259 t278 (t278.length : Int) x117_5 = some (r1, r2)) ∧ Aside0 (kq ≤ k4) ∧ Aside0 (Kd.R (Kd.int .i64) 3 w' w.heap.size (fun k_ => some k_ ≠ (v251 : Value).ownBlock ∧ some k_ ≠ ((.slice Ao45 t240.length co45) : Value).ownBlock ∧ some k_ ≠ ((.slice Ao47 t259.length co47) : Value).ownBlock ∧ some k_ ≠ ((.slice Ao72 t278.length co72) : Value).ownBlock) v4 x4_5) ∧ Aside0 (Kd.R (Kd.int .i64) 3 w' w.heap.size (fun k_ => some k_ ≠ (v4 : Value).ownBlock ∧ some k_ ≠ ((.slice Ao45 t240.length co45) : Value).ownBlock ∧ some k_ ≠ ((.slice Ao47 t259.length co47) : Value).ownBlock ∧ some k_ ≠ ((.slice Ao72 t278.length co72) : Value).ownBlock) v251 x5_2) ∧ Aside0 (Kd.R (Kd.int .i64) 3 w' w.heap.size (fun k_ => some k_ ≠ (v4 : Value).ownBlock ∧ some k_ ≠ (v251 : Value).ownBlock ∧ some k_ ≠ ((.slice Ao47 t259.length co47) : Value).ownBlock ∧ some k_ ≠ ((.slice Ao72 t278.length co72) : Value).ownBlock) (.slice Ao45 t240.length co45) t240) ∧ Aside0 (Kd.R (Kd.int .i64) 3 w' w.heap.size (fun k_ => some k_ ≠ (v4 : Value).ownBlock ∧ some k_ ≠ (v251 : Value).ownBlock ∧ some k_ ≠ ((.slice Ao45 t240.length co45) : Value).ownBlock ∧ some k_ ≠ ((.slice Ao72 t278.length co72) : Value).ownBlock) (.slice Ao47 t259.length co47) t259) ∧ Aside0 (Kd.R (Kd.int .i64) 3 w' w.heap.size (fun k_ => some k_ ≠ (v4 : Value).ownBlock ∧ some k_ ≠ (v251 : Value).ownBlock ∧ some k_ ≠ ((.slice Ao45 t240.length co45) : Value).ownBlock ∧ some k_ ≠ ((.slice Ao47 t259.length co47) : Value).ownBlock) (.slice Ao72 t278.length co72) t278) ∧ Aside0 (Below w.heap.size w w'))
              case atStart => exact ⟨(([] : List Int)), (0), sD, H', ⟨Nat.le_refl _⟩, ⟨nL⟩, ⟨by (with_reducible repeat (first | apply Kd.R_alloc | apply Kd.R_drewN | apply Kd.R_drew)); exact Kd.R_mono HO_5.out (fun _ hk => ⟨(by simp [Value.ownBlock]), ⟨hk.1.1, ⟨hk.1.2.1, hk.2⟩⟩⟩)⟩, ⟨by (with_reducible repeat (first | apply Kd.R_alloc | apply Kd.R_drewN | apply Kd.R_drew)); exact Kd.R_mono HO_6.out (fun _ hk => ⟨(by simp [Value.ownBlock]), ⟨hk.1.1, ⟨hk.1.2.1, hk.2⟩⟩⟩)⟩, ⟨by (with_reducible repeat (first | apply Kd.R_alloc | apply Kd.R_drewN | apply Kd.R_drew)); exact Kd.R_mono HO_11.out (fun _ hk => ⟨(by simp [Value.ownBlock]), ⟨hk.1.1, ⟨hk.1.2.1, hk.2⟩⟩⟩)⟩, ⟨by (with_reducible repeat (first | apply Kd.R_alloc | apply Kd.R_drewN | apply Kd.R_drew)); exact Kd.R_mono HO280.out (fun _ hk => ⟨(by simp [Value.ownBlock]), ⟨hk.1.1.1.1.2, ⟨hk.1.1.1.2, hk.1.1.2⟩⟩⟩)⟩, ⟨uB⟩⟩
              case round =>
               clear H'
               obtain ⟨x4_5, x117_5, rfl, HA, HK5, HO_4, HO_5, HO_6, HO_11, HO_115, HB⟩ := hrel
               cases gk with
               | zero => exact absurd HA.out (by simp [skew_ranked.l4])
               | succ k5 =>
                have H := HA.out
                clear HA
                simp only [skew_ranked.l4] at H
                rcases ifC H with ⟨c73b0, H⟩ | ⟨c73b0, H⟩
                ·obtain ⟨c74b0, c75b0, H⟩ := ifD2 H
                 rcases ifC H with ⟨c76b0, H⟩ | ⟨c76b0, H⟩
                 ·obtain ⟨c77b0, H⟩ := ifD H
                  obtain ⟨c78, H⟩ := ifP H
                  have LMc78 := Aside0.mk c78
                  clear c78
                  generalize hy283 : (x4_5 ++ [rd t259 (rd t278 x117_5)] : List Int) = y283 at H
                  try simp only [Option.bind_some] at H
                  have Ny283 := Aside0.mk hy283.symm
                  clear hy283
                  have H' := Aside0.mk H
                  clear H
                  obtain ⟨ad281, e281, hx281_0, p281, q281⟩ := rI (Kd.R_reads' HO_115.out).2.2 x117_5
                  cases e281
                  obtain ⟨ad282, e282, hx282_0, p282, q282⟩ := rI (Kd.R_reads' HO_11.out).2.2 (rd t278 x117_5)
                  cases e282
                  go_wp2_with (first | ((with_reducible refine gate_builtin (b := .append) (xs := #[.tmp 126, .tmp 131]) rfl ?_); at_builtin; refine Kd.R_append (Kd.int .i64) (w0 := w) w.heap.size rfl (.tmp 126) (.tmp 131) 29 3 (.int .i64 0) 8 rfl Tryz.underlying29 info3 rfl (by decide) (by omega) u4 x4_5 (rd t259 (rd t278 x117_5)) [.int .i64 (rd t259 (rd t278 x117_5))] (fun k_ => some k_ ≠ (v251 : Value).ownBlock ∧ some k_ ≠ (.slice Ao45 t240.length co45 : Value).ownBlock ∧ some k_ ≠ (.slice (some ad282) t259.length co47 : Value).ownBlock ∧ some k_ ≠ (.slice (some ad281) t278.length co72 : Value).ownBlock) (fun _ => False) rfl rfl ?aP (fun _ hk => hk.elim) ?aF ?aO ?aB ?aS ?aL ?_; (case aP => exact rfl); (case aB => exact uB); (case aF => exact (fun k_ hk => ⟨Kd.fresh' (Kd.R_lt (uR HO_5.out)) k_ hk, Kd.fresh' (Kd.R_lt (uR HO_6.out)) k_ hk, Kd.fresh' (Kd.R_lt (uR HO_11.out)) k_ hk, Kd.fresh' (Kd.R_lt (uR HO_115.out)) k_ hk⟩)); (case aO => exact (uR HO_4.out)); (case aS => exact (below_size uB)); (case aL => have := LMc78.out; omega); intro v284 w79 ho hb hg hat; rw [← Ny283.out] at ho; have n0_ := Aside0.mk (Kd.R_after (ok := (fun k_ => some k_ ≠ (.slice Ao45 t240.length co45 : Value).ownBlock ∧ some k_ ≠ (.slice (some ad282) t259.length co47 : Value).ownBlock ∧ some k_ ≠ (.slice (some ad281) t278.length co72 : Value).ownBlock)) (by (with_reducible repeat (first | apply Kd.R_alloc | apply Kd.R_drewN | apply Kd.R_drew)); exact Kd.R_mono HO_5.out (fun _ hk => ⟨⟨hk.2.1, ⟨hk.2.2.1, hk.2.2.2⟩⟩, hk.1⟩)) hg hat); have n1_ := Aside0.mk (Kd.R_after (ok := (fun k_ => some k_ ≠ (v251 : Value).ownBlock ∧ some k_ ≠ (.slice (some ad282) t259.length co47 : Value).ownBlock ∧ some k_ ≠ (.slice (some ad281) t278.length co72 : Value).ownBlock)) (by (with_reducible repeat (first | apply Kd.R_alloc | apply Kd.R_drewN | apply Kd.R_drew)); exact Kd.R_mono HO_6.out (fun _ hk => ⟨⟨hk.2.1, ⟨hk.2.2.1, hk.2.2.2⟩⟩, hk.1⟩)) hg hat); have n2_ := Aside0.mk (Kd.R_after (ok := (fun k_ => some k_ ≠ (v251 : Value).ownBlock ∧ some k_ ≠ (.slice Ao45 t240.length co45 : Value).ownBlock ∧ some k_ ≠ (.slice (some ad281) t278.length co72 : Value).ownBlock)) (by (with_reducible repeat (first | apply Kd.R_alloc | apply Kd.R_drewN | apply Kd.R_drew)); exact Kd.R_mono HO_11.out (fun _ hk => ⟨⟨hk.2.1, ⟨hk.2.2.1, hk.2.2.2⟩⟩, hk.1⟩)) hg hat); have n3_ := Aside0.mk (Kd.R_after (ok := (fun k_ => some k_ ≠ (v251 : Value).ownBlock ∧ some k_ ≠ (.slice Ao45 t240.length co45 : Value).ownBlock ∧ some k_ ≠ (.slice (some ad282) t259.length co47 : Value).ownBlock)) (by (with_reducible repeat (first | apply Kd.R_alloc | apply Kd.R_drewN | apply Kd.R_drew)); exact Kd.R_mono HO_115.out (fun _ hk => ⟨⟨hk.2.1, ⟨hk.2.2.1, hk.2.2.2⟩⟩, hk.1⟩)) hg hat); have n4_ := Aside0.mk (hb); have n5_ := Aside0.mk (ho); clear HO_5 HO_6 HO_11 HO_115 HB HO_4; have HO_5 := n0_; have HO_6 := n1_; have HO_11 := n2_; have HO_115 := n3_; have HB := n4_; have HO285 := n5_; clear n0_ n1_ n2_ n3_ n4_ n5_; clear ho hb hg hat))
                  go_roundg k5
                  case measure => have := HK1.out; have := HK2.out; have := HK3.out; have := HK4.out; have := HK5.out; omega
                  case rel => exact ⟨(y283), (wrap64 (x117_5 + 1)), sD, H', ⟨by have := HK1.out; have := HK2.out; have := HK3.out; have := HK4.out; have := HK5.out; omega⟩, ⟨uR HO285.out⟩, ⟨by (with_reducible repeat (first | apply Kd.R_alloc | apply Kd.R_drewN | apply Kd.R_drew)); exact Kd.R_mono HO_5.out (fun _ hk => ⟨hk.2, ⟨hk.1.1, ⟨hk.1.2.1, hk.1.2.2⟩⟩⟩)⟩, ⟨by (with_reducible repeat (first | apply Kd.R_alloc | apply Kd.R_drewN | apply Kd.R_drew)); exact Kd.R_mono HO_6.out (fun _ hk => ⟨hk.2, ⟨hk.1.1, ⟨hk.1.2.1, hk.1.2.2⟩⟩⟩)⟩, ⟨by (with_reducible repeat (first | apply Kd.R_alloc | apply Kd.R_drewN | apply Kd.R_drew)); exact Kd.R_mono HO_11.out (fun _ hk => ⟨hk.2, ⟨hk.1.1, ⟨hk.1.2.1, hk.1.2.2⟩⟩⟩)⟩, ⟨by (with_reducible repeat (first | apply Kd.R_alloc | apply Kd.R_drewN | apply Kd.R_drew)); exact Kd.R_mono HO_115.out (fun _ hk => ⟨hk.2, ⟨hk.1.1, ⟨hk.1.2.1, hk.1.2.2⟩⟩⟩)⟩, ⟨uB⟩⟩
                 ·rcases ifK H with ⟨c80b0, H⟩ | ⟨c80b0, H⟩
                  ·obtain ⟨ji81, hji81⟩ : ∃ j_ : Int, (wrap64 ((rd t278 x117_5) - 1)) = j_ := ⟨_, rfl⟩
                   first | rw [hji81] at H | simp only [hji81] at H
                   have hji81w : (IntKind.i64.wrap ((rd t278 x117_5) - 1)) = ji81 := (i64_w _).trans hji81
                   obtain ⟨c82b0, c83b0, H⟩ := ifD2 H
                   obtain ⟨c84, H⟩ := ifP H
                   have LMc84 := Aside0.mk c84
                   clear c84
                   generalize hy287 : (x4_5 ++ [rd t240 (ji81)] : List Int) = y287 at H
                   try simp only [Option.bind_some] at H
                   have Ny287 := Aside0.mk hy287.symm
                   clear hy287
                   have H' := Aside0.mk H
                   clear H
                   obtain ⟨ad281, e281, hx281_0, p281, q281⟩ := rI (Kd.R_reads' HO_115.out).2.2 x117_5
                   cases e281
                   obtain ⟨ad286, e286, hx286_0, p286, q286⟩ := rI (Kd.R_reads' HO_6.out).2.2 (ji81)
                   cases e286
                   go_wp2_with (first | ((with_reducible refine gate_builtin (b := .append) (xs := #[.tmp 138, .tmp 144]) rfl ?_); at_builtin; refine Kd.R_append (Kd.int .i64) (w0 := w) w.heap.size rfl (.tmp 138) (.tmp 144) 29 3 (.int .i64 0) 8 rfl Tryz.underlying29 info3 rfl (by decide) (by omega) u4 x4_5 (rd t240 (ji81)) [.int .i64 (rd t240 (ji81))] (fun k_ => some k_ ≠ (v251 : Value).ownBlock ∧ some k_ ≠ (.slice (some ad286) t240.length co45 : Value).ownBlock ∧ some k_ ≠ (.slice Ao47 t259.length co47 : Value).ownBlock ∧ some k_ ≠ (.slice (some ad281) t278.length co72 : Value).ownBlock) (fun _ => False) rfl rfl ?aP (fun _ hk => hk.elim) ?aF ?aO ?aB ?aS ?aL ?_; (case aP => exact rfl); (case aB => exact uB); (case aF => exact (fun k_ hk => ⟨Kd.fresh' (Kd.R_lt (uR HO_5.out)) k_ hk, Kd.fresh' (Kd.R_lt (uR HO_6.out)) k_ hk, Kd.fresh' (Kd.R_lt (uR HO_11.out)) k_ hk, Kd.fresh' (Kd.R_lt (uR HO_115.out)) k_ hk⟩)); (case aO => exact (uR HO_4.out)); (case aS => exact (below_size uB)); (case aL => have := LMc84.out; omega); intro v288 w85 ho hb hg hat; rw [← Ny287.out] at ho; have n0_ := Aside0.mk (Kd.R_after (ok := (fun k_ => some k_ ≠ (.slice (some ad286) t240.length co45 : Value).ownBlock ∧ some k_ ≠ (.slice Ao47 t259.length co47 : Value).ownBlock ∧ some k_ ≠ (.slice (some ad281) t278.length co72 : Value).ownBlock)) (by (with_reducible repeat (first | apply Kd.R_alloc | apply Kd.R_drewN | apply Kd.R_drew)); exact Kd.R_mono HO_5.out (fun _ hk => ⟨⟨hk.2.1, ⟨hk.2.2.1, hk.2.2.2⟩⟩, hk.1⟩)) hg hat); have n1_ := Aside0.mk (Kd.R_after (ok := (fun k_ => some k_ ≠ (v251 : Value).ownBlock ∧ some k_ ≠ (.slice Ao47 t259.length co47 : Value).ownBlock ∧ some k_ ≠ (.slice (some ad281) t278.length co72 : Value).ownBlock)) (by (with_reducible repeat (first | apply Kd.R_alloc | apply Kd.R_drewN | apply Kd.R_drew)); exact Kd.R_mono HO_6.out (fun _ hk => ⟨⟨hk.2.1, ⟨hk.2.2.1, hk.2.2.2⟩⟩, hk.1⟩)) hg hat); have n2_ := Aside0.mk (Kd.R_after (ok := (fun k_ => some k_ ≠ (v251 : Value).ownBlock ∧ some k_ ≠ (.slice (some ad286) t240.length co45 : Value).ownBlock ∧ some k_ ≠ (.slice (some ad281) t278.length co72 : Value).ownBlock)) (by (with_reducible repeat (first | apply Kd.R_alloc | apply Kd.R_drewN | apply Kd.R_drew)); exact Kd.R_mono HO_11.out (fun _ hk => ⟨⟨hk.2.1, ⟨hk.2.2.1, hk.2.2.2⟩⟩, hk.1⟩)) hg hat); have n3_ := Aside0.mk (Kd.R_after (ok := (fun k_ => some k_ ≠ (v251 : Value).ownBlock ∧ some k_ ≠ (.slice (some ad286) t240.length co45 : Value).ownBlock ∧ some k_ ≠ (.slice Ao47 t259.length co47 : Value).ownBlock)) (by (with_reducible repeat (first | apply Kd.R_alloc | apply Kd.R_drewN | apply Kd.R_drew)); exact Kd.R_mono HO_115.out (fun _ hk => ⟨⟨hk.2.1, ⟨hk.2.2.1, hk.2.2.2⟩⟩, hk.1⟩)) hg hat); have n4_ := Aside0.mk (hb); have n5_ := Aside0.mk (ho); clear HO_5 HO_6 HO_11 HO_115 HB HO_4; have HO_5 := n0_; have HO_6 := n1_; have HO_11 := n2_; have HO_115 := n3_; have HB := n4_; have HO289 := n5_; clear n0_ n1_ n2_ n3_ n4_ n5_; clear ho hb hg hat))
                   go_roundg k5
                   case measure => have := HK1.out; have := HK2.out; have := HK3.out; have := HK4.out; have := HK5.out; omega
                   case rel => exact ⟨(y287), (wrap64 (x117_5 + 1)), sD, H', ⟨by have := HK1.out; have := HK2.out; have := HK3.out; have := HK4.out; have := HK5.out; omega⟩, ⟨uR HO289.out⟩, ⟨by (with_reducible repeat (first | apply Kd.R_alloc | apply Kd.R_drewN | apply Kd.R_drew)); exact Kd.R_mono HO_5.out (fun _ hk => ⟨hk.2, ⟨hk.1.1, ⟨hk.1.2.1, hk.1.2.2⟩⟩⟩)⟩, ⟨by (with_reducible repeat (first | apply Kd.R_alloc | apply Kd.R_drewN | apply Kd.R_drew)); exact Kd.R_mono HO_6.out (fun _ hk => ⟨hk.2, ⟨hk.1.1, ⟨hk.1.2.1, hk.1.2.2⟩⟩⟩)⟩, ⟨by (with_reducible repeat (first | apply Kd.R_alloc | apply Kd.R_drewN | apply Kd.R_drew)); exact Kd.R_mono HO_11.out (fun _ hk => ⟨hk.2, ⟨hk.1.1, ⟨hk.1.2.1, hk.1.2.2⟩⟩⟩)⟩, ⟨by (with_reducible repeat (first | apply Kd.R_alloc | apply Kd.R_drewN | apply Kd.R_drew)); exact Kd.R_mono HO_115.out (fun _ hk => ⟨hk.2, ⟨hk.1.1, ⟨hk.1.2.1, hk.1.2.2⟩⟩⟩)⟩, ⟨uB⟩⟩
                  ·have H' := Aside0.mk H
                   clear H
                   obtain ⟨ad281, e281, hx281_0, p281, q281⟩ := rI (Kd.R_reads' HO_115.out).2.2 x117_5
                   cases e281
                   go_wp2
                   go_roundg k5
                   case measure => have := HK1.out; have := HK2.out; have := HK3.out; have := HK4.out; have := HK5.out; omega
                   case rel => exact ⟨(x4_5), (wrap64 (x117_5 + 1)), sD, H', ⟨by have := HK1.out; have := HK2.out; have := HK3.out; have := HK4.out; have := HK5.out; omega⟩, ⟨uR HO_4.out⟩, ⟨uR HO_5.out⟩, ⟨uR HO_6.out⟩, ⟨uR HO_11.out⟩, ⟨uR HO_115.out⟩, ⟨uB⟩⟩
                ·have H' := Aside0.mk H
                 clear H
                 obtain ⟨Ao86, co86, eo86⟩ := Kd.R_slice HO_4.out
                 subst eo86
                 go_wp2
                 go_loopg [149] k5 (fun kq v149 w' => ∃ (x5_6 : List Int) (x149_6 : Int), v149 = .int .i64 x149_6 ∧ Aside0 (skew_ranked.l5 sf kq x4_5 x5_6 x4_5 (x4_5.length : Int) x149_6 = some (r1, r2)) ∧ Aside0 (kq ≤ k5) ∧ Aside0 (Kd.R (Kd.int .i64) 3 w' w.heap.size (fun k_ => some k_ ≠ (v251 : Value).ownBlock) (.slice Ao86 x4_5.length co86) x4_5) ∧ Aside0 (Kd.R (Kd.int .i64) 3 w' w.heap.size (fun k_ => some k_ ≠ ((.slice Ao86 x4_5.length co86) : Value).ownBlock ∧ some k_ ≠ ((.slice Ao86 x4_5.length co86) : Value).ownBlock) v251 x5_6) ∧ Aside0 (Kd.R (Kd.int .i64) 3 w' w.heap.size (fun k_ => some k_ ≠ (v251 : Value).ownBlock) (.slice Ao86 x4_5.length co86) x4_5) ∧ Aside0 (Below w.heap.size w w'))
                 case atStart => exact ⟨(x5_2), (0), sD, H', ⟨Nat.le_refl _⟩, ⟨by (with_reducible repeat (first | apply Kd.R_alloc | apply Kd.R_drewN | apply Kd.R_drew)); exact Kd.R_mono HO_4.out (fun _ hk => hk.1)⟩, ⟨by (with_reducible repeat (first | apply Kd.R_alloc | apply Kd.R_drewN | apply Kd.R_drew)); exact Kd.R_mono HO_5.out (fun _ hk => ⟨hk.1, hk.1⟩)⟩, ⟨by (with_reducible repeat (first | apply Kd.R_alloc | apply Kd.R_drewN | apply Kd.R_drew)); exact Kd.R_mono HO_4.out (fun _ hk => hk.1)⟩, ⟨uB⟩⟩
                 case round =>
                  clear H'
                  obtain ⟨x5_6, x149_6, rfl, HA, HK6, HO_4, HO_5, HO_147, HB⟩ := hrel
                  cases gk with
                  | zero => exact absurd HA.out (by simp [skew_ranked.l5])
                  | succ k6 =>
                   have H := HA.out
                   clear HA
                   simp only [skew_ranked.l5] at H
                   rcases ifC H with ⟨c87b0, H⟩ | ⟨c87b0, H⟩
                   ·obtain ⟨c88b0, c89b0, H⟩ := ifD2 H
                    obtain ⟨c90b0, c91b0, H⟩ := ifD2 H
                    generalize hy291 : (x5_6.set ((rd x4_5 x149_6) : Int).toNat (wrap64 (x149_6 + 1)) : List Int) = y291 at H
                    try simp only [Option.bind_some] at H
                    have Ny291 := Aside0.mk hy291.symm
                    clear hy291
                    have H' := Aside0.mk H
                    clear H
                    obtain ⟨ad290, e290, hx290_0, p290, q290⟩ := rI (Kd.R_reads' HO_147.out).2.2 x149_6
                    cases e290
                    have p92 : 0 ≤ ((rd x4_5 x149_6) : Int) := dT
                    have q92 : ((rd x4_5 x149_6) : Int) < ((x5_6.length : Int) : Int) := dT
                    obtain ⟨go92, co92, eo92, gb92, gl92, cl92, HG92⟩ := Kd.R_form HO_5.out (by omega)
                    (first | cases eo92 | (injection eo92 with ea_ en_ ec_; (first | subst ea_ | (injection ea_ with ea_; subst ea_)); subst ec_; clear en_))
                    have GB92 := Aside0.mk gb92
                    have GG92 := Aside0.mk HG92
                    clear gb92 gl92 HG92
                    obtain ⟨hx92_0, hf92_0⟩ := Kd.R_celln 0 HO_5.out ((rd x4_5 x149_6) : Int) p92 q92
                    replace p92 := eq_true p92
                    replace q92 := eq_true q92
                    have HP93 := Kd.R_putg HO_5.out ((rd x4_5 x149_6) : Int) (wrap64 (x149_6 + 1))
                    go_wp2_with (first | ((with_reducible refine gate_store (t := 3) (p := 158) rfl ?_); refine store_event (t := 3) (p := 158) (v := ?vo_w94) (w1 := (wr.setCell ⟨go92, ((rd x4_5 x149_6) : Int).toNat, none⟩ (.int .i64 (wrap64 (x149_6 + 1))))) ?hg ?ho ?hn ?hr ?_; (case ho => rfl); (case hg => rfl); (case hn => rfl); (case hr => first | (go_simp; done) | (go_simp; rfl)); intro w94 hw; have hg : wr.grownBy w94 (some go92) := (by rw [hw]; exact HP93.2); have hp_ : Kd.R (Kd.int .i64) 3 w94 w.heap.size (fun k_ => some k_ ≠ (.slice (some ad290) x4_5.length co86 : Value).ownBlock ∧ some k_ ≠ (.slice (some ad290) x4_5.length co86 : Value).ownBlock) (.slice (some ⟨go92, 0, none⟩) x5_6.length co92) y291 := (by rw [hw, Ny291.out]; first | exact HP93.1 | exact Kd.R_mono (d := Kd.int .i64) HP93.1 (fun _ hk => ⟨hk.1, ⟨hk.2.2, hk.2.1⟩⟩)); clear HP93; have n0_ := Aside0.mk (Kd.R_after (v := (.slice (some ⟨go92, 0, none⟩) x5_6.length co92)) (v1 := (.slice (some ⟨go92, 0, none⟩) x5_6.length co92)) (ok := (fun _ => True)) (by (with_reducible repeat (first | apply Kd.R_alloc | apply Kd.R_drewN | apply Kd.R_drew)); exact Kd.R_mono HO_4.out (fun _ hk => ⟨trivial, hk⟩)) hg (.inl rfl)); have n1_ := Aside0.mk (hp_); have n2_ := Aside0.mk (Kd.R_after (v := (.slice (some ⟨go92, 0, none⟩) x5_6.length co92)) (v1 := (.slice (some ⟨go92, 0, none⟩) x5_6.length co92)) (ok := (fun _ => True)) (by (with_reducible repeat (first | apply Kd.R_alloc | apply Kd.R_drewN | apply Kd.R_drew)); exact Kd.R_mono HO_147.out (fun _ hk => ⟨trivial, hk⟩)) hg (.inl rfl)); have n3_ := Aside0.mk ((by rw [hw]; exact below_set (HB.out) GB92.out : Below w.heap.size w w94)); clear HO_4 HO_5 HO_147 HB; have HO_4 := n0_; have HO_5 := n1_; have HO_147 := n2_; have HB := n3_; clear n0_ n1_ n2_ n3_; clear hg hw hp_))
                    go_roundg k6
                    case measure => have := HK1.out; have := HK2.out; have := HK3.out; have := HK4.out; have := HK5.out; have := HK6.out; omega
                    case rel => exact ⟨(y291), (wrap64 (x149_6 + 1)), sD, H', ⟨by have := HK1.out; have := HK2.out; have := HK3.out; have := HK4.out; have := HK5.out; have := HK6.out; omega⟩, ⟨by (with_reducible repeat (first | apply Kd.R_alloc | apply Kd.R_drewN | apply Kd.R_drew)); exact Kd.R_mono HO_4.out (fun _ hk => hk.2)⟩, ⟨uR HO_5.out⟩, ⟨by (with_reducible repeat (first | apply Kd.R_alloc | apply Kd.R_drewN | apply Kd.R_drew)); exact Kd.R_mono HO_147.out (fun _ hk => hk.2)⟩, ⟨uB⟩⟩
                   ·simp only [Option.some.injEq, Prod.mk.injEq] at H
                    obtain ⟨rfl, rfl⟩ := H
                    go_wp2
                    go_ret2
                    exact ⟨_, _, by first | rfl | (simp [errW_none, errW_some] <;> rfl) | (simp only [← hji12]; first | rfl | (simp [errW_none, errW_some] <;> rfl)) | (simp [*, errW_none, errW_some] <;> rfl), uR HO_4.out, by (with_reducible repeat (first | apply Kd.R_alloc | apply Kd.R_drewN | apply Kd.R_drew)); exact Kd.R_mono HO_5.out (fun _ hk => hk.1), uB⟩
def skew_less.l0 : Nat → List Int → List Int → Int → Int → Option (Bool)
  | 0, _, _, _, _ => none
  | k + 1, x0, x1, x2, x3 => (skew_key.f x0 x2).bind fun t292 => ((skew_key.f x0 x3).bind fun t293 => (if t292 = t293 then (if (Int.tmod (wrap64 (x2 + 1)) 3) = 0 then (skew_less.l0 k x0 x1 (wrap64 (x2 + 1)) (wrap64 (x3 + 1))) else (if (Int.tmod (wrap64 (x3 + 1)) 3) = 0 then (skew_less.l0 k x0 x1 (wrap64 (x2 + 1)) (wrap64 (x3 + 1))) else (if 0 ≤ (mn (wrap64 (x2 + 1)) (x0.length : Int)) then (if (mn (wrap64 (x2 + 1)) (x0.length : Int)) < (x1.length : Int) then (if 0 ≤ (mn (wrap64 (x3 + 1)) (x0.length : Int)) then (if (mn (wrap64 (x3 + 1)) (x0.length : Int)) < (x1.length : Int) then (some (decide ((rd x1 (mn (wrap64 (x2 + 1)) (x0.length : Int))) < (rd x1 (mn (wrap64 (x3 + 1)) (x0.length : Int)))))) else (none)) else (none)) else (none)) else (none)))) else (some (decide (t292 < t293)))))
def skew_less.f (k : Nat) (l0 : List Int) (l1 : List Int) (a2 : Int) (a3 : Int) : Option (Bool) := skew_less.l0 k l0 l1 a2 a3
theorem skew_less.calls (k : Nat) (A0 : Option Addr) (c0 : Nat) (l0 : List Int) (A1 : Option Addr) (c1 : Nat) (l1 : List Int) (a2 : Int) (a3 : Int) (r : Bool) (w : World) (hr0 : Kd.C (Kd.int .i64) w A0 l0.length l0) (hc0 : l0.length ≤ c0) (hr1 : Kd.C (Kd.int .i64) w A1 l1.length l1) (hc1 : l1.length ≤ c1) (h : skew_less.f k l0 l1 a2 a3 = some r) :
    Calls Tryz.prog 132 #[.slice A0 l0.length c0, .slice A1 l1.length c1, .int .i64 a2, .int .i64 a3] w fun e w' => e = .returned (.bool r) ∧ Below w.heap.size w w' := by
 have HR0 := Aside0.mk hr0
 have HC0 := Aside0.mk hc0
 clear hr0 hc0
 have HR1 := Aside0.mk hr1
 have HC1 := Aside0.mk hc1
 clear hr1 hc1
 have HB := Aside0.mk (Below.refl w.heap.size w)
 have H := h
 clear h
 unfold skew_less.f at H
 have H' := Aside0.mk H
 clear H
 go_enter Tryz.func132, Tryz.ntmps132
 go_wp2
 repeat (go_quiet (fail); try go_wp2)
 go_loopg [2, 3] k (fun kq v2 v3 w' => ∃ (x2_1 : Int) (x3_1 : Int), v2 = .int .i64 x2_1 ∧ v3 = .int .i64 x3_1 ∧ Aside0 (skew_less.l0 kq l0 l1 x2_1 x3_1 = some r) ∧ Aside0 (kq ≤ k) ∧ Aside0 (Below w.heap.size w w'))
 case atStart => exact ⟨(a2), (a3), sD, sD, H', ⟨Nat.le_refl _⟩, ⟨uB⟩⟩
 case round =>
  clear H'
  obtain ⟨x2_1, x3_1, rfl, rfl, HA, HK1, HB⟩ := hrel
  cases gk with
  | zero => exact absurd HA.out (by simp [skew_less.l0])
  | succ k1 =>
   have H := HA.out
   clear HA
   simp only [skew_less.l0] at H
   obtain ⟨t292, A5, H⟩ := bdS H
   try dsimp only at H
   obtain ⟨t293, A6, H⟩ := bdS H
   try dsimp only at H
   by_cases c7 : t292 = t293
   ·rw [if_pos c7] at H
    have c7b0 : (t292 == t293) = true := beq_iff_eq.mpr c7
    have c7b1 : (t292 != t293) = false := bne_eq_false_iff_eq.mpr c7
    clear c7
    by_cases c8 : (Int.tmod (wrap64 (x2_1 + 1)) 3) = 0
    ·rw [if_pos c8] at H
     have c8b0 : ((Int.tmod (wrap64 (x2_1 + 1)) 3) == 0) = true := beq_iff_eq.mpr c8
     have c8b1 : ((Int.tmod (wrap64 (x2_1 + 1)) 3) != 0) = false := bne_eq_false_iff_eq.mpr c8
     clear c8
     have H' := Aside0.mk H
     clear H
     go_wp2_with (first | (go_at_call 147; (with_reducible refine (skew_key.calls _ _ l0 x2_1 t292 _ ?side1 ?side2 A5.out).mono ?_); (case side1 => exact uC (Kd.C_below HR0.out HB.out)); (case side2 => exact HC0.out); rintro e w' ⟨rfl, ⟨nd, rfl⟩⟩; (try first | exact ⟨rfl, _, World.drewN_drewN _ _ _⟩ | exact ⟨rfl, _, Eq.trans (World.drewN_drewN _ _ _) (congrArg (World.drewN _) (Nat.add_assoc _ _ _))⟩)) | (go_at_call 147; (with_reducible refine (skew_key.calls _ _ l0 x3_1 t293 _ ?side1 ?side2 A6.out).mono ?_); (case side1 => repeat (first | exact (Kd.C_below HR0.out uB) | (with_reducible refine Kd.C_alloc ?_ _) | (with_reducible refine Kd.C_drewN ?_ _) | (with_reducible refine Kd.C_drew ?_))); (case side2 => exact HC0.out); rintro e w' ⟨rfl, ⟨nd, rfl⟩⟩; (try first | exact ⟨rfl, _, World.drewN_drewN _ _ _⟩ | exact ⟨rfl, _, Eq.trans (World.drewN_drewN _ _ _) (congrArg (World.drewN _) (Nat.add_assoc _ _ _))⟩)))
     repeat (go_quiet (first | fail); try go_wp2_with (first | fail))
     go_roundg k1
     case measure => have := HK1.out; omega
     case rel => exact ⟨(wrap64 (x2_1 + 1)), (wrap64 (x3_1 + 1)), sD, sD, H', ⟨by have := HK1.out; omega⟩, ⟨uB⟩⟩
    ·rw [if_neg c8] at H
     have c8b0 : ((Int.tmod (wrap64 (x2_1 + 1)) 3) == 0) = false := beq_eq_false_iff_ne.mpr c8
     have c8b1 : ((Int.tmod (wrap64 (x2_1 + 1)) 3) != 0) = true := bne_iff_ne.mpr c8
     by_cases c9 : (Int.tmod (wrap64 (x3_1 + 1)) 3) = 0
     ·rw [if_pos c9] at H
      have c9b0 : ((Int.tmod (wrap64 (x3_1 + 1)) 3) == 0) = true := beq_iff_eq.mpr c9
      have c9b1 : ((Int.tmod (wrap64 (x3_1 + 1)) 3) != 0) = false := bne_eq_false_iff_eq.mpr c9
      clear c9
      have H' := Aside0.mk H
      clear H
      go_wp2_with (first | (go_at_call 147; (with_reducible refine (skew_key.calls _ _ l0 x2_1 t292 _ ?side1 ?side2 A5.out).mono ?_); (case side1 => exact uC (Kd.C_below HR0.out HB.out)); (case side2 => exact HC0.out); rintro e w' ⟨rfl, ⟨nd, rfl⟩⟩; (try first | exact ⟨rfl, _, World.drewN_drewN _ _ _⟩ | exact ⟨rfl, _, Eq.trans (World.drewN_drewN _ _ _) (congrArg (World.drewN _) (Nat.add_assoc _ _ _))⟩)) | (go_at_call 147; (with_reducible refine (skew_key.calls _ _ l0 x3_1 t293 _ ?side1 ?side2 A6.out).mono ?_); (case side1 => repeat (first | exact (Kd.C_below HR0.out uB) | (with_reducible refine Kd.C_alloc ?_ _) | (with_reducible refine Kd.C_drewN ?_ _) | (with_reducible refine Kd.C_drew ?_))); (case side2 => exact HC0.out); rintro e w' ⟨rfl, ⟨nd, rfl⟩⟩; (try first | exact ⟨rfl, _, World.drewN_drewN _ _ _⟩ | exact ⟨rfl, _, Eq.trans (World.drewN_drewN _ _ _) (congrArg (World.drewN _) (Nat.add_assoc _ _ _))⟩)))
      repeat (go_quiet (first | fail); try go_wp2_with (first | fail))
      go_roundg k1
      case measure => have := HK1.out; omega
      case rel => exact ⟨(wrap64 (x2_1 + 1)), (wrap64 (x3_1 + 1)), sD, sD, H', ⟨by have := HK1.out; omega⟩, ⟨uB⟩⟩
     ·rw [if_neg c9] at H
      have c9b0 : ((Int.tmod (wrap64 (x3_1 + 1)) 3) == 0) = false := beq_eq_false_iff_ne.mpr c9
      have c9b1 : ((Int.tmod (wrap64 (x3_1 + 1)) 3) != 0) = true := bne_iff_ne.mpr c9
      obtain ⟨ji10, hji10⟩ : ∃ j_ : Int, (mn (wrap64 (x2_1 + 1)) (l0.length : Int)) = j_ := ⟨_, rfl⟩
      first | rw [hji10] at H | simp only [hji10] at H
      (try rw [hji10] at A5)
      (try rw [hji10] at A6)
      have hji10_ : (if (l0.length : Int) < (wrap64 (x2_1 + 1)) then (l0.length : Int) else (wrap64 (x2_1 + 1))) = ji10 := hji10
      obtain ⟨c11b0, c12b0, H⟩ := ifD2 H
      obtain ⟨ji13, hji13⟩ : ∃ j_ : Int, (mn (wrap64 (x3_1 + 1)) (l0.length : Int)) = j_ := ⟨_, rfl⟩
      first | rw [hji13] at H | simp only [hji13] at H
      (try rw [hji13] at A5)
      (try rw [hji13] at A6)
      have hji13_ : (if (l0.length : Int) < (wrap64 (x3_1 + 1)) then (l0.length : Int) else (wrap64 (x3_1 + 1))) = ji13 := hji13
      obtain ⟨c14b0, c15b0, H⟩ := ifD2 H
      obtain rfl := Option.some.inj H
      go_wp2_with (first | (go_at_call 147; (with_reducible refine (skew_key.calls _ _ l0 x2_1 t292 _ ?side1 ?side2 A5.out).mono ?_); (case side1 => exact uC (Kd.C_below HR0.out HB.out)); (case side2 => exact HC0.out); rintro e w' ⟨rfl, ⟨nd, rfl⟩⟩; (try first | exact ⟨rfl, _, World.drewN_drewN _ _ _⟩ | exact ⟨rfl, _, Eq.trans (World.drewN_drewN _ _ _) (congrArg (World.drewN _) (Nat.add_assoc _ _ _))⟩)) | (go_at_call 147; (with_reducible refine (skew_key.calls _ _ l0 x3_1 t293 _ ?side1 ?side2 A6.out).mono ?_); (case side1 => repeat (first | exact (Kd.C_below HR0.out uB) | (with_reducible refine Kd.C_alloc ?_ _) | (with_reducible refine Kd.C_drewN ?_ _) | (with_reducible refine Kd.C_drew ?_))); (case side2 => exact HC0.out); rintro e w' ⟨rfl, ⟨nd, rfl⟩⟩; (try first | exact ⟨rfl, _, World.drewN_drewN _ _ _⟩ | exact ⟨rfl, _, Eq.trans (World.drewN_drewN _ _ _) (congrArg (World.drewN _) (Nat.add_assoc _ _ _))⟩); have p294 : 0 ≤ ((ji10) : Int) := dT; have q294 : (ji10) < (l1.length : Int) := dT; obtain ⟨ad294, e294, hx294_0⟩ := Kd.at_int HR1.out (ji10) p294 q294; cases e294; replace hx294_0 := (HB.out.cell (World.block_lt_of_cell? w _ hx294_0)).trans hx294_0; replace p294 := eq_true p294; replace q294 := eq_true q294; have p295 : 0 ≤ ((ji13) : Int) := dT; have q295 : (ji13) < (l1.length : Int) := dT; obtain ⟨ad295, e295, hx295_0⟩ := Kd.at_int HR1.out (ji13) p295 q295; obtain rfl : ad294 = ad295 := (by injection e295); replace hx295_0 := (HB.out.cell (World.block_lt_of_cell? w _ hx295_0)).trans hx295_0; replace p295 := eq_true p295; replace q295 := eq_true q295))
      repeat (go_quiet (first | fail); try go_wp2_with (first | fail))
      go_ret
      exact ⟨by first | rfl | (simp [errW_none, errW_some] <;> rfl) | (simp only [← hji10, ← hji13]; first | rfl | (simp [errW_none, errW_some] <;> rfl)) | (simp [*, errW_none, errW_some] <;> rfl), uB⟩
   ·rw [if_neg c7] at H
    have c7b0 : (t292 == t293) = false := beq_eq_false_iff_ne.mpr c7
    have c7b1 : (t292 != t293) = true := bne_iff_ne.mpr c7
    obtain rfl := Option.some.inj H
    go_wp2_with (first | (go_at_call 147; (with_reducible refine (skew_key.calls _ _ l0 x2_1 t292 _ ?side1 ?side2 A5.out).mono ?_); (case side1 => exact uC (Kd.C_below HR0.out HB.out)); (case side2 => exact HC0.out); rintro e w' ⟨rfl, ⟨nd, rfl⟩⟩; (try first | exact ⟨rfl, _, World.drewN_drewN _ _ _⟩ | exact ⟨rfl, _, Eq.trans (World.drewN_drewN _ _ _) (congrArg (World.drewN _) (Nat.add_assoc _ _ _))⟩)) | (go_at_call 147; (with_reducible refine (skew_key.calls _ _ l0 x3_1 t293 _ ?side1 ?side2 A6.out).mono ?_); (case side1 => repeat (first | exact (Kd.C_below HR0.out uB) | (with_reducible refine Kd.C_alloc ?_ _) | (with_reducible refine Kd.C_drewN ?_ _) | (with_reducible refine Kd.C_drew ?_))); (case side2 => exact HC0.out); rintro e w' ⟨rfl, ⟨nd, rfl⟩⟩; (try first | exact ⟨rfl, _, World.drewN_drewN _ _ _⟩ | exact ⟨rfl, _, Eq.trans (World.drewN_drewN _ _ _) (congrArg (World.drewN _) (Nat.add_assoc _ _ _))⟩)))
    repeat (go_quiet (first | fail); try go_wp2_with (first | fail))
    go_ret
    exact ⟨eR, uB⟩
end Go.Proofs.YtbbpplnnegdenaaGreat.PTopTurns
end
