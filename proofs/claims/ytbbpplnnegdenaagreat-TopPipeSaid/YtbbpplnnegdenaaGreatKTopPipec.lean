/- Words, functions, walks and plain mathematics for TopPipe, part 3: laid together by a program of this session (pack.py). -/
import Derived.Test.YtbbpplnnegdenaaGreatKTopPipeb
import Derived.Lib.SlBytesConst
import Derived.Laws.StructEq
set_option linter.unusedVariables false
set_option linter.unusedSimpArgs false
section
set_option linter.unusedVariables false
set_option linter.unusedSimpArgs false
namespace Go.Proofs.YtbbpplnnegdenaaGreat.Sy
open Go Go.RowKit Go.Shelf Go.Proofs Go.Proofs.YtbbpplnnegdenaaGreatW.PrintWords Go.Proofs.YtbbpplnnegdenaaGreat.So Go.Proofs.YtbbpplnnegdenaaGreat.St Go.Proofs.YtbbpplnnegdenaaGreat.Mo Go.Proofs.YtbbpplnnegdenaaGreat.Mp Go.Proofs.YtbbpplnnegdenaaGreat.Wr Go.Proofs.YtbbpplnnegdenaaGreat.We Go.Proofs.YtbbpplnnegdenaaGreat.Mk Go.Proofs.YtbbpplnnegdenaaGreat.Rd Go.Proofs.YtbbpplnnegdenaaGreat.Pk
def whichF : List Int → Int → Nat
  | [], _ => 0
  | x :: xs, v => if v < x then 0 else whichF xs (v - x) + 1
theorem whichF_spec : ∀ (cs : List Int) (v : Int), (∀ x ∈ cs, 1 ≤ x) → 0 ≤ v → v < cs.sum → whichF cs v < cs.length ∧ (∀ i, i ≤ whichF cs v → (cs.take i).sum ≤ v) ∧ v < (cs.take (whichF cs v + 1)).sum
  | [], v, _, h0, h1 => by simp at h1; omega
  | x :: xs, v, hp, h0, h1 => by
    unfold whichF
    by_cases e : v < x
    · rw [if_pos e]
      refine ⟨by simp, fun i hi => ?_, by simpa using e⟩
      obtain rfl : i = 0 := by omega
      simpa using h0
    · rw [if_neg e]
      rw [List.sum_cons] at h1
      obtain ⟨h2, h3, h4⟩ := whichF_spec xs (v - x) (fun y hy => hp y (List.mem_cons_of_mem _ hy)) (by omega) (by omega)
      refine ⟨by rw [List.length_cons]; omega, fun i hi => ?_, ?_⟩
      · cases i with
        | zero => simpa using h0
        | succ i =>
          have := h3 i (by omega)
          rw [List.take_succ_cons, List.sum_cons]; omega
      · rw [List.take_succ_cons, List.sum_cons]; omega
structure ROk (s : Nat × Int × Int) : Prop where
  c : 0 ≤ s.2.1 ∧ s.2.1 < 4294967296
  r : 16777216 ≤ s.2.2 ∧ s.2.2 < 4294967296
theorem rdW_ok {xs : List Int} (hx : ∀ x ∈ xs, 0 ≤ x ∧ x < 256) : ∀ (k u : Nat) (c r : Int) (s : Nat × Int × Int), 0 ≤ c → c < r → 16777216 ≤ r * 256 ^ k → r < 4294967296 → rdW xs k u c r = some s → ROk s
  | 0, u, c, r, s, h0, h1, hr, hr1, h => by
    injection h with h
    subst h
    exact ⟨⟨h0, by show c < _; omega⟩, ⟨by show 16777216 ≤ r; simpa using hr, hr1⟩⟩
  | k + 1, u, c, r, s, h0, h1, hr, hr1, h => by
    unfold rdW at h
    by_cases e : r < 16777216
    · rw [if_pos e] at h
      by_cases e2 : u < xs.length
      · rw [if_pos e2] at h
        have hb := hx _ (get_mem e2)
        exact rdW_ok hx k _ _ _ s (by omega) (by omega) (by rw [Int.mul_assoc, Int.mul_comm 256, ← Int.pow_succ]; exact hr) (by omega) h
      · rw [if_neg e2] at h; cases h
    · rw [if_neg e] at h
      injection h with h
      subst h
      exact ⟨⟨h0, by show c < _; omega⟩, ⟨by show 16777216 ≤ r; omega, hr1⟩⟩
theorem ROk.take {xs : List Int} (hx : ∀ x ∈ xs, 0 ≤ x ∧ x < 256) {s s' : Nat × Int × Int} (h : ROk s) {low size total : Int} (h0 : total ≤ 65536) (h1 : 0 ≤ low) (h2 : 1 ≤ size) (h3 : low + size ≤ total) (ht : takeF xs s low size total = some s') : ROk s' := by
  obtain ⟨hq, hl, hs, hsum⟩ := span_bounds h.r h0 h1 h2 h3
  have hr := h.r
  unfold takeF at ht
  by_cases e : s.2.1 < s.2.2 / total * low ∨ s.2.2 / total * (low + size) ≤ s.2.1
  · rw [if_pos e] at ht; cases ht
  · rw [if_neg e] at ht
    rw [Int.mul_add] at e
    exact rdW_ok hx 3 _ _ _ _ (by omega) (by omega) (by omega) (by omega) ht
def symL (xs : List Int) (ord : Int) : Nat → (Nat × Int × Int) → (Nat → List Int × Int) → Int → List Int → Option (List Int)
  | 0, _, _, _, _ => none
  | f + 1, rd, ms, cl, l =>
    if findQ rd.2.1 rd.2.2 (ms (askF cl ord)).2 < (ms (askF cl ord)).2 then
      (takeF xs rd ((ms (askF cl ord)).1.take (whichF (ms (askF cl ord)).1 (findQ rd.2.1 rd.2.2 (ms (askF cl ord)).2))).sum ((ms (askF cl ord)).1.getD (whichF (ms (askF cl ord)).1 (findQ rd.2.1 rd.2.2 (ms (askF cl ord)).2)) 0) (ms (askF cl ord)).2).bind fun rd' =>
        if whichF (ms (askF cl ord)).1 (findQ rd.2.1 rd.2.2 (ms (askF cl ord)).2) = 257 then some l
        else symL xs ord f rd' (sawM ms (askF cl ord) (whichF (ms (askF cl ord)).1 (findQ rd.2.1 rd.2.2 (ms (askF cl ord)).2))) (clsF (whichF (ms (askF cl ord)).1 (findQ rd.2.1 rd.2.2 (ms (askF cl ord)).2))) (l ++ [((whichF (ms (askF cl ord)).1 (findQ rd.2.1 rd.2.2 (ms (askF cl ord)).2) : Nat) : Int)])
    else none
def symF (xs : List Int) (ord : Int) (most : Nat) : Option (List Int) := if xs.length < 4 then none else symL xs ord (most + 1) (4, numB (xs.take 4), 4294967295) newM 0 []
structure SyS (W : World) (gm gr B1 B3 : Nat) (gs bs : Nat → Nat) : Prop where
  lm : B1 ≤ gm ∧ gm < B3
  lg : ∀ j, j < 3 → (B1 ≤ gs j ∧ gs j < B3) ∧ B1 ≤ bs j ∧ bs j < B3
  lr : gr < B1
  br : W.heap.size ≤ gr
structure SyI (W : World) (gm gr B1 B3 : Nat) (gs bs : Nat → Nat) (xs : List Int) (ord : Int) (W' : World) (rd : Nat × Int × Int) (ms : Nat → List Int × Int) (cl : Int) : Prop where
  M : Mds W' gm gs bs ms cl ord
  R : Rdr W' gr B1 xs rd.1 rd.2.1 rd.2.2
  ok : ∀ j, j < 3 → MOk (ms j)
  rok : ROk rd
  cl : cl = 0 ∨ cl = 1 ∨ cl = 2
  K : Below W.heap.size W W'
  b3 : B3 ≤ W'.heap.size
theorem _root_.Go.Proofs.YtbbpplnnegdenaaGreat.Mp.Mds.below {W W' : World} {gm B : Nat} {gs bs : Nat → Nat} {ms : Nat → List Int × Int} {cl ord : Int} (h : Mds W gm gs bs ms cl ord) (hk : Below B W W') (hm : gm < B) (hg : ∀ j, j < 3 → gs j < B ∧ bs j < B) : Mds W' gm gs bs ms cl ord :=
  ⟨(hk.block gm hm).trans h.G, fun j hj => ⟨(hk.block _ (hg j hj).1).trans (h.M j hj).G, (hk.block _ (hg j hj).2).trans (h.M j hj).R, (h.M j hj).ne⟩, h.d1, h.d2⟩
theorem _root_.Go.Proofs.YtbbpplnnegdenaaGreat.Rd.Rdr.below {W W' : World} {gr B1 B : Nat} {xs : List Int} {used : Nat} {c r : Int} (h : Rdr W gr B1 xs used c r) (hk : Below B W W') (hB : B1 ≤ B) : Rdr W' gr B1 xs used c r := by
  obtain ⟨⟨v, base, hG, hR⟩, lt, hb⟩ := h
  exact ⟨⟨v, base, (hk.block gr (by omega)).trans hG, Kd.R_step hR (fun k ho hlt => hk.block k (by omega))⟩, lt, Nat.le_trans hb hk.size⟩
def vOf (rd : Nat × Int × Int) (tot : Int) : Int := if findQ rd.2.1 rd.2.2 tot < tot then findQ rd.2.1 rd.2.2 tot else 0
section
variable {W wr : World} {gm gr B1 B3 : Nat} {gs bs : Nat → Nat} {xs : List Int} {ord : Int} {rd : Nat × Int × Int} {ms : Nat → List Int × Int} {cl : Int}
theorem SyI.now (h : SyI W gm gr B1 B3 gs bs xs ord wr rd ms cl) (ho : ord = 0 ∨ ord = 1) (Wx : World) (hx : Keep [] wr Wx) : Calls Tryz.prog 20 #[.pointer (some ⟨gm, 0, none⟩)] Wx fun e W' => e = .returned (.pointer (some ⟨gs (askF cl ord), 0, none⟩)) ∧ Keep [] wr W' :=
  (now_calls Wx (h.M.keep hx (by simp) (by simp)) h.cl ho).mono (fun e W' ⟨h1, h2⟩ => ⟨h1, hx.trans (h2 ▸ Keep.drew [] Wx)⟩)
theorem SyI.span (h : SyI W gm gr B1 B3 gs bs xs ord wr rd ms cl) (ho : ord = 0 ∨ ord = 1) (Wx : World) (hx : Keep [] wr Wx) (s : Nat) (hs : s < 258) : Calls Tryz.prog 21 #[.pointer (some ⟨gs (askF cl ord), 0, none⟩), .int .i64 s] Wx fun e W' => e = .returned (.tuple #[.int .i64 ((ms (askF cl ord)).1.take s).sum, .int .i64 ((ms (askF cl ord)).1.getD s 0), .bool true]) ∧ Keep [] wr W' := by
  have ha := askF_lt h.cl ho
  have hm := h.ok _ ha
  exact (Mo.span_calls Wx ((h.M.keep hx (by simp) (by simp)).M _ ha) s (by rw [hm.len]; exact hs) (by rw [hm.len]; omega) (fun j _ => by
    have h2 := take_le (l := (ms (askF cl ord)).1) (fun x hx => by have := hm.pos x hx; omega) j
    have := hm.sum; have := hm.le; omega)).mono (fun e W' ⟨h1, h2⟩ => ⟨h1, hx.trans (h2 ▸ Keep.drew [] Wx)⟩)
theorem SyI.total (h : SyI W gm gr B1 B3 gs bs xs ord wr rd ms cl) (ho : ord = 0 ∨ ord = 1) (Wx : World) (hx : Keep [] wr Wx) : Calls Tryz.prog 23 #[.pointer (some ⟨gs (askF cl ord), 0, none⟩)] Wx fun e W' => e = .returned (.int .i64 (ms (askF cl ord)).2) ∧ Keep [] wr W' :=
  (Mo.total_calls Wx ((h.M.keep hx (by simp) (by simp)).M _ (askF_lt h.cl ho))).mono (fun e W' ⟨h1, h2⟩ => ⟨h1, h2 ▸ hx⟩)
theorem SyI.findR (h : SyI W gm gr B1 B3 gs bs xs ord wr rd ms cl) (ho : ord = 0 ∨ ord = 1) (Wx : World) (hx : Keep [] wr Wx) : Calls Tryz.prog 57 #[.pointer (some ⟨gr, 0, none⟩), .int .i64 (ms (askF cl ord)).2] Wx fun e W' => e = .returned (.tuple #[.int .i64 (vOf rd (ms (askF cl ord)).2), .bool (decide (findQ rd.2.1 rd.2.2 (ms (askF cl ord)).2 < (ms (askF cl ord)).2))]) ∧ Keep [] wr W' := by
  have hm := h.ok _ (askF_lt h.cl ho)
  have h1 := hm.le
  have h2 := hm.tot
  exact (Rd.find_calls Wx (h.R.keep hx (by simp)) h.rok.c h.rok.r _ (by omega) (by omega)).mono (fun e W' ⟨h1, h2⟩ => ⟨h1, h2 ▸ hx⟩)
theorem SyI.v (h : SyI W gm gr B1 B3 gs bs xs ord wr rd ms cl) (ho : ord = 0 ∨ ord = 1) : 0 ≤ vOf rd (ms (askF cl ord)).2 ∧ vOf rd (ms (askF cl ord)).2 < (ms (askF cl ord)).2 := by
  have hm := h.ok _ (askF_lt h.cl ho)
  have h2 := hm.tot
  have hr := h.rok.r
  unfold vOf
  split
  · refine ⟨?_, by assumption⟩
    unfold findQ
    exact Int.ediv_nonneg h.rok.c.1 (Int.ediv_nonneg (by omega) (by omega))
  · omega
theorem SyI.which (h : SyI W gm gr B1 B3 gs bs xs ord wr rd ms cl) (ho : ord = 0 ∨ ord = 1) : whichF (ms (askF cl ord)).1 (vOf rd (ms (askF cl ord)).2) < 258 := by
  have hm := h.ok _ (askF_lt h.cl ho)
  have := (whichF_spec (ms (askF cl ord)).1 (vOf rd (ms (askF cl ord)).2) hm.pos (h.v ho).1 (by rw [hm.sum]; exact (h.v ho).2)).1
  rw [hm.len] at this; exact this
theorem SyI.findM (h : SyI W gm gr B1 B3 gs bs xs ord wr rd ms cl) (ho : ord = 0 ∨ ord = 1) (Wx : World) (hx : Keep [] wr Wx) : Calls Tryz.prog 58 #[.pointer (some ⟨gs (askF cl ord), 0, none⟩), .int .i64 (vOf rd (ms (askF cl ord)).2)] Wx fun e W' => e = .returned (.tuple #[.int .i64 (whichF (ms (askF cl ord)).1 (vOf rd (ms (askF cl ord)).2)), .bool true]) ∧ Keep [] wr W' := by
  have ha := askF_lt h.cl ho
  have hm := h.ok _ ha
  have hv := h.v ho
  have hle := hm.le
  obtain ⟨w1, w2, w3⟩ := whichF_spec (ms (askF cl ord)).1 (vOf rd (ms (askF cl ord)).2) hm.pos hv.1 (by rw [hm.sum]; exact hv.2)
  exact (Mo.find_calls Wx ((h.M.keep hx (by simp) (by simp)).M _ ha) _ _ hv.1 hv.2 w1 (by rw [hm.len]; omega) (fun j _ => by
    have h2 := take_le (l := (ms (askF cl ord)).1) (fun x hx => by have := hm.pos x hx; omega) j
    have := hm.sum; omega) w2 w3 (by omega)).mono (fun e W' ⟨h1, h2⟩ => ⟨h1, h2 ▸ hx⟩)
theorem SyI.take (h : SyI W gm gr B1 B3 gs bs xs ord wr rd ms cl) (ho : ord = 0 ∨ ord = 1) (hl : xs.length ≤ 17592186044416) (hby : ∀ x ∈ xs, 0 ≤ x ∧ x < 256) (Wx : World) (hx : Keep [] wr Wx) (s : Nat) (hs : s < 258) :
    Calls Tryz.prog 59 #[.pointer (some ⟨gr, 0, none⟩), .int .i64 ((ms (askF cl ord)).1.take s).sum, .int .i64 ((ms (askF cl ord)).1.getD s 0), .int .i64 (ms (askF cl ord)).2] Wx fun e W' => e = .returned (.bool (takeF xs rd ((ms (askF cl ord)).1.take s).sum ((ms (askF cl ord)).1.getD s 0) (ms (askF cl ord)).2).isSome) ∧ Keep [gr] wr W' ∧ ∀ s', takeF xs rd ((ms (askF cl ord)).1.take s).sum ((ms (askF cl ord)).1.getD s 0) (ms (askF cl ord)).2 = some s' → Rdr W' gr B1 xs s'.1 s'.2.1 s'.2.2 ∧ ROk s' := by
  have hm := h.ok _ (askF_lt h.cl ho)
  have hsp := hm.span hs
  have hle := hm.le
  exact (Rd.take_calls Wx (h.R.keep hx (by simp)) hl hby h.rok.c h.rok.r _ _ _ (by omega) hsp.1 hsp.2.1 hsp.2.2).mono (fun e W' ⟨h1, h2, h3⟩ => ⟨h1, (hx.mono (by simp)).trans h2, fun s' hs' => ⟨h3 s' hs', h.rok.take hby (by omega) hsp.1 hsp.2.1 hsp.2.2 hs'⟩⟩)
theorem SyI.after (h : SyI W gm gr B1 B3 gs bs xs ord wr rd ms cl) (hS : SyS W gm gr B1 B3 gs bs) {wt wa : World} (hk : Keep [gr] wr wt) (hb : Below B3 wt wa) : Mds wa gm gs bs ms cl ord ∧ Below W.heap.size W wa ∧ B3 ≤ wa.heap.size := by
  have lm := hS.lm
  have lr := hS.lr
  have br := hS.br
  have h1 := h.M.keep hk (by simp only [List.mem_singleton]; omega) (fun j hj => by have := hS.lg j hj; simp only [List.mem_singleton]; omega)
  have hsz := h.K.size
  refine ⟨h1.below hb lm.2 (fun j hj => ⟨(hS.lg j hj).1.2, (hS.lg j hj).2.2⟩), ?_, Nat.le_trans h.b3 (Nat.le_trans hk.size hb.size)⟩
  exact (h.K.trans (hk.toBelow hsz (by simp only [List.mem_singleton]; rintro k rfl; exact br))).trans ⟨hb.os, hb.tape, hb.output, hb.size, fun k hk => hb.block k (by omega)⟩
theorem SyI.saw (h : SyI W gm gr B1 B3 gs bs xs ord wr rd ms cl) (hS : SyS W gm gr B1 B3 gs bs) (ho : ord = 0 ∨ ord = 1) (wa : World) (s : Nat) (hs : s < 258) (hM : Mds wa gm gs bs ms cl ord) (hK : Below W.heap.size W wa) (hb : B3 ≤ wa.heap.size) :
    Calls Tryz.prog 24 #[.pointer (some ⟨gm, 0, none⟩), .int .i64 s] wa fun e W' => e = .returned (.tuple #[]) ∧ (∀ v base l, Kd.R (Kd.int .i64) 3 wa base (fun k => B3 ≤ k) v l → Kd.R (Kd.int .i64) 3 W' base (fun k => B3 ≤ k) v l) ∧ Below W.heap.size W W' ∧ ∀ rd', Rdr wa gr B1 xs rd'.1 rd'.2.1 rd'.2.2 → ROk rd' → SyI W gm gr B1 B3 gs bs xs ord W' rd' (sawM ms (askF cl ord) s) (clsF s) := by
  have ha := askF_lt h.cl ho
  have hm := h.ok _ ha
  have hle := hm.le
  have htot := hm.tot
  have lm := hS.lm
  have lr := hS.lr
  have br := hS.br
  refine (Mp.saw_calls wa hM h.cl ho s (by rw [hm.len]; exact hs) (by rw [hm.len]; omega) (fun x hx => by have := hm.big hx; omega) ⟨by omega, by omega⟩ ha).mono ?_
  rintro e W' ⟨h1, h2, h3⟩
  have hlt3 : ∀ k ∈ [gm, gs (askF cl ord), bs (askF cl ord)], B1 ≤ k ∧ k < B3 := by
    intro k hk
    simp only [List.mem_cons, List.not_mem_nil, or_false] at hk
    rcases hk with rfl | rfl | rfl
    · exact lm
    · exact (hS.lg _ ha).1
    · exact (hS.lg _ ha).2
  have hK2 : Below W.heap.size W W' := hK.trans (h3.toBelow hK.size (fun k hk => by have := (hlt3 k hk).1; omega))
  refine ⟨h1, fun v base l hR => Kd.R_step hR (fun k hk hlt => h3.block k hlt (fun hm => by have := (hlt3 k hm).2; omega)), hK2, fun rd' hR hO => ⟨h2, hR.keep h3 (fun k hk => (hlt3 k hk).1), ?_, hO, clsF_cases _, hK2, Nat.le_trans hb h3.size⟩⟩
  intro j hj
  unfold sawM
  split
  · exact hm.saw hs
  · exact h.ok j hj
end
def lenV : Value → Nat
  | .slice _ n _ => n
  | _ => 0
def measV (most : Nat) : Value → Value → Nat
  | .bool true, v => most + 2 - lenV v
  | _, _ => 0
set_option maxHeartbeats 4000000 in
theorem symbols_miss (W : World) (A : Option Addr) (n c : Nat) (ord : Int) (most : Int) (hn : n < 4) : Calls Tryz.prog 26 #[.slice A n c, .int .i64 ord, .int .i64 most] W fun e W' => e = .returned (.tuple #[.slice none 0 0, .bool false]) ∧ Below W.heap.size W W' := by
  have cN := Rd.new_miss W A n c hn
  have cM := made_calls W ord
  go_enter Tryz.func26, Tryz.ntmps26
  go_wp2_with (fail)
  (with_reducible refine cN.mono ?_)
  clear cN
  rintro e w0 ⟨rfl, rfl⟩
  go_wp2_with (fail)
  (with_reducible refine cM.mono ?_)
  clear cM
  rintro e w1 ⟨gm, gs, bs, rfl, hM, hK, _⟩
  have hB := Aside0.mk (hK.toBelow (Nat.le_refl _) (by simp))
  clear hM hK
  go_wp2_with (fail)
  go_loopw [9, 11] (fun v9 v11 wr => v9 = .bool false ∧ v11 = .slice none 0 0 ∧ Aside0 (wr = w1)) (fun v9 v11 _ => 0)
  case atStart => exact ⟨rfl, rfl, ⟨rfl⟩⟩
  case round =>
    obtain ⟨rfl, rfl, hw⟩ := hrel
    obtain rfl := hw.out
    go_wp2_with (fail)
    go_ret2
    exact ⟨rfl, hB.out⟩
set_option maxHeartbeats 8000000 in
theorem symbols_hit (W : World) (A : Option Addr) (cp : Nat) (xs : List Int) (hC : Kd.C (Kd.int .u8) W A xs.length xs) (h4 : 4 ≤ xs.length) (hl : xs.length ≤ 17592186044416) (hby : ∀ x ∈ xs, 0 ≤ x ∧ x < 256) (ord : Int) (ho : ord = 0 ∨ ord = 1) (most : Nat) (hm : most ≤ 100000) (T : Option (List Int)) (hT : symL xs ord (most + 1) (4, numB (xs.take 4), 4294967295) newM 0 [] = T) :
    Calls Tryz.prog 26 #[.slice A xs.length cp, .int .i64 ord, .int .i64 most] W fun e W' => (∃ l v, T = some l ∧ e = .returned (.tuple #[v, .bool true]) ∧ Kd.R (Kd.int .i64) 3 W' W.heap.size (fun _ => True) v l ∧ Below W.heap.size W W') ∨ (T = none ∧ e = .returned (.tuple #[.slice none 0 0, .bool false]) ∧ Below W.heap.size W W') := by
  have cN := Rd.new_hit W A cp xs hC h4 hl hby
  have HBY := Aside0.mk hby
  have HO := Aside0.mk ho
  have HT := Aside0.mk hT
  clear hC hby ho hT
  go_enter Tryz.func26, Tryz.ntmps26
  go_wp2_with (fail)
  (with_reducible refine cN.mono ?_)
  clear cN
  rintro e w0 ⟨gr, B1, rfl, hR, hK0, hgr⟩
  have cM := made_calls w0 ord
  have HR := Aside0.mk hR
  have K0 := Aside0.mk hK0
  clear hR hK0
  go_wp2_with (fail)
  (with_reducible refine cM.mono ?_)
  clear cM
  rintro e w1 ⟨gm, gs, bs, rfl, hM, hK1, hgm, hgs⟩
  have P0 : SyS W gm gr B1 w1.heap.size gs bs ∧ SyI W gm gr B1 w1.heap.size gs bs xs ord w1 (4, numB (xs.take 4), 4294967295) newM 0 := by
    have hb := HR.out.hb
    have hlt := HR.out.lt
    have hnb := numB_bound (xs.take 4) (fun x hx => HBY.out x (List.mem_of_mem_take hx))
    rw [List.length_take, Nat.min_eq_left h4] at hnb
    have hglt : ∀ j, j < 3 → gs j < w1.heap.size ∧ bs j < w1.heap.size := fun j hj => ⟨blk_lt (hM.M j hj).G, blk_lt (hM.M j hj).R⟩
    have hgmlt := blk_lt hM.G
    refine ⟨⟨⟨by omega, hgmlt⟩, fun j hj => ⟨⟨by have := hgs j hj; omega, (hglt j hj).1⟩, by have := hgs j hj; omega, (hglt j hj).2⟩, hlt, hgr⟩, ⟨hM, HR.out.keep hK1 (by simp), fun j _ => MOk.new, ⟨⟨hnb.1, by have := hnb.2; show numB (xs.take 4) < _; omega⟩, ⟨by show (16777216 : Int) ≤ 4294967295; decide, by show (4294967295 : Int) < 4294967296; decide⟩⟩, .inl rfl, (K0.out.trans (hK1.mono (by simp))).toBelow (Nat.le_refl _) (by simp), Nat.le_refl _⟩⟩
  obtain ⟨B3, hB3⟩ : ∃ B3, w1.heap.size = B3 := ⟨_, rfl⟩
  rw [hB3] at P0
  have PS := Aside0.mk P0.1
  have P1 := Aside0.mk P0.2
  have hWB : Aside0 (W.heap.size ≤ B3) := ⟨by have := P0.1.br; have := P0.1.lr; have := P0.1.lm; omega⟩
  clear P0 hM hK1 hgm hgs hgr hB3 HR K0
  go_wp2_with (fail)
  go_loopw [9, 11] (fun v9 v11 wr => (∃ (f : Nat) (rd : Nat × Int × Int) (ms : Nat → List Int × Int) (cl : Int) (l : List Int) (A : Option Addr) (c : Nat), v9 = .bool true ∧ v11 = .slice A l.length c ∧ Aside0 (f + l.length = most + 1) ∧ Aside0 (SyI W gm gr B1 B3 gs bs xs ord wr rd ms cl) ∧ Aside0 (Kd.R (Kd.int .i64) 3 wr B3 (fun k => B3 ≤ k) (.slice A l.length c) l) ∧ Aside0 (symL xs ord f rd ms cl l = T)) ∨ (v9 = .bool false ∧ ∃ (A : Option Addr) (n c : Nat), v11 = .slice A n c ∧ Aside0 (T = none) ∧ Aside0 (Below W.heap.size W wr))) (fun v9 v11 _ => measV most v9 v11)
  case atStart => exact .inl ⟨most + 1, _, _, _, [], none, 0, rfl, rfl, ⟨rfl⟩, P1, ⟨Kd.R_nil _ _ _ _ _⟩, HT⟩
  case round =>
    rcases hrel with ⟨f, rd, ms, cl, l, A, c, rfl, rfl, hf, hI, hR, hS⟩ | ⟨rfl, A, n, c, rfl, hT, hB⟩
    · have hff := hf.out
      rcases Nat.eq_zero_or_pos f with rfl | hpos
      · have hlt : (most : Int) < l.length := by omega
        go_wp2_with (fail)
        go_ret2
        exact .inr ⟨hS.out.symm, rfl, hI.out.K⟩
      · obtain ⟨f, rfl⟩ : ∃ g, f = g + 1 := ⟨f - 1, by omega⟩
        have hle : (l.length : Int) ≤ most := by omega
        have fNow := Aside0.mk (fun Wx hx => hI.out.now HO.out Wx hx)
        have fTot := Aside0.mk (fun Wx hx => hI.out.total HO.out Wx hx)
        have fFR := Aside0.mk (fun Wx hx => hI.out.findR HO.out Wx hx)
        have fFM := Aside0.mk (fun Wx hx => hI.out.findM HO.out Wx hx)
        have hw := hI.out.which HO.out
        obtain ⟨s, hs⟩ : ∃ s, whichF (ms (askF cl ord)).1 (vOf rd (ms (askF cl ord)).2) = s := ⟨_, rfl⟩
        rw [hs] at hw fFM
        have fSpan := Aside0.mk (fun Wx hx => hI.out.span HO.out Wx hx s hw)
        have fTake := Aside0.mk (fun Wx hx => hI.out.take HO.out hl HBY.out Wx hx s hw)
        have fSaw := Aside0.mk (fun wa h1 h2 h3 => hI.out.saw PS.out HO.out wa s hw h1 h2 h3)
        have hS' := hS.out
        rw [symL] at hS'
        obtain ⟨tot, htot⟩ : ∃ x, (ms (askF cl ord)).2 = x := ⟨_, rfl⟩
        obtain ⟨cs, hcs⟩ : ∃ x, (ms (askF cl ord)).1 = x := ⟨_, rfl⟩
        obtain ⟨k, hk⟩ : ∃ k, askF cl ord = k := ⟨_, rfl⟩
        rw [htot] at hs
        rw [hcs] at hs
        rw [hk] at htot hcs
        simp only [hk, htot, hcs] at fNow fTot fFR fFM fSpan fTake fSaw hS'
        obtain ⟨low, hlow⟩ : ∃ x, (cs.take s).sum = x := ⟨_, rfl⟩
        obtain ⟨sz, hsz⟩ : ∃ x, cs.getD s 0 = x := ⟨_, rfl⟩
        obtain ⟨v, hv⟩ : ∃ x, vOf rd tot = x := ⟨_, rfl⟩
        obtain ⟨fq, hfq⟩ : ∃ x, findQ rd.2.1 rd.2.2 tot = x := ⟨_, rfl⟩
        rw [hlow, hsz] at fSpan fTake
        rw [hv, hfq] at fFR
        rw [hv] at fFM hs
        rw [hfq] at hS'
        have cN := fNow.out wr (Keep.refl _ _)
        go_wp2_with (fail)
        (with_reducible refine cN.mono ?_)
        clear cN
        rintro e wa ⟨rfl, ka⟩
        have cT := fTot.out wa ka
        go_wp2_with (fail)
        (with_reducible refine cT.mono ?_)
        clear cT
        rintro e wb ⟨rfl, kb⟩
        have cF := fFR.out wb kb
        clear ka
        go_wp2_with (fail)
        (with_reducible refine cF.mono ?_)
        clear cF
        rintro e wc ⟨rfl, kc⟩
        have cN := fNow.out wc kc
        clear kb
        go_wp2_with (fail)
        (with_reducible refine cN.mono ?_)
        clear cN
        rintro e wd ⟨rfl, kd⟩
        have cM := fFM.out wd kd
        clear kc
        go_wp2_with (fail)
        (with_reducible refine cM.mono ?_)
        clear cM
        rintro e we ⟨rfl, ke⟩
        have cN := fNow.out we ke
        clear kd
        go_wp2_with (fail)
        (with_reducible refine cN.mono ?_)
        clear cN
        rintro e wf ⟨rfl, kf⟩
        have cS := fSpan.out wf kf
        clear ke
        go_wp2_with (fail)
        (with_reducible refine cS.mono ?_)
        clear cS
        rintro e wg ⟨rfl, kg⟩
        clear kf
        by_cases hfound : fq < tot
        · have hd : decide (fq < tot) = true := decide_eq_true hfound
          rw [hd]
          rw [if_pos hfound] at hS'
          have hvfq : v = fq := by rw [← hv, ← hfq]; unfold vOf; rw [if_pos (by rw [hfq]; exact hfound)]
          rw [hvfq] at hs
          simp only [hs, hlow, hsz] at hS'
          have cK := fTake.out wg kg
          obtain ⟨TK, hTK⟩ : ∃ x, takeF xs rd low sz tot = x := ⟨_, rfl⟩
          rw [hTK] at cK hS'
          have HS' := Aside0.mk hS'
          clear hS' kg hlow hsz hvfq hfq hv hcs htot hk hd hTK
          go_wp2_with (fail)
          (with_reducible refine cK.mono ?_)
          clear cK
          rintro e wt ⟨rfl, kt, hRt⟩
          have HK := Aside0.mk kt
          have HRW := Aside0.mk (show Kd.R (Kd.int .i64) 3 wt B3 (fun k => B3 ≤ k) (.slice A l.length c) l from Kd.R_step hR.out (fun k hk hlt => HK.out.block k hlt (by have := PS.out.lr; have := PS.out.lm; simp only [List.mem_singleton]; omega)))
          have HB3 : Aside0 (B3 ≤ wt.heap.size) := ⟨Nat.le_trans hI.out.b3 HK.out.size⟩
          clear kt
          rcases TK with _ | rd'
          · have HTN : Aside0 (T = none) := ⟨HS'.out.symm⟩
            clear hRt
            go_wp2_with (at_builtin; refine Kd.R_append (Kd.int .i64) (W := wt) (w0 := wt) B3 rfl (.tmp 75) (.tmp 77) 29 3 (.int .i64 0) 8 rfl Tryz.underlying29 Pk.info3 rfl (by decide) (by decide) _ _ (s : Int) [.int .i64 s] (fun k => B3 ≤ k) (fun _ => False) rfl rfl rfl (fun _ hk => hk.elim) (fun k hk => Nat.le_trans HB3.out hk) HRW.out (Below.refl _ _) HB3.out (by have := hI.out; omega) ?_)
            intro v5 w5 hR5 hB5 _ _
            obtain ⟨A5, c5, rfl⟩ := Kd.R_slice hR5
            have aft := hI.out.after PS.out HK.out hB5
            have cW := fSaw.out w5 aft.1 aft.2.1 aft.2.2
            have R5 := Aside0.mk hR5
            have B5 := Aside0.mk hB5
            clear aft hR5 hB5
            go_wp2_with (fail)
            (with_reducible refine cW.mono ?_)
            clear cW
            rintro e ws ⟨rfl, hRs, hBs, hIs⟩
            have RS := Aside0.mk (hRs _ _ _ R5.out)
            have BS := Aside0.mk hBs
            have IS := Aside0.mk hIs
            clear hRs hBs hIs
            go_wp2_with (fail)
            go_roundw
            case rel => exact .inr ⟨rfl, _, _, _, rfl, HTN, BS⟩
            case measure => simp [measV, lenV]; omega
          · obtain ⟨hRd, hRO⟩ := hRt rd' rfl
            have HRD := Aside0.mk hRd
            have HRO := Aside0.mk hRO
            have hS2 := HS'.out
            clear hRt hRd hRO
            by_cases h257 : s = 257
            · have HTS : Aside0 (T = some l) := ⟨by rw [← hS2]; show (if s = 257 then some l else _) = _; rw [if_pos h257]⟩
              have h257i : (s : Int) = 257 := by omega
              clear hS2
              subst h257
              go_wp2_with (fail)
              go_ret2
              exact .inl ⟨_, _, HTS.out, rfl, Kd.R_mono (Kd.R_lower HRW.out hWB.out) (fun _ _ => trivial), (hI.out.after PS.out HK.out (Below.refl _ _)).2.1⟩
            · have HTS : Aside0 (symL xs ord f rd' (sawM ms k s) (clsF s) (l ++ [(s : Int)]) = T) := ⟨by rw [← hS2]; show _ = (if s = 257 then some l else _); rw [if_neg h257]⟩
              have h257i : (s : Int) ≠ 257 := by omega
              clear hS2
              go_wp2_with (at_builtin; refine Kd.R_append (Kd.int .i64) (W := wt) (w0 := wt) B3 rfl (.tmp 75) (.tmp 77) 29 3 (.int .i64 0) 8 rfl Tryz.underlying29 Pk.info3 rfl (by decide) (by decide) _ _ (s : Int) [.int .i64 s] (fun k => B3 ≤ k) (fun _ => False) rfl rfl rfl (fun _ hk => hk.elim) (fun k hk => Nat.le_trans HB3.out hk) HRW.out (Below.refl _ _) HB3.out (by have := hI.out; omega) ?_)
              intro v5 w5 hR5 hB5 _ _
              obtain ⟨A5, c5, rfl⟩ := Kd.R_slice hR5
              have aft := hI.out.after PS.out HK.out hB5
              have cW := fSaw.out w5 aft.1 aft.2.1 aft.2.2
              have R5 := Aside0.mk hR5
              have B5 := Aside0.mk hB5
              clear aft hR5 hB5
              go_wp2_with (fail)
              (with_reducible refine cW.mono ?_)
              clear cW
              rintro e ws ⟨rfl, hRs, hBs, hIs⟩
              have RS := Aside0.mk (hRs _ _ _ R5.out)
              have BS := Aside0.mk hBs
              have IS := Aside0.mk hIs
              clear hRs hBs hIs
              go_wp2_with (fail)
              go_roundw
              case rel => exact .inl ⟨f, rd', _, _, _, A5, c5, rfl, (by rw [List.length_append, List.length_singleton]), ⟨by rw [List.length_append, List.length_singleton]; omega⟩, ⟨IS.out rd' (HRD.out.below B5.out (by have := PS.out.lm; omega)) HRO.out⟩, RS, HTS⟩
              case measure => simp [measV, lenV]; omega
        · have hd : decide (fq < tot) = false := decide_eq_false hfound
          rw [hd]
          rw [if_neg hfound] at hS'
          have HTN : Aside0 (T = none) := ⟨hS'.symm⟩
          have HK := Aside0.mk (show Keep [gr] wr wg from kg.mono (by simp))
          have HRW := Aside0.mk (show Kd.R (Kd.int .i64) 3 wg B3 (fun k => B3 ≤ k) (.slice A l.length c) l from Kd.R_step hR.out (fun k hk hlt => HK.out.block k hlt (by have := PS.out.lr; have := PS.out.lm; simp only [List.mem_singleton]; omega)))
          have HB3 : Aside0 (B3 ≤ wg.heap.size) := ⟨Nat.le_trans hI.out.b3 HK.out.size⟩
          clear hS' kg hlow hsz hfq hv hcs htot hk hd
          go_wp2_with (at_builtin; refine Kd.R_append (Kd.int .i64) (W := wg) (w0 := wg) B3 rfl (.tmp 75) (.tmp 77) 29 3 (.int .i64 0) 8 rfl Tryz.underlying29 Pk.info3 rfl (by decide) (by decide) _ _ (s : Int) [.int .i64 s] (fun k => B3 ≤ k) (fun _ => False) rfl rfl rfl (fun _ hk => hk.elim) (fun k hk => Nat.le_trans HB3.out hk) HRW.out (Below.refl _ _) HB3.out (by have := hI.out; omega) ?_)
          intro v5 w5 hR5 hB5 _ _
          obtain ⟨A5, c5, rfl⟩ := Kd.R_slice hR5
          have aft := hI.out.after PS.out HK.out hB5
          have cW := fSaw.out w5 aft.1 aft.2.1 aft.2.2
          have R5 := Aside0.mk hR5
          have B5 := Aside0.mk hB5
          clear aft hR5 hB5
          go_wp2_with (fail)
          (with_reducible refine cW.mono ?_)
          clear cW
          rintro e ws ⟨rfl, hRs, hBs, hIs⟩
          have RS := Aside0.mk (hRs _ _ _ R5.out)
          have BS := Aside0.mk hBs
          have IS := Aside0.mk hIs
          clear hRs hBs hIs
          go_wp2_with (fail)
          go_roundw
          case rel => exact .inr ⟨rfl, _, _, _, rfl, HTN, BS⟩
          case measure => simp [measV, lenV]; omega
    · have h0 := hB.out
      go_wp2_with (fail)
      go_ret2
      exact .inr ⟨hT.out, rfl, h0⟩
end Go.Proofs.YtbbpplnnegdenaaGreat.Sy
end
section
set_option linter.unusedVariables false
set_option linter.unusedSimpArgs false
namespace Go.Proofs.YtbbpplnnegdenaaGreat.Up
open Go Go.RowKit Go.Shelf Go.Proofs Go.Proofs.YtbbpplnnegdenaaGreatW.PrintWords Go.Proofs.YtbbpplnnegdenaaGreat.So Go.Proofs.YtbbpplnnegdenaaGreat.St Go.Proofs.YtbbpplnnegdenaaGreat.Mo Go.Proofs.YtbbpplnnegdenaaGreat.Pk Go.Proofs.YtbbpplnnegdenaaGreat.Sy
set_option maxHeartbeats 4000000 in
theorem unpack_bad (W : World) (A : Option Addr) (n c : Nat) (ord most : Int) (h : ¬ ((ord = 0 ∨ ord = 1) ∧ 0 ≤ most)) : Calls Tryz.prog 7 #[.slice A n c, .int .i64 ord, .int .i64 most] W fun e W' => e = .returned (.tuple #[.slice none 0 0, .bool false]) ∧ W' = W := by
  have cO := order_calls W ord
  by_cases ho : ord = 0 ∨ ord = 1
  · rw [decide_eq_true ho] at cO
    have hn : most < 0 := by
      rcases Int.lt_or_le most 0 with h2 | h2
      · exact h2
      · exact absurd ⟨ho, h2⟩ h
    clear h ho
    go_enter Tryz.func7, Tryz.ntmps7
    go_wp2_with (fail)
    (with_reducible refine cO.mono ?_)
    rintro e w1 ⟨rfl, rfl⟩
    go_wp2_with (fail)
    go_ret2
    exact ⟨rfl, rfl⟩
  · rw [decide_eq_false ho] at cO
    clear h ho
    go_enter Tryz.func7, Tryz.ntmps7
    go_wp2_with (fail)
    (with_reducible refine cO.mono ?_)
    rintro e w1 ⟨rfl, rfl⟩
    go_wp2_with (fail)
    go_ret2
    exact ⟨rfl, rfl⟩
def SymC (xs : List Int) (ord : Int) (most : Nat) (T : Option (List Int)) : Prop := ∀ (W : World) (A : Option Addr) (cp : Nat), Kd.C (Kd.int .u8) W A xs.length xs →
    Calls Tryz.prog 26 #[.slice A xs.length cp, .int .i64 ord, .int .i64 most] W fun e W' => (∃ l v, T = some l ∧ e = .returned (.tuple #[v, .bool true]) ∧ Kd.R (Kd.int .i64) 3 W' W.heap.size (fun _ => True) v l ∧ Below W.heap.size W W') ∨ (T = none ∧ e = .returned (.tuple #[.slice none 0 0, .bool false]) ∧ Below W.heap.size W W')
theorem symC (xs : List Int) (hl : xs.length ≤ 17592186044416) (hby : ∀ x ∈ xs, 0 ≤ x ∧ x < 256) (ord : Int) (ho : ord = 0 ∨ ord = 1) (most : Nat) (hm : most ≤ 100000) : SymC xs ord most (symF xs ord most) := by
  intro W A cp hC
  unfold symF
  by_cases h4 : xs.length < 4
  · rw [if_pos h4]
    exact (symbols_miss W A xs.length cp ord most h4).mono (fun e W' ⟨h1, h2⟩ => .inr ⟨rfl, h1, h2⟩)
  · rw [if_neg h4]
    exact symbols_hit W A cp xs hC (by omega) hl hby ord ho most hm _ rfl
inductive UpR (xs : List Int) (T : Option (List Int)) (pl : List Int × Bool) (y : List Int) : List Int × Bool → Prop where
  | none : T = none → UpR xs T pl y ([], false)
  | runs : T.isSome → pl.2 = false → UpR xs T pl y ([], false)
  | differ : T.isSome → pl.2 = true → y ≠ xs → UpR xs T pl y ([], false)
  | same : T.isSome → pl.2 = true → y = xs → UpR xs T pl y (Fr.backF Fr.rowL pl.1, true)
set_option maxHeartbeats 8000000 in
theorem unpack_calls (W : World) (A : Option Addr) (c : Nat) (xs : List Int) (hC : Kd.C (Kd.int .u8) W A xs.length xs) (hc : xs.length ≤ c) (ord : Int) (ho : ord = 0 ∨ ord = 1) (most : Int) (hm : 0 ≤ most) (m : Nat) (hmin : min most 100000 = (m : Int)) (T : Option (List Int)) (hS : SymC xs ord m T)
    (pl : List Int × Bool) (hB : ∀ l, T = some l → ∀ (W1 : World) (A1 : Option Addr) (c1 : Nat), Kd.C (Kd.int .i64) W1 A1 l.length l → l.length ≤ c1 → Calls Tryz.prog 27 #[.slice A1 l.length c1, .int .i64 m] W1 fun e w' => ∃ v, e = .returned (.tuple #[v, .bool pl.2]) ∧ Kd.R (Kd.int .u8) 5 w' W1.heap.size (fun _ => True) v pl.1 ∧ Below W1.heap.size W1 w')
    (hpl : T.isSome → pl.2 = true → pl.1.length ≤ 17592186044416 ∧ ∀ x ∈ pl.1, 0 ≤ x ∧ x < 256)
    (y : List Int) (hP : T.isSome → pl.2 = true → ∀ (W1 : World) (A1 : Option Addr) (c1 : Nat), Kd.C (Kd.int .u8) W1 A1 (Fr.backF Fr.rowL pl.1).length (Fr.backF Fr.rowL pl.1) → (Fr.backF Fr.rowL pl.1).length ≤ c1 → Calls Tryz.prog 6 #[.slice A1 (Fr.backF Fr.rowL pl.1).length c1, .int .i64 ord] W1 fun e w' => ∃ v o, e = .returned (.tuple #[v, .bool o]) ∧ Kd.R (Kd.int .u8) 5 w' W1.heap.size (fun _ => True) v y ∧ Below W1.heap.size W1 w')
    (hE : T.isSome → pl.2 = true → ∀ (W1 : World) (A0 : Option Addr) (c0 : Nat) (A1 : Option Addr) (c1 : Nat), Kd.C (Kd.int .u8) W1 A0 y.length y → y.length ≤ c0 → Kd.C (Kd.int .u8) W1 A1 xs.length xs → xs.length ≤ c1 → Calls Tryz.prog 29 #[.slice A0 y.length c0, .slice A1 xs.length c1] W1 fun e w' => e = .returned (.bool (decide (y = xs))) ∧ Drawn0 W1 w') :
    Calls Tryz.prog 7 #[.slice A xs.length c, .int .i64 ord, .int .i64 most] W fun e W' => ∃ v r, e = .returned (.tuple #[v, .bool r.2]) ∧ UpR xs T pl y r ∧ Kd.R (Kd.int .u8) 5 W' W.heap.size (fun _ => True) v r.1 ∧ Below W.heap.size W W' := by
  have cO := order_calls W ord
  rw [decide_eq_true ho] at cO
  have HC := Aside0.mk hC
  have HS := Aside0.mk hS
  have HB := Aside0.mk hB
  have HPL := Aside0.mk hpl
  have HP := Aside0.mk hP
  have HE := Aside0.mk hE
  have cS := hS W A c hC
  have hm0 : ¬ most < 0 := by omega
  clear hC hS hB hpl hP hE ho
  go_enter Tryz.func7, Tryz.ntmps7
  go_wp2_with (fail)
  (with_reducible refine cO.mono ?_)
  clear cO
  rintro e w0 ⟨rfl, rfl⟩
  go_wp2_with (fail)
  (with_reducible refine cS.mono ?_)
  clear cS
  rintro e w1 (⟨l, v1, rfl, rfl, hR1, hB1⟩ | ⟨rfl, rfl, hB1⟩)
  · obtain ⟨A1, c1, rfl, hc1, hC1⟩ := Kd.R_reads hR1
    have cB := HB.out l rfl w1 A1 c1 hC1 hc1
    have B1 := Aside0.mk hB1
    clear hR1 hB1 hC1 hc1
    go_wp2_with (fail)
    (with_reducible refine cB.mono ?_)
    clear cB
    rintro e w2 ⟨v2, rfl, hR2, hB2⟩
    obtain ⟨A2, c2, rfl, hc2, hC2⟩ := Kd.R_reads hR2
    have R2 := Aside0.mk hR2
    have C2 := Aside0.mk hC2
    have B2 := Aside0.mk hB2
    clear hR2 hB2 hC2 hc2
    obtain ⟨pls, plb⟩ := pl
    rcases plb with _ | _
    · go_wp2_with (fail)
      go_ret2
      exact ⟨_, ([], false), rfl, .runs rfl rfl, Kd.R_nil _ _ _ _ _, B1.out.trans ⟨B2.out.os, B2.out.tape, B2.out.output, B2.out.size, fun k hk => B2.out.block k (Nat.lt_of_lt_of_le hk B1.out.size)⟩⟩
    · have hp := HPL.out rfl rfl
      have cF := Fr.back_calls w2 A2 c2 pls C2.out hp.1 hp.2
      have cP := HP.out rfl rfl
      have cE := HE.out rfl rfl
      have CP := Aside0.mk cP
      have CE := Aside0.mk cE
      clear cP cE hp
      go_wp2_with (fail)
      (with_reducible refine cF.mono ?_)
      clear cF
      rintro e w3 ⟨v3, rfl, hR3, hB3⟩
      obtain ⟨A3, c3, rfl, hc3, hC3⟩ := Kd.R_reads hR3
      have cP := CP.out w3 A3 c3 hC3 hc3
      have R3 := Aside0.mk hR3
      have B3 := Aside0.mk hB3
      clear hR3 hB3 hC3 hc3
      go_wp2_with (fail)
      (with_reducible refine cP.mono ?_)
      clear cP
      rintro e w4 ⟨v4, o4, rfl, hR4, hB4⟩
      obtain ⟨A4, c4, rfl, hc4, hC4⟩ := Kd.R_reads hR4
      have b03 : Below w0.heap.size w0 w3 := by
        have b1 := B1.out
        have b2 := B2.out
        have b3 := B3.out
        exact (b1.trans ⟨b2.os, b2.tape, b2.output, b2.size, fun k hk => b2.block k (Nat.lt_of_lt_of_le hk b1.size)⟩).trans ⟨b3.os, b3.tape, b3.output, b3.size, fun k hk => b3.block k (Nat.lt_of_lt_of_le hk (Nat.le_trans b1.size b2.size))⟩
      have b04 : Below w0.heap.size w0 w4 := b03.trans ⟨hB4.os, hB4.tape, hB4.output, hB4.size, fun k hk => hB4.block k (Nat.lt_of_lt_of_le hk b03.size)⟩
      have cE := CE.out w4 A4 c4 A c hC4 hc4 (Kd.C_below HC.out b04) hc
      have B04 := Aside0.mk b04
      have R34 := Aside0.mk (Kd.R_below R3.out hB4)
      have B02 := Aside0.mk (show w0.heap.size ≤ w2.heap.size from Nat.le_trans B1.out.size B2.out.size)
      clear hR4 hC4 hc4 hB4 b03 b04
      go_wp2_with (fail)
      (with_reducible refine cE.mono ?_)
      clear cE
      rintro e w5 ⟨rfl, hD⟩
      obtain ⟨nd, rfl⟩ := hD.out
      by_cases hy : y = xs
      · rw [decide_eq_true hy]
        go_wp2_with (fail)
        go_ret2
        exact ⟨_, (Fr.backF Fr.rowL pls, true), rfl, .same rfl rfl hy, Kd.R_lower (Kd.R_drewN R34.out nd) B02.out, pw_below_drewN B04.out nd⟩
      · rw [decide_eq_false hy]
        go_wp2_with (fail)
        go_ret2
        exact ⟨_, ([], false), rfl, .differ rfl rfl hy, Kd.R_nil _ _ _ _ _, pw_below_drewN B04.out nd⟩
  · go_wp2_with (fail)
    go_ret2
    exact ⟨_, ([], false), rfl, .none rfl, Kd.R_nil _ _ _ _ _, hB1⟩
end Go.Proofs.YtbbpplnnegdenaaGreat.Up
end
section
set_option linter.unusedVariables false
set_option linter.unusedSimpArgs false
namespace Go.Proofs.YtbbpplnnegdenaaGreat.Pm
open Go.Proofs.YtbbpplnnegdenaaGreat.Mo Go.Proofs.YtbbpplnnegdenaaGreat.Mp Go.Proofs.YtbbpplnnegdenaaGreat.Wr Go.Proofs.YtbbpplnnegdenaaGreat.We Go.Proofs.YtbbpplnnegdenaaGreat.Rd Go.Proofs.YtbbpplnnegdenaaGreat.Mk Go.Proofs.YtbbpplnnegdenaaGreat.Pk Go.Proofs.YtbbpplnnegdenaaGreat.Sy Go.Proofs.YtbbpplnnegdenaaGreat.Fr
def valW (s : List Int × Int × Int) : Int := numB s.1 * 4294967296 + s.2.1
theorem numB_endF {bs : List Int} {n : Int} (h : 0 ≤ n ∧ n < 4294967296) : numB (endF bs n) = numB bs * 4294967296 + n := by
  unfold endF
  rw [show bs ++ [n / 16777216, n / 65536 % 256, n / 256 % 256, n % 256] = (((bs ++ [n / 16777216]) ++ [n / 65536 % 256]) ++ [n / 256 % 256]) ++ [n % 256] by simp]
  rw [numB_snoc, numB_snoc, numB_snoc, numB_snoc]
  omega
theorem endF_length (bs : List Int) (n : Int) : (endF bs n).length = bs.length + 4 := by unfold endF; simp
theorem endF_byte {bs : List Int} {n : Int} (hb : ∀ x ∈ bs, 0 ≤ x ∧ x < 256) (h : 0 ≤ n ∧ n < 4294967296) : ∀ x ∈ endF bs n, 0 ≤ x ∧ x < 256 := by
  intro x hx
  unfold endF at hx
  rcases List.mem_append.1 hx with hx | hx
  · exact hb x hx
  · simp only [List.mem_cons, List.not_mem_nil, or_false] at hx
    rcases hx with rfl | rfl | rfl | rfl <;> omega
theorem numB_carR : ∀ (l : List Int), (∀ x ∈ l, 0 ≤ x ∧ x < 256) → numB l.reverse + 1 < 256 ^ l.length → numB (carR l).reverse = numB l.reverse + 1
  | [], _, h => by simp [numB] at h
  | x :: l, hb, h => by
    have hx := hb x List.mem_cons_self
    rw [List.reverse_cons, numB_snoc] at h ⊢
    rw [List.length_cons, Int.pow_succ] at h
    unfold carR
    by_cases e : (x + 1) % 256 = 0
    · rw [if_pos e, List.reverse_cons, numB_snoc, numB_carR l (fun y hy => hb y (List.mem_cons_of_mem _ hy)) (by omega)]
      omega
    · rw [if_neg e, List.reverse_cons, numB_snoc]
      omega
theorem numB_carF {bs : List Int} (hb : ∀ x ∈ bs, 0 ≤ x ∧ x < 256) (h : numB bs + 1 < 256 ^ bs.length) : numB (carF bs) = numB bs + 1 := by
  have := numB_carR bs.reverse (fun x hx => hb x (List.mem_reverse.1 hx)) (by rw [List.reverse_reverse, List.length_reverse]; exact h)
  rw [List.reverse_reverse] at this
  exact this
structure In (xs : List Int) (s : List Int × Int × Int) : Prop where
  len : s.1.length + 4 ≤ xs.length
  lo : valW s ≤ numB (xs.take (s.1.length + 4))
  hi : numB (xs.take (s.1.length + 4)) < valW s + s.2.2
def rdr (xs : List Int) (s : List Int × Int × Int) : Nat × Int × Int := (s.1.length + 4, numB (xs.take (s.1.length + 4)) - valW s, s.2.2)
def Top (s : List Int × Int × Int) : Prop := valW s + s.2.2 ≤ 256 ^ (s.1.length + 4)
theorem valW_shift (bs : List Int) (n r : Int) (hn : 0 ≤ n ∧ n < 4294967296) : valW (bs ++ [n / 16777216], n * 256 % 4294967296, r * 256) = 256 * valW (bs, n, r) := by
  show numB (bs ++ [n / 16777216]) * 4294967296 + n * 256 % 4294967296 = 256 * (numB bs * 4294967296 + n)
  rw [numB_snoc]; omega
theorem Top.sh (k : Nat) : ∀ (bs : List Int) (n r : Int), 0 ≤ n ∧ n < 4294967296 → Top (bs, n, r) → Top (shW k bs n r) := by
  induction k with
  | zero => intro bs n r _ h; exact h
  | succ k ih =>
    intro bs n r hn h
    unfold shW
    by_cases e : r < 16777216
    · rw [if_pos e]
      refine ih _ _ _ (by omega) ?_
      unfold Top at *
      rw [valW_shift bs n r hn]
      show 256 * valW (bs, n, r) + r * 256 ≤ 256 ^ ((bs ++ [n / 16777216]).length + 4)
      rw [List.length_append, List.length_singleton, show bs.length + 1 + 4 = (bs.length + 4) + 1 by omega, Int.pow_succ]
      have h : valW (bs, n, r) + r ≤ 256 ^ (bs.length + 4) := h
      omega
    · rw [if_neg e]; exact h
theorem In.sh {xs : List Int} (hx : ∀ x ∈ xs, 0 ≤ x ∧ x < 256) : ∀ (k : Nat) (bs : List Int) (n r : Int), 0 ≤ n ∧ n < 4294967296 → In xs (shW k bs n r) → In xs (bs, n, r) ∧ rdW xs k (bs.length + 4) (numB (xs.take (bs.length + 4)) - valW (bs, n, r)) r = some (rdr xs (shW k bs n r))
  | 0, bs, n, r, _, h => ⟨h, rfl⟩
  | k + 1, bs, n, r, hn, h => by
    unfold shW at h ⊢
    unfold rdW
    by_cases e : r < 16777216
    · rw [if_pos e] at h ⊢
      rw [if_pos e]
      obtain ⟨hI, hr⟩ := In.sh hx k _ _ _ (by omega) h
      have hl : (bs ++ [n / 16777216]).length = bs.length + 1 := by rw [List.length_append, List.length_singleton]
      have hlen := hI.len
      have hlo := hI.lo
      have hhi := hI.hi
      dsimp only at hlen hlo hhi
      rw [valW_shift bs n r hn] at hlo hhi
      rw [valW_shift bs n r hn] at hr
      rw [hl] at hlen hlo hhi hr
      rw [show bs.length + 1 + 4 = (bs.length + 4) + 1 by omega] at hlo hhi hlen hr
      rw [take_snoc (by omega), numB_snoc] at hlo hhi hr
      have hb := hx (xs.getD (bs.length + 4) 0) (get_mem (by omega))
      rw [if_pos (by omega)]
      refine ⟨⟨by show bs.length + 4 ≤ _; omega, ?_, ?_⟩, ?_⟩
      · show valW (bs, n, r) ≤ numB (xs.take (bs.length + 4)); omega
      · show numB (xs.take (bs.length + 4)) < valW (bs, n, r) + r; omega
      · rw [← hr]; congr 1; omega
    · rw [if_neg e] at h ⊢
      rw [if_neg e]
      exact ⟨h, rfl⟩
theorem put_eq {s : List Int × Int × Int} (h : WOk s) (ht : Top s) {low size total : Int} (h0 : total ≤ 65536) (h1 : 0 ≤ low) (h2 : 1 ≤ size) (h3 : low + size ≤ total) :
    ∃ bs n, putF s low size total = shW 3 bs n (s.2.2 / total * size) ∧ bs.length = s.1.length ∧ (0 ≤ n ∧ n < 4294967296) ∧ ∀ r, valW (bs, n, r) = valW s + s.2.2 / total * low := by
  obtain ⟨hq, hl, hs, hsum⟩ := span_bounds h.r h0 h1 h2 h3
  have hn := h.n
  have hr := h.r
  unfold putF
  by_cases e : s.2.1 + s.2.2 / total * low < 4294967296
  · rw [if_pos e]
    exact ⟨_, _, rfl, rfl, by omega, fun r => by show numB s.1 * 4294967296 + (s.2.1 + _) = numB s.1 * 4294967296 + s.2.1 + _; omega⟩
  · rw [if_neg e]
    refine ⟨_, _, rfl, carF_length _, by omega, fun r => ?_⟩
    have hc : numB (carF s.1) = numB s.1 + 1 := by
      refine numB_carF h.by_ ?_
      have h5 : numB s.1 * 4294967296 + s.2.1 + s.2.2 ≤ 256 ^ (s.1.length + 4) := ht
      rw [Int.pow_add] at h5
      have h6 : (256 : Int) ^ 4 = 4294967296 := by decide
      rw [h6] at h5
      omega
    show numB (carF s.1) * 4294967296 + (s.2.1 + s.2.2 / total * low - 4294967296) = numB s.1 * 4294967296 + s.2.1 + _
    rw [hc]; omega
theorem Top.put {s : List Int × Int × Int} (h : WOk s) (ht : Top s) {low size total : Int} (h0 : total ≤ 65536) (h1 : 0 ≤ low) (h2 : 1 ≤ size) (h3 : low + size ≤ total) : Top (putF s low size total) := by
  obtain ⟨bs, n, e, hl, hn, hv⟩ := put_eq h ht h0 h1 h2 h3
  obtain ⟨hq, hl0, hs, hsum⟩ := span_bounds h.r h0 h1 h2 h3
  rw [e]
  refine Top.sh _ _ _ _ hn ?_
  unfold Top at *
  rw [hv]
  show valW s + _ + s.2.2 / total * size ≤ 256 ^ (bs.length + 4)
  rw [hl]; omega
theorem In.put {xs : List Int} (hx : ∀ x ∈ xs, 0 ≤ x ∧ x < 256) {s : List Int × Int × Int} (h : WOk s) (ht : Top s) {low size total : Int} (h0 : total ≤ 65536) (h1 : 0 ≤ low) (h2 : 1 ≤ size) (h3 : low + size ≤ total) (hi : In xs (putF s low size total)) :
    In xs s ∧ takeF xs (rdr xs s) low size total = some (rdr xs (putF s low size total)) ∧ low ≤ findQ (rdr xs s).2.1 (rdr xs s).2.2 total ∧ findQ (rdr xs s).2.1 (rdr xs s).2.2 total < low + size := by
  obtain ⟨bs, n, e, hl, hn, hv⟩ := put_eq h ht h0 h1 h2 h3
  obtain ⟨hq, hl0, hs, hsum⟩ := span_bounds h.r h0 h1 h2 h3
  rw [e] at hi ⊢
  obtain ⟨hI, hr⟩ := In.sh hx 3 bs n _ hn hi
  have hlen := hI.len
  have hlo := hI.lo
  have hhi := hI.hi
  dsimp only at hlen hlo hhi
  rw [hv] at hlo hhi hr
  rw [hl] at hlen hlo hhi hr
  have hqs : s.2.2 / total * (low + size) = s.2.2 / total * low + s.2.2 / total * size := Int.mul_add _ _ _
  have hlo2 : s.2.2 / total * low ≤ numB (xs.take (s.1.length + 4)) - valW s := by omega
  have hhi2 : numB (xs.take (s.1.length + 4)) - valW s < s.2.2 / total * (low + size) := by omega
  refine ⟨⟨hlen, by omega, by omega⟩, ?_, ?_, ?_⟩
  · unfold takeF rdr
    dsimp only
    rw [if_neg (by omega), ← Int.sub_sub] at *
    exact hr
  · unfold findQ rdr
    dsimp only
    refine Int.le_ediv_of_mul_le (by omega) ?_
    rw [Int.mul_comm]; exact hlo2
  · unfold findQ rdr
    dsimp only
    refine Int.ediv_lt_of_lt_mul (by omega) ?_
    rw [Int.mul_comm]; exact hhi2
theorem whichF_eq : ∀ (cs : List Int) (v : Int) (s : Nat), (∀ x ∈ cs, 1 ≤ x) → s < cs.length → (cs.take s).sum ≤ v → v < (cs.take s).sum + cs.getD s 0 → whichF cs v = s
  | [], v, s, _, hs, _, _ => by simp at hs
  | x :: xs, v, 0, hp, _, h0, h1 => by
    unfold whichF
    rw [if_pos (by simpa using h1)]
  | x :: xs, v, s + 1, hp, hs, h0, h1 => by
    rw [List.take_succ_cons, List.sum_cons] at h0 h1
    rw [List.getD_cons_succ] at h1
    have h2 := (take_le (l := xs) (fun y hy => by have := hp y (List.mem_cons_of_mem _ hy); omega) s).1
    unfold whichF
    rw [if_neg (by omega), whichF_eq xs (v - x) s (fun y hy => hp y (List.mem_cons_of_mem _ hy)) (by rw [List.length_cons] at hs; omega) (by omega) (by omega)]
structure Good (st : St) : Prop where
  w : WOk st.1
  top : Top st.1
  ms : ∀ j, j < 3 → MOk (st.2.1 j)
  cl : st.2.2 = 0 ∨ st.2.2 = 1 ∨ st.2.2 = 2
theorem Good.new : Good st0 := ⟨WOk.new, by show numB [] * 4294967296 + 0 + 4294967295 ≤ 256 ^ (0 + 4); decide, fun _ _ => MOk.new, .inl rfl⟩
theorem Good.step {st : St} (h : Good st) {ord : Int} (ho : ord = 0 ∨ ord = 1) {s : Int} (hs : 0 ≤ s ∧ s < 258) : Good (stepP ord st s) := by
  have ha := askF_lt h.cl ho
  have hm := h.ms _ ha
  have hsp := hm.span (s := s.toNat) (by omega)
  have hle := hm.le
  refine ⟨(h.w.put (by omega) hsp.1 hsp.2.1 hsp.2.2).1, Top.put h.w h.top (by omega) hsp.1 hsp.2.1 hsp.2.2, ?_, clsF_cases _⟩
  intro j hj
  show MOk (sawM st.2.1 (askF st.2.2 ord) s.toNat j)
  unfold sawM
  split
  · exact hm.saw (by omega)
  · exact h.ms j hj
theorem In.step {xs : List Int} (hx : ∀ x ∈ xs, 0 ≤ x ∧ x < 256) {st : St} (h : Good st) {ord : Int} (ho : ord = 0 ∨ ord = 1) {s : Int} (hs : 0 ≤ s ∧ s < 258) (hi : In xs (stepP ord st s).1) :
    In xs st.1 ∧ ∀ f l, symL xs ord (f + 1) (rdr xs st.1) st.2.1 st.2.2 l = if s = 257 then some l else symL xs ord f (rdr xs (stepP ord st s).1) (stepP ord st s).2.1 (stepP ord st s).2.2 (l ++ [s]) := by
  obtain ⟨n, rfl⟩ : ∃ n : Nat, s = n := ⟨s.toNat, by omega⟩
  have ha := askF_lt h.cl ho
  have hm := h.ms _ ha
  have hn : n < 258 := by omega
  have hsp := hm.span (s := n) hn
  have hle := hm.le
  have hi' : In xs (putF st.1 ((st.2.1 (askF st.2.2 ord)).1.take n).sum ((st.2.1 (askF st.2.2 ord)).1.getD n 0) (st.2.1 (askF st.2.2 ord)).2) := hi
  obtain ⟨h1, h2, h3, h4⟩ := In.put hx h.w h.top (by omega) hsp.1 hsp.2.1 hsp.2.2 hi'
  refine ⟨h1, fun f l => ?_⟩
  have hw := whichF_eq (st.2.1 (askF st.2.2 ord)).1 _ n hm.pos (by rw [hm.len]; exact hn) h3 h4
  rw [symL, if_pos (by omega), hw, h2, Option.bind_some]
  by_cases e : n = 257
  · rw [if_pos e, if_pos (by omega)]
  · rw [if_neg e, if_neg (by omega)]
    rfl
theorem packL_snoc (ord : Int) (st : St) (s : Int) (l : List Int) : packL ord st (s :: l) = packL ord (stepP ord st s) l := rfl
theorem Good.packL {ord : Int} (ho : ord = 0 ∨ ord = 1) : ∀ {l : List Int} {st : St}, Good st → (∀ s ∈ l, 0 ≤ s ∧ s < 258) → Good (packL ord st l)
  | [], st, h, _ => h
  | s :: l, st, h, hl => Good.packL ho (l := l) (h.step ho (hl s List.mem_cons_self)) (fun x hx => hl x (List.mem_cons_of_mem _ hx))
theorem symL_back {xs : List Int} (hx : ∀ x ∈ xs, 0 ≤ x ∧ x < 256) {ord : Int} (ho : ord = 0 ∨ ord = 1) : ∀ (syms : List Int) (st : St), Good st → (∀ s ∈ syms, 0 ≤ s ∧ s < 257) → In xs (packL ord st (syms ++ [257])).1 →
    In xs st.1 ∧ ∀ f l, syms.length < f → symL xs ord f (rdr xs st.1) st.2.1 st.2.2 l = some (l ++ syms)
  | [], st, h, _, hi => by
    obtain ⟨h1, h2⟩ := In.step hx h ho (s := 257) (by decide) hi
    refine ⟨h1, fun f l hf => ?_⟩
    obtain ⟨f, rfl⟩ : ∃ g, f = g + 1 := ⟨f - 1, by simp at hf; omega⟩
    rw [h2, if_pos rfl, List.append_nil]
  | s :: syms, st, h, hs, hi => by
    have hsb := hs s List.mem_cons_self
    have hg := h.step ho (s := s) (by omega)
    obtain ⟨h3, h4⟩ := symL_back hx ho syms (stepP ord st s) hg (fun x hx => hs x (List.mem_cons_of_mem _ hx)) hi
    obtain ⟨h1, h2⟩ := In.step hx h ho (s := s) (by omega) h3
    refine ⟨h1, fun f l hf => ?_⟩
    rw [List.length_cons] at hf
    obtain ⟨f, rfl⟩ : ∃ g, f = g + 1 := ⟨f - 1, by omega⟩
    rw [h2, if_neg (by omega), h4 f _ (by omega), List.append_assoc]; rfl
theorem packS_byte {ord : Int} (ho : ord = 0 ∨ ord = 1) {syms : List Int} (hs : ∀ s ∈ syms, 0 ≤ s ∧ s < 258) : ∀ x ∈ packS ord syms, 0 ≤ x ∧ x < 256 := by
  have h := Good.packL ho Good.new hs
  exact endF_byte h.w.by_ h.w.n
theorem symF_packS {ord : Int} (ho : ord = 0 ∨ ord = 1) {syms : List Int} (hs : ∀ s ∈ syms, 0 ≤ s ∧ s < 257) {most : Nat} (hm : syms.length ≤ most) : symF (packS ord (syms ++ [257])) ord most = some syms := by
  have hs2 : ∀ s ∈ syms ++ [257], 0 ≤ s ∧ s < 258 := by
    intro s h
    rcases List.mem_append.1 h with h | h
    · have := hs s h; omega
    · rw [List.mem_singleton.1 h]; decide
  have h := Good.packL ho Good.new hs2
  have hby := packS_byte ho hs2
  have hl : (packS ord (syms ++ [257])).length = (packL ord st0 (syms ++ [257])).1.1.length + 4 := endF_length _ _
  have hv : numB (packS ord (syms ++ [257])) = valW (packL ord st0 (syms ++ [257])).1 := numB_endF h.w.n
  have hr := h.w.r
  have hin : In (packS ord (syms ++ [257])) (packL ord st0 (syms ++ [257])).1 := by
    refine ⟨by omega, ?_, ?_⟩
    · rw [← hl, List.take_length]; omega
    · rw [← hl, List.take_length]; omega
  obtain ⟨h1, h2⟩ := symL_back hby ho syms st0 Good.new hs hin
  unfold symF
  rw [if_neg (by omega)]
  have := h2 (most + 1) [] (by omega)
  rw [List.nil_append] at this
  rw [← this]
  unfold rdr valW st0
  simp [numB]
theorem symL_ok {xs : List Int} {ord : Int} : ∀ (f : Nat) (rd : Nat × Int × Int) (ms : Nat → List Int × Int) (cl : Int) (l t : List Int), symL xs ord f rd ms cl l = some t → t.length < l.length + f
  | 0, _, _, _, _, _, h => by simp [symL] at h
  | f + 1, rd, ms, cl, l, t, h => by
    unfold symL at h
    split at h
    · obtain ⟨rd', h1, h⟩ := Option.bind_eq_some_iff.1 h
      split at h
      · injection h with h; subst h; omega
      · have := symL_ok f _ _ _ _ _ h
        rw [List.length_append, List.length_singleton] at this; omega
    · cases h
theorem backF_moveF : ∀ (bs l : List Int), l.Perm rowL → (∀ x ∈ bs, 0 ≤ x ∧ x < 256) → backF l (moveF l bs) = bs
  | [], _, _, _ => rfl
  | c :: bs, l, hl, hb => by
    have hc := hb c List.mem_cons_self
    have hi := idx_lt hl hc
    have hle := row_len hl
    rw [moveF, backF, Int.toNat_natCast, backF_moveF bs _ ((toFront_perm (by omega)).trans hl) (fun x hx => hb x (List.mem_cons_of_mem _ hx))]
    congr 1
    have hm := row_mem hl hc
    rw [List.getD_eq_getElem?_getD, List.getElem?_eq_getElem (List.idxOf_lt_length_of_mem hm)]
    show l[l.idxOf c] = c
    exact List.getElem_idxOf _
theorem moveF_byte : ∀ (bs l : List Int), l.Perm rowL → (∀ x ∈ bs, 0 ≤ x ∧ x < 256) → ∀ y ∈ moveF l bs, 0 ≤ y ∧ y < 256
  | [], _, _, _, y, hy => by simp [moveF] at hy
  | c :: bs, l, hl, hb, y, hy => by
    have hc := hb c List.mem_cons_self
    have hi := idx_lt hl hc
    have hle := row_len hl
    rw [moveF] at hy
    rcases List.mem_cons.1 hy with rfl | hy
    · omega
    · exact moveF_byte bs _ ((toFront_perm (by omega)).trans hl) (fun x hx => hb x (List.mem_cons_of_mem _ hx)) y hy
theorem backF_byte : ∀ (bs l : List Int), l.Perm rowL → (∀ x ∈ bs, 0 ≤ x ∧ x < 256) → ∀ y ∈ backF l bs, 0 ≤ y ∧ y < 256
  | [], _, _, _, y, hy => by simp [backF] at hy
  | c :: bs, l, hl, hb, y, hy => by
    have hc := hb c List.mem_cons_self
    have hle := row_len hl
    rw [backF] at hy
    rcases List.mem_cons.1 hy with rfl | hy
    · exact row_byte hl _ (get_mem (by omega))
    · exact backF_byte bs _ ((toFront_perm (by omega)).trans hl) (fun x hx => hb x (List.mem_cons_of_mem _ hx)) y hy
def toldN (n : Nat) : List Int := if n = 0 then [] else (((n - 1) % 2 : Nat) : Int) :: toldN ((n - 1) / 2)
termination_by n
decreasing_by omega
theorem toldN_zero : toldN 0 = [] := by rw [toldN]; rfl
theorem toldN_pos {n : Nat} (h : 0 < n) : toldN n = (((n - 1) % 2 : Nat) : Int) :: toldN ((n - 1) / 2) := by rw [toldN, if_neg (by omega)]
def tellF : Nat → List Int → List Int
  | n, [] => toldN n
  | n, c :: cs => if c = 0 then tellF (n + 1) cs else toldN n ++ (c + 1) :: tellF 0 cs
theorem toldN_ok (n : Nat) : (toldN n).length ≤ n ∧ ∀ x ∈ toldN n, 0 ≤ x ∧ x < 2 := by
  induction n using Nat.strongRecOn with
  | _ n ih =>
    rcases Nat.eq_zero_or_pos n with rfl | hp
    · rw [toldN_zero]; exact ⟨Nat.le_refl _, by simp⟩
    · rw [toldN_pos hp]
      have := ih ((n - 1) / 2) (by omega)
      refine ⟨by rw [List.length_cons]; omega, fun x hx => ?_⟩
      rcases List.mem_cons.1 hx with rfl | hx
      · omega
      · exact this.2 x hx
theorem tellF_ok : ∀ (bs : List Int) (n : Nat), (∀ x ∈ bs, 0 ≤ x ∧ x < 256) → (tellF n bs).length ≤ n + bs.length ∧ ∀ x ∈ tellF n bs, 0 ≤ x ∧ x < 257
  | [], n, _ => ⟨(toldN_ok n).1, fun x hx => by have := (toldN_ok n).2 x hx; omega⟩
  | c :: cs, n, h => by
    have hc := h c List.mem_cons_self
    unfold tellF
    by_cases e : c = 0
    · rw [if_pos e]
      have := tellF_ok cs (n + 1) (fun x hx => h x (List.mem_cons_of_mem _ hx))
      exact ⟨by rw [List.length_cons]; omega, this.2⟩
    · rw [if_neg e]
      have h1 := tellF_ok cs 0 (fun x hx => h x (List.mem_cons_of_mem _ hx))
      have h2 := toldN_ok n
      refine ⟨by rw [List.length_append, List.length_cons, List.length_cons]; omega, fun x hx => ?_⟩
      rcases List.mem_append.1 hx with hx | hx
      · have := h2.2 x hx; omega
      · rcases List.mem_cons.1 hx with rfl | hx
        · omega
        · exact h1.2 x hx
def backB (most : Nat) : List Int → List Int → Nat → List Int × Bool
  | [], b, _ => (b, true)
  | x :: l, b, p =>
    if x < 0 ∨ 257 ≤ x then ([], false)
    else if 2 ≤ x then (if most < b.length + 1 then ([], false) else backB most l (b ++ [x - 1]) 1)
    else if most < p ∨ most < b.length + (x.toNat + 1) * p then ([], false)
    else backB most l (b ++ List.replicate ((x.toNat + 1) * p) 0) (p * 2)
theorem backB_told (most : Nat) (l2 : List Int) (n : Nat) : ∀ (b : List Int) (p : Nat), b.length + n * p ≤ most → ∃ p', backB most (toldN n ++ l2) b p = backB most l2 (b ++ List.replicate (n * p) 0) p' := by
  induction n using Nat.strongRecOn with
  | _ n ih =>
    intro b p hb
    rcases Nat.eq_zero_or_pos n with rfl | hp
    · rw [toldN_zero]; exact ⟨p, by simp⟩
    · obtain ⟨x, hx⟩ : ∃ x, (n - 1) % 2 = x := ⟨_, rfl⟩
      obtain ⟨m, hm⟩ : ∃ m, (n - 1) / 2 = m := ⟨_, rfl⟩
      have hn : n * p = (x + 1) * p + m * (p * 2) := by
        rw [show n = (x + 1) + m * 2 by omega, Nat.add_mul, Nat.mul_assoc, Nat.mul_comm 2 p]
      have h1 : p ≤ n * p := Nat.le_mul_of_pos_left p hp
      obtain ⟨p', e⟩ := ih m (by omega) (b ++ List.replicate ((x + 1) * p) 0) (p * 2) (by rw [List.length_append, List.length_replicate]; omega)
      refine ⟨p', ?_⟩
      rw [toldN_pos hp, hx, hm, List.cons_append, backB, if_neg (by omega), if_neg (by omega), Int.toNat_natCast, if_neg (by omega), e, List.append_assoc, List.replicate_append_replicate, ← hn]
theorem backB_tell (most : Nat) : ∀ (bs : List Int) (n : Nat) (b : List Int), (∀ x ∈ bs, 0 ≤ x ∧ x < 256) → b.length + n + bs.length ≤ most → backB most (tellF n bs) b 1 = (b ++ List.replicate n 0 ++ bs, true)
  | [], n, b, _, h => by
    rw [List.length_nil] at h
    obtain ⟨p', e⟩ := backB_told most [] n b 1 (by omega)
    rw [List.append_nil] at e
    rw [tellF, e, backB, Nat.mul_one, List.append_nil]
  | c :: cs, n, b, hb, h => by
    have hc := hb c List.mem_cons_self
    rw [List.length_cons] at h
    unfold tellF
    by_cases e : c = 0
    · subst e
      rw [if_pos rfl, backB_tell most cs (n + 1) b (fun x hx => hb x (List.mem_cons_of_mem _ hx)) (by omega), List.replicate_succ']
      simp
    · rw [if_neg e]
      obtain ⟨p', e1⟩ := backB_told most ((c + 1) :: tellF 0 cs) n b 1 (by omega)
      rw [e1, backB, if_neg (by omega), if_pos (by omega), Nat.mul_one, if_neg (by rw [List.length_append, List.length_replicate]; omega), Int.add_sub_cancel,
        backB_tell most cs 0 _ (fun x hx => hb x (List.mem_cons_of_mem _ hx)) (by rw [List.length_append, List.length_append, List.length_replicate, List.length_singleton]; omega)]
      simp
theorem backB_ok (most : Nat) : ∀ (l b : List Int) (p : Nat), (∀ x ∈ b, 0 ≤ x ∧ x < 256) → b.length ≤ most → (backB most l b p).1.length ≤ most ∧ ∀ x ∈ (backB most l b p).1, 0 ≤ x ∧ x < 256
  | [], b, p, hb, hl => ⟨hl, hb⟩
  | x :: l, b, p, hb, hl => by
    unfold backB
    split
    · exact ⟨Nat.zero_le _, by simp⟩
    · split
      · split
        · exact ⟨Nat.zero_le _, by simp⟩
        · refine backB_ok most l _ _ (fun y hy => ?_) (by rw [List.length_append, List.length_singleton]; omega)
          rcases List.mem_append.1 hy with hy | hy
          · exact hb y hy
          · rw [List.mem_singleton.1 hy]; omega
      · split
        · exact ⟨Nat.zero_le _, by simp⟩
        · refine backB_ok most l _ _ (fun y hy => ?_) (by rw [List.length_append, List.length_replicate]; omega)
          rcases List.mem_append.1 hy with hy | hy
          · exact hb y hy
          · rw [List.eq_of_mem_replicate hy]; decide
end Go.Proofs.YtbbpplnnegdenaaGreat.Pm
end
section
set_option linter.unusedVariables false
set_option linter.unusedSimpArgs false
namespace Go.Proofs.YtbbpplnnegdenaaGreat
open Go.RowKit Go.Proofs.YtbbpplnnegdenaaGreatW.PrintWords Go.Proofs.YtbbpplnnegdenaaGreatW.PrintLast Go.Proofs.YtbbpplnnegdenaaGreatW.PrintMore
theorem lit_reads (kd : IntKind) (W : World) (e : TypeId) (xs : List Int) (fr : Nat × Nat) (hn : xs.length ≤ 9223372036854775807) {C : Array Value} (hC : (xs.map (Value.int kd)).toArray = C) :
    Kd.C (Kd.int kd) (W.alloc (.cells C e fr)) (some ⟨W.heap.size, 0, none⟩) xs.length xs := by
  subst hC
  refine Kd.C_of_reads (h1 := fun _ => rfl) (d := 0) ⟨rfl, hn, fun _ => ⟨_, rfl, fun j hj => ?_⟩⟩
  rw [add_plain, World.cell?_alloc_mark]
  simp [List.getD_eq_getElem?_getD, List.getElem?_eq_getElem hj]
end Go.Proofs.YtbbpplnnegdenaaGreat
end
section
namespace Go.Proofs.YtbbpplnnegdenaaGreat.PTopPipe
open Go.RowKit Go.Proofs.YtbbpplnnegdenaaGreatW.PrintWords Go.Proofs.YtbbpplnnegdenaaGreatW.PrintLast Go.Proofs.YtbbpplnnegdenaaGreatW.PrintMore
attribute [local go_sem] max2_int min2_int max_two min_two max_three min_three max_four min_four
set_option linter.unusedVariables false
set_option linter.unusedSimpArgs false
def errW : Option Int → Value
  | none => .nilIface
  | some c => .iface 0 (.int .i64 c)
theorem errW_none : errW none = .nilIface := rfl
theorem errW_some (c : Int) : errW (some c) = .iface 0 (.int .i64 c) := rfl
theorem info3 : (Tryz.prog.info? 3).map (fun i => (i.zero, i.size, i.bytes)) = some (some (.int .i64 0), 1, 8) := by kernel_rfl
theorem info4 : (Tryz.prog.info? 4).map (fun i => (i.zero, i.size, i.bytes)) = some (some (.bool false), 1, 1) := by kernel_rfl
theorem info5 : (Tryz.prog.info? 5).map (fun i => (i.zero, i.size, i.bytes)) = some (some (.int .u8 0), 1, 1) := by kernel_rfl
end Go.Proofs.YtbbpplnnegdenaaGreat.PTopPipe
end
section
namespace Go.Proofs.YtbbpplnnegdenaaGreat.PTopPipe
open Go.RowKit Go.Proofs.YtbbpplnnegdenaaGreatW.PrintWords Go.Proofs.YtbbpplnnegdenaaGreatW.PrintLast Go.Proofs.YtbbpplnnegdenaaGreatW.PrintMore
attribute [local go_sem] max2_int min2_int max_two min_two max_three min_three max_four min_four
set_option linter.unusedVariables false
set_option linter.unusedSimpArgs false
def pipe_isOrder.f (a0 : Int) : Option (Bool) := if a0 = 0 then (some true) else (some (a0 == 1))
set_option maxHeartbeats 8000000 in
set_option maxRecDepth 100000 in
theorem pipe_isOrder.calls (a0 : Int) (r : Bool) (w : World) (h : pipe_isOrder.f a0 = some r) :
    Calls Tryz.prog 15 #[.int .i64 a0] w fun e w' => e = .returned (.bool r) ∧ Drawn0 w w' := by
 have H := h
 clear h
 unfold pipe_isOrder.f at H
 by_cases c2 : a0 = 0
 ·rw [if_pos c2] at H
  have c2b0 : (a0 == 0) = true := beq_iff_eq.mpr c2
  have c2b1 : (a0 != 0) = false := bne_eq_false_iff_eq.mpr c2
  clear c2
  obtain rfl := Option.some.inj H
  go_enter Tryz.func15, Tryz.ntmps15
  go_wp2
  go_ret
  exact ⟨sD, dD⟩
 ·rw [if_neg c2] at H
  have c2b0 : (a0 == 0) = false := beq_eq_false_iff_ne.mpr c2
  have c2b1 : (a0 != 0) = true := bne_iff_ne.mpr c2
  obtain rfl := Option.some.inj H
  go_enter Tryz.func15, Tryz.ntmps15
  go_wp2
  go_ret
  exact ⟨sD, dD⟩
def IsS87 (w0 W : World) (g : Nat) (f0 : List Int) (f1 : Int) (f2 : Int) : Prop := ∃ A0 c0, W.heap[g]? = some (.cells #[.slice A0 f0.length c0, .int .u64 f1, .int .u64 f2] 87 (0, 0)) ∧ w0.heap.size ≤ g ∧ Kd.C (Kd.int .u8) w0 A0 f0.length f0
theorem IsS87.grown {w0 W : World} {g : Nat} {f0 : List Int} {f1 : Int} {f2 : Int} {W1 : World} {row : Option Nat} (h : IsS87 w0 W g f0 f1 f2) (hw : W.grownBy W1 row) (hne : some g ≠ row) : IsS87 w0 W1 g f0 f1 f2 := by
  obtain ⟨A0, c0, hb, hg, hr0⟩ := h
  exact ⟨A0, c0, blk_grown hb hw hne, hg, hr0⟩
theorem IsS87.fresh {w0 W : World} {g : Nat} {f0 : List Int} {f1 : Int} {f2 : Int} (h : IsS87 w0 W g f0 f1 f2) : ∀ k, W.heap.size ≤ k → k ≠ g := by
  obtain ⟨A0, c0, hb, hg, hr0⟩ := h
  exact Kd.freshB hb
theorem IsS87.kept {w0 W : World} {g : Nat} {f0 : List Int} {f1 : Int} {f2 : Int} {W1 : World} {S : Nat → Prop} (h : IsS87 w0 W g f0 f1 f2) (hk : Kept W W1 S) (hne : ¬ S g) : IsS87 w0 W1 g f0 f1 f2 := by
  obtain ⟨A0, c0, hb, hg, hr0⟩ := h
  exact ⟨A0, c0, blk_kept hb hk hne, hg, hr0⟩
theorem IsS87.below {w0 W : World} {g : Nat} {f0 : List Int} {f1 : Int} {f2 : Int} {W1 : World} (h : IsS87 w0 W g f0 f1 f2) (hw : Below W.heap.size W W1) : IsS87 w0 W1 g f0 f1 f2 := h.grown (grown_of_below hw none) (by simp)
theorem IsS87.alloc {w0 W : World} {g : Nat} {f0 : List Int} {f1 : Int} {f2 : Int} (h : IsS87 w0 W g f0 f1 f2) (o : Obj) : IsS87 w0 (W.alloc o) g f0 f1 f2 := h.below (below_alloc (Below.refl _ _) o)
theorem IsS87.drewN {w0 W : World} {g : Nat} {f0 : List Int} {f1 : Int} {f2 : Int} (h : IsS87 w0 W g f0 f1 f2) (m : Nat) : IsS87 w0 (W.drewN m) g f0 f1 f2 := h
theorem IsS87.drew {w0 W : World} {g : Nat} {f0 : List Int} {f1 : Int} {f2 : Int} (h : IsS87 w0 W g f0 f1 f2) : IsS87 w0 W.drew g f0 f1 f2 := h
theorem IsS87.at_ {w0 W : World} {g : Nat} {f0 : List Int} {f1 : Int} {f2 : Int} {w' : World} {m : Nat} (hq : W.drewN m = w') (h : IsS87 w0 W g f0 f1 f2) : IsS87 w0 w' g f0 f1 f2 := by subst hq; exact IsS87.drewN h m
theorem IsS87.apart {w0 W : World} {g : Nat} {f0 : List Int} {f1 : Int} {f2 : Int} {α : Type} {d : Kd α} {e : Nat} {base : Nat} {ok : Nat → Prop} {v : Value} {xs : List α} (h : IsS87 w0 W g f0 f1 f2) (ho : d.R e W base ok v xs) (ht : ∀ q, q ∈ e :: d.E → q ≠ 87) : d.R e W base (fun k => ok k ∧ k ≠ g) v xs := by
  obtain ⟨A0, c0, hb, hg, hr0⟩ := h
  exact Kd.R_types ho hb ht
theorem IsS87.own_ne {w0 W : World} {g : Nat} {f0 : List Int} {f1 : Int} {f2 : Int} {α : Type} {d : Kd α} {e : Nat} {base : Nat} {ok : Nat → Prop} {v : Value} {xs : List α} (h : IsS87 w0 W g f0 f1 f2) (ho : d.R e W base ok v xs) (ht : e ≠ 87) : some g ≠ v.ownBlock := by
  obtain ⟨A0, c0, hb, hg, hr0⟩ := h
  exact Kd.R_ne ho hb ht
theorem IsS87.lt {w0 W : World} {g : Nat} {f0 : List Int} {f1 : Int} {f2 : Int} (h : IsS87 w0 W g f0 f1 f2) : g < W.heap.size := by
  obtain ⟨A0, c0, hb, hg, hr0⟩ := h
  exact blk_lt hb
theorem IsS87.ge {w0 W : World} {g : Nat} {f0 : List Int} {f1 : Int} {f2 : Int} (h : IsS87 w0 W g f0 f1 f2) : w0.heap.size ≤ g := by
  obtain ⟨A0, c0, hb, hg, hr0⟩ := h
  exact hg
theorem IsS87.far {w0 W : World} {g : Nat} {f0 : List Int} {f1 : Int} {f2 : Int} {p : Addr} (h : IsS87 w0 W g f0 f1 f2) (hne : g ≠ p.block) (u : Value) : IsS87 w0 (W.setCell p u) g f0 f1 f2 := by
  obtain ⟨A0, c0, hb, hg, hr0⟩ := h
  exact ⟨A0, c0, blk_far hb hne u, hg, hr0⟩
theorem IsS87.set_1 {w0 W : World} {g : Nat} {f0 : List Int} {f1 : Int} {f2 : Int} (h : IsS87 w0 W g f0 f1 f2) (x : Int) : IsS87 w0 (W.setCell ⟨g, 1, none⟩ (.int .u64 x)) g f0 x f2 := by
  obtain ⟨A0, c0, hb, hg, hr0⟩ := h
  exact ⟨A0, c0, by simpa using blk_set hb 1 (.int .u64 x), hg, hr0⟩
theorem IsS87.set_2 {w0 W : World} {g : Nat} {f0 : List Int} {f1 : Int} {f2 : Int} (h : IsS87 w0 W g f0 f1 f2) (x : Int) : IsS87 w0 (W.setCell ⟨g, 2, none⟩ (.int .u64 x)) g f0 f1 x := by
  obtain ⟨A0, c0, hb, hg, hr0⟩ := h
  exact ⟨A0, c0, by simpa using blk_set hb 2 (.int .u64 x), hg, hr0⟩
theorem IsS87.new (w0 W : World) (A0 : Option Addr) (c0 : Nat) (f0 : List Int) (f1 : Int) (f2 : Int) (hB : Below w0.heap.size w0 W) (hr0 : Kd.C (Kd.int .u8) w0 A0 f0.length f0) : IsS87 w0 (W.alloc (.cells #[.slice A0 f0.length c0, .int .u64 f1, .int .u64 f2] 87)) W.heap.size f0 f1 f2 := ⟨A0, c0, by simpa using heap_alloc_new W _, hB.size, hr0⟩
def coder_NewWriter.f  : Option (List Int × Int × Int) := some (([] : List Int), 0, 4294967295)
set_option maxHeartbeats 8000000 in
set_option maxRecDepth 100000 in
theorem coder_NewWriter.calls  (r1 : List Int) (r2 : Int) (r3 : Int) (w0 w : World) (hB : Below w0.heap.size w0 w) (h : coder_NewWriter.f  = some (r1, r2, r3)) :
    Calls Tryz.prog 17 #[] w fun e w' => ∃ g_ : Nat, e = .returned (.pointer (some ⟨g_, 0, none⟩)) ∧ IsS87 w0 w' g_ r1 r2 r3 ∧ Below w0.heap.size w0 w' ∧ Below w.heap.size w w' := by
 have hu87 := Tryz.underlying87
 have HBW := Aside0.mk (Below.refl w.heap.size w)
 have HW0 := Aside0.mk hB.size
 have HB := Aside0.mk hB
 clear hB
 have H := h
 clear h
 unfold coder_NewWriter.f at H
 simp only [Option.some.injEq, Prod.mk.injEq] at H
 obtain ⟨rfl, rfl, rfl⟩ := H
 go_enter Tryz.func17, Tryz.ntmps17
 go_wp2_with (first | ((with_reducible refine gate_dst (N := 2) rfl ?_); refine box_event ?hg (N := 2) ?hd (cs := #[.slice none 0 0, .int .u64 0, .int .u64 4294967295]) (t := 87) ?hr ?_; (case hd => rfl); (case hg => rfl); (case hr => first | (go_simp; done) | (go_simp; rfl)); intro gb106 hg w1 hbox hb; have n0_ := Aside0.mk (below_step HBW.out hb); have n1_ := Aside0.mk (below_step uB hb); have n2_ := Aside0.mk (hbox); have n3_ := Aside0.mk ((by rw [hg]; exact (below_size (by repeat (first | (with_reducible first | exact HBW.out | apply below_alloc | apply pw_below_drewN | apply below_drew1) | exact HBW.out))) : w.heap.size ≤ gb106)); have n4_ := Aside0.mk ((Nat.le_trans HW0.out (by rw [hg]; exact (below_size (by repeat (first | (with_reducible first | exact HBW.out | apply below_alloc | apply pw_below_drewN | apply below_drew1) | exact HBW.out))) : w.heap.size ≤ gb106) : w0.heap.size ≤ gb106)); clear HBW; clear HB; have HBW := n0_; have HB := n1_; have BK106 := n2_; have GW106 := n3_; have GE106 := n4_; clear n0_ n1_ n2_ n3_ n4_; clear hb hbox hg))
 go_ret
 exact ⟨_, rfl, (show IsS87 w0 _ gb106 ([] : List Int) 0 4294967295 from ⟨none, 0, by (with_reducible repeat (first | refine blk_drewN ?_ _ | refine blk_drew ?_ | refine blk_alloc ?_ _)); exact BK106.out, GE106.out, (Kd.C_nil _ _)⟩), by repeat (first | (with_reducible first | exact HB.out | apply below_alloc | apply pw_below_drewN | apply below_drew1 | refine below_set ?_ GE106.out) | exact HB.out), by repeat (first | (with_reducible first | exact HBW.out | apply below_alloc | apply pw_below_drewN | apply below_drew1 | refine below_set ?_ GW106.out) | exact HBW.out)⟩
def runs_told.l0 : Nat → Int → List Int → Option (List Int)
  | 0, _, _ => none
  | k + 1, x0, x3 => if x0 > 0 then (if x3.length < 17592186044416 then (runs_told.l0 k (wrap64 (Int.tdiv (wrap64 (x0 - 1)) 2)) (x3 ++ [Int.tmod (wrap64 (x0 - 1)) 2])) else (none)) else (some x3)
def runs_told.f (k : Nat) (a0 : Int) : Option (List Int) := runs_told.l0 k a0 ([] : List Int)
theorem runs_told.mono_l : ∀ k, (∀ y0 y1, LeO (runs_told.l0 k y0 y1) (runs_told.l0 (k + 1) y0 y1))
  | 0 => fun _ _ r h => by simp [runs_told.l0] at h
  | k + 1 => by
    have ih0 := runs_told.mono_l k
    · intro y0 y1
      unfold runs_told.l0
      exact mB
theorem runs_told.mono : ∀ a0 k, LeO (runs_told.f k a0) (runs_told.f (k + 1) a0) := by
  intro a0 k
  have ih0 := runs_told.mono_l k
  unfold runs_told.f
  exact mB
set_option maxHeartbeats 8000000 in
set_option maxRecDepth 100000 in
theorem runs_told.calls (k : Nat) (a0 : Int) (r : List Int) (w : World) (h : runs_told.f k a0 = some r) :
    Calls Tryz.prog 46 #[.int .i64 a0] w fun e w' => ∃ v0_ : Value, e = .returned (v0_) ∧ Kd.R (Kd.int .i64) 3 w' w.heap.size (fun _ => True) v0_ r ∧ Below w.heap.size w w' := by
 have HB := Aside0.mk (Below.refl w.heap.size w)
 have H := h
 clear h
 unfold runs_told.f at H
 have H' := Aside0.mk H
 clear H
 go_enter Tryz.func46, Tryz.ntmps46
 go_wp2
 go_loopg [0, 3] k (fun kq v0 v3 w' => ∃ (x0_1 : Int) (x3_1 : List Int), v0 = .int .i64 x0_1 ∧ Aside0 (runs_told.l0 kq x0_1 x3_1 = some r) ∧ Aside0 (kq ≤ k) ∧ Aside0 (Kd.R (Kd.int .i64) 3 w' w.heap.size (fun _ => True) v3 x3_1) ∧ Aside0 (Below w.heap.size w w'))
 case atStart => exact ⟨(a0), (([] : List Int)), sD, H', ⟨Nat.le_refl _⟩, ⟨nL⟩, ⟨uB⟩⟩
 case round =>
  clear H'
  obtain ⟨x0_1, x3_1, rfl, HA, HK1, HO_3, HB⟩ := hrel
  cases gk with
  | zero => exact absurd HA.out (by simp [runs_told.l0])
  | succ k1 =>
   have H := HA.out
   clear HA
   simp only [runs_told.l0] at H
   rcases ifK H with ⟨c2b0, H⟩ | ⟨c2b0, H⟩
   ·obtain ⟨c3, H⟩ := ifP H
    have LMc3 := Aside0.mk c3
    clear c3
    generalize hy107 : (x3_1 ++ [Int.tmod (wrap64 (x0_1 - 1)) 2] : List Int) = y107 at H
    try simp only [Option.bind_some] at H
    have Ny107 := Aside0.mk hy107.symm
    clear hy107
    have H' := Aside0.mk H
    clear H
    go_wp2_with (first | ((with_reducible refine gate_builtin (b := .append) (xs := #[.tmp 9, .tmp 13]) rfl ?_); at_builtin; refine Kd.R_append (Kd.int .i64) (w0 := w) w.heap.size rfl (.tmp 9) (.tmp 13) 29 3 (.int .i64 0) 8 rfl Tryz.underlying29 info3 rfl (by decide) (by omega) u3 x3_1 (Int.tmod (wrap64 (x0_1 - 1)) 2) [.int .i64 (Int.tmod (wrap64 (x0_1 - 1)) 2)] (fun _ => True) (fun _ => False) rfl rfl ?aP (fun _ hk => hk.elim) ?aF ?aO ?aB ?aS ?aL ?_; (case aP => exact rfl); (case aB => exact uB); (case aF => exact (fun _ _ => trivial)); (case aO => exact (uR HO_3.out)); (case aS => exact (below_size uB)); (case aL => have := LMc3.out; omega); intro v108 w4 ho hb hg hat; rw [← Ny107.out] at ho; have n0_ := Aside0.mk (hb); have n1_ := Aside0.mk (ho); clear HB; clear HO_3; have HB := n0_; have HO109 := n1_; clear n0_ n1_; clear ho hb hg hat))
    go_roundg k1
    case measure => have := HK1.out; omega
    case rel => exact ⟨(wrap64 (Int.tdiv (wrap64 (x0_1 - 1)) 2)), (y107), sD, H', ⟨by have := HK1.out; omega⟩, ⟨uR HO109.out⟩, ⟨uB⟩⟩
   ·obtain rfl := Option.some.inj H
    go_wp2
    go_ret
    exact ⟨_, eR, uR HO_3.out, uB⟩
def runs_Tell.l0 : Nat → List Int → Int → List Int → Int → Int → Option (List Int)
  | 0, _, _, _, _, _ => none
  | k + 1, x3, x4, x7, x8, x9 => if x9 < x8 then (if 0 ≤ x9 then (if x9 < (x7.length : Int) then (if (rd x7 x9) = 0 then (runs_Tell.l0 k x3 (wrap64 (x4 + 1)) x7 x8 (wrap64 (x9 + 1))) else ((runs_told.f k x4).bind fun t111 => (if x3.length + t111.length < 17592186044416 then ((some (x3 ++ t111 : List Int)).bind fun y114 => (if y114.length < 17592186044416 then (runs_Tell.l0 k (y114 ++ [wrap64 ((wrap64 (rd x7 x9)) + 1)]) 0 x7 x8 (wrap64 (x9 + 1))) else (none))) else (none)))) else (none)) else (none)) else ((runs_told.f k x4).bind fun t120 => (if x3.length + t120.length < 17592186044416 then (some (x3 ++ t120)) else (none)))
def runs_Tell.f (k : Nat) (l0 : List Int) : Option (List Int) := runs_Tell.l0 k ([] : List Int) 0 l0 (l0.length : Int) 0
theorem runs_Tell.mono_l : ∀ k, (∀ y0 y1 y2 y3 y4, LeO (runs_Tell.l0 k y0 y1 y2 y3 y4) (runs_Tell.l0 (k + 1) y0 y1 y2 y3 y4))
  | 0 => fun _ _ _ _ _ r h => by simp [runs_Tell.l0] at h
  | k + 1 => by
    have ih0 := runs_Tell.mono_l k
    · intro y0 y1 y2 y3 y4
      unfold runs_Tell.l0
      have m0 := @runs_told.mono
      exact mB
theorem runs_Tell.mono : ∀ a0 k, LeO (runs_Tell.f k a0) (runs_Tell.f (k + 1) a0) := by
  intro a0 k
  have ih0 := runs_Tell.mono_l k
  unfold runs_Tell.f
  have m0 := @runs_told.mono
  exact mB
set_option maxHeartbeats 8000000 in
set_option maxRecDepth 100000 in
theorem runs_Tell.calls (k : Nat) (A0 : Option Addr) (c0 : Nat) (l0 : List Int) (r : List Int) (w : World) (hr0 : Kd.C (Kd.int .u8) w A0 l0.length l0) (hc0 : l0.length ≤ c0) (h : runs_Tell.f k l0 = some r) :
    Calls Tryz.prog 18 #[.slice A0 l0.length c0] w fun e w' => ∃ v0_ : Value, e = .returned (v0_) ∧ Kd.R (Kd.int .i64) 3 w' w.heap.size (fun _ => True) v0_ r ∧ Below w.heap.size w w' := by
 have HR0 := Aside0.mk hr0
 have HC0 := Aside0.mk hc0
 clear hr0 hc0
 have HB := Aside0.mk (Below.refl w.heap.size w)
 have H := h
 clear h
 unfold runs_Tell.f at H
 have H' := Aside0.mk H
 clear H
 go_enter Tryz.func18, Tryz.ntmps18
 go_wp2
 go_loopg [3, 4, 9] k (fun kq v3 v4 v9 w' => ∃ (x3_1 : List Int) (x4_1 : Int) (x9_1 : Int), v4 = .int .i64 x4_1 ∧ v9 = .int .i64 x9_1 ∧ Aside0 (runs_Tell.l0 kq x3_1 x4_1 l0 (l0.length : Int) x9_1 = some r) ∧ Aside0 (kq ≤ k) ∧ Aside0 (Kd.R (Kd.int .i64) 3 w' w.heap.size (fun _ => True) v3 x3_1) ∧ Aside0 (Below w.heap.size w w'))
 case atStart => exact ⟨(([] : List Int)), (0), (0), sD, sD, H', ⟨Nat.le_refl _⟩, ⟨nL⟩, ⟨uB⟩⟩
 case round =>
  clear H'
  try clear c1
  obtain ⟨x3_1, x4_1, x9_1, rfl, rfl, HA, HK1, HO_3, HB⟩ := hrel
  cases gk with
  | zero => exact absurd HA.out (by simp [runs_Tell.l0])
  | succ k1 =>
   have H := HA.out
   clear HA
   simp only [runs_Tell.l0] at H
   rcases ifC H with ⟨c2b0, H⟩ | ⟨c2b0, H⟩
   ·obtain ⟨c3b0, c4b0, H⟩ := ifD2 H
    by_cases c5 : (rd l0 x9_1) = 0
    ·rw [if_pos c5] at H
     have c5b0 : ((rd l0 x9_1) == 0) = true := beq_iff_eq.mpr c5
     have c5b1 : ((rd l0 x9_1) != 0) = false := bne_eq_false_iff_eq.mpr c5
     clear c5
     have H' := Aside0.mk H
     clear H
     obtain ⟨ad110, e110, hx110_0, p110, q110⟩ := rIO HB.out HR0.out x9_1
     cases e110
     go_wp2
     go_roundg k1
     case measure => have := HK1.out; omega
     case rel => exact ⟨(x3_1), (wrap64 (x4_1 + 1)), (wrap64 (x9_1 + 1)), sD, sD, H', ⟨by have := HK1.out; omega⟩, ⟨uR HO_3.out⟩, ⟨uB⟩⟩
    ·rw [if_neg c5] at H
     have c5b0 : ((rd l0 x9_1) == 0) = false := beq_eq_false_iff_ne.mpr c5
     have c5b1 : ((rd l0 x9_1) != 0) = true := bne_iff_ne.mpr c5
     obtain ⟨t111, A6, H⟩ := bdS H
     try dsimp only at H
     obtain ⟨c7, H⟩ := ifP H
     have LMc7 := Aside0.mk c7
     clear c7
     generalize hy114 : (x3_1 ++ t111 : List Int) = y114 at H
     try simp only [Option.bind_some] at H
     have Ny114 := Aside0.mk hy114.symm
     clear hy114
     obtain ⟨c8, H⟩ := ifP H
     have LMc8 := Aside0.mk c8
     clear c8
     generalize hy117 : (y114 ++ [wrap64 ((wrap64 (rd l0 x9_1)) + 1)] : List Int) = y117 at H
     try simp only [Option.bind_some] at H
     have Ny117 := Aside0.mk hy117.symm
     clear hy117
     have H' := Aside0.mk H
     clear H
     obtain ⟨ad110, e110, hx110_0, p110, q110⟩ := rIO HB.out HR0.out x9_1
     cases e110
     go_wp2_with (first | ((with_reducible refine gate_callee (f := 46) rfl ?_); refine goesL_ (some 19) rfl rfl Tryz.func46 (by kernel_rfl) rfl #[.int .i64 x4_1] rfl aE ?_; (with_reducible refine (runs_told.calls k1 x4_1 t111 _ A6.out).mono ?_); rintro e w9 ⟨v112, rfl, ho0, hb⟩; refine ⟨_, rfl, ?_⟩; have n0_ := Aside0.mk (Kd.R_elder' (uR HO_3.out) (Kd.R_base ho0) hb); have n1_ := Aside0.mk (Kd.R_lower (Kd.R_new' ho0 (Kd.R_lt (uR HO_3.out))) (below_size uB)); have n2_ := Aside0.mk (below_step uB hb); clear HO_3; clear HB; have HO_3 := n0_; have HO113 := n1_; have HB := n2_; clear n0_ n1_ n2_; (try clear hb); (try clear hb2); (try clear hk); (try clear hi); (try clear ho0); obtain ⟨Ao11, co11, eo11⟩ := Kd.R_slice HO113.out; subst eo11) | ((with_reducible refine gate_builtin (b := .append) (xs := #[.tmp 17, .tmp 19]) rfl ?_); at_builtin; refine Kd.R_append_rows (Kd.int .i64) (w0 := w) w.heap.size rfl (.tmp 17) (.tmp 19) 29 3 (.int .i64 0) 8 rfl Tryz.underlying29 info3 rfl (by decide) (by omega) u3 x3_1 t111 _ _ _ (fun k_ => some k_ ≠ (.slice Ao11 t111.length co11 : Value).ownBlock) (fun _ => False) rfl rfl ?aO ?aR (fun _ _ h => h) (fun _ h => h.elim) ?aF ?aB ?aS ?aL ?_; (case aR => repeat (first | exact (Kd.R_reads' HO113.out).2.2 | (with_reducible refine Kd.C_alloc ?_ _) | (with_reducible refine Kd.C_drewN ?_ _) | (with_reducible refine Kd.C_drew ?_))); (case aB => exact uB); (case aF => exact (fun k_ hk => Kd.fresh' (Kd.R_lt (uR HO113.out)) k_ hk)); (case aO => exact (by (with_reducible repeat (first | apply Kd.R_alloc | apply Kd.R_drewN | apply Kd.R_drew)); exact Kd.R_mono HO_3.out (fun _ hk => hk.2))); (case aS => exact (below_size uB)); (case aL => have := LMc7.out; omega); intro v115 w10 ho hb hg hat; rw [← Ny114.out] at ho; have n0_ := Aside0.mk (Kd.R_after (ok := (fun _ => True)) (uR HO113.out) hg hat); have n1_ := Aside0.mk (hb); have n2_ := Aside0.mk (ho); clear HO113; clear HB; clear HO_3; have HO113 := n0_; have HB := n1_; have HO116 := n2_; clear n0_ n1_ n2_; clear ho hb hg hat) | ((with_reducible refine gate_builtin (b := .append) (xs := #[.tmp 20, .tmp 24]) rfl ?_); at_builtin; refine Kd.R_append (Kd.int .i64) (w0 := w) w.heap.size rfl (.tmp 20) (.tmp 24) 29 3 (.int .i64 0) 8 rfl Tryz.underlying29 info3 rfl (by decide) (by omega) v115 y114 (wrap64 ((wrap64 (rd l0 x9_1)) + 1)) [.int .i64 (wrap64 ((wrap64 (rd l0 x9_1)) + 1))] (fun k_ => some k_ ≠ (.slice Ao11 t111.length co11 : Value).ownBlock) (fun _ => False) rfl rfl ?aP (fun _ hk => hk.elim) ?aF ?aO ?aB ?aS ?aL ?_; (case aP => exact rfl); (case aB => exact uB); (case aF => exact (fun k_ hk => Kd.fresh' (Kd.R_lt (uR HO113.out)) k_ hk)); (case aO => exact (uR HO116.out)); (case aS => exact (below_size uB)); (case aL => have := LMc8.out; omega); intro v118 w12 ho hb hg hat; rw [← Ny117.out] at ho; have n0_ := Aside0.mk (Kd.R_after (ok := (fun _ => True)) (uR HO113.out) hg hat); have n1_ := Aside0.mk (hb); have n2_ := Aside0.mk (ho); clear HO113; clear HB; clear HO116; have HO113 := n0_; have HB := n1_; have HO119 := n2_; clear n0_ n1_ n2_; clear ho hb hg hat))
     go_roundg k1
     case measure => have := HK1.out; omega
     case rel => exact ⟨(y117), (0), (wrap64 (x9_1 + 1)), sD, sD, H', ⟨by have := HK1.out; omega⟩, ⟨by (with_reducible repeat (first | apply Kd.R_alloc | apply Kd.R_drewN | apply Kd.R_drew)); exact Kd.R_mono HO119.out (fun _ hk => trivial)⟩, ⟨uB⟩⟩
   ·obtain ⟨t120, A13, H⟩ := bdS H
    try dsimp only at H
    obtain ⟨c14, H⟩ := ifP H
    have LMc14 := Aside0.mk c14
    clear c14
    generalize hy123 : (x3_1 ++ t120 : List Int) = y123 at H
    try simp only [Option.bind_some] at H
    have Ny123 := Aside0.mk hy123.symm
    clear hy123
    obtain rfl := Option.some.inj H
    go_wp2_with (first | ((with_reducible refine gate_callee (f := 46) rfl ?_); refine goesL_ (some 29) rfl rfl Tryz.func46 (by kernel_rfl) rfl #[.int .i64 x4_1] rfl aE ?_; (with_reducible refine (runs_told.calls k1 x4_1 t120 _ A13.out).mono ?_); rintro e w15 ⟨v121, rfl, ho0, hb⟩; refine ⟨_, rfl, ?_⟩; have n0_ := Aside0.mk (Kd.R_elder' (uR HO_3.out) (Kd.R_base ho0) hb); have n1_ := Aside0.mk (Kd.R_lower (Kd.R_new' ho0 (Kd.R_lt (uR HO_3.out))) (below_size uB)); have n2_ := Aside0.mk (below_step uB hb); clear HO_3; clear HB; have HO_3 := n0_; have HO122 := n1_; have HB := n2_; clear n0_ n1_ n2_; (try clear hb); (try clear hb2); (try clear hk); (try clear hi); (try clear ho0); obtain ⟨Ao17, co17, eo17⟩ := Kd.R_slice HO122.out; subst eo17) | ((with_reducible refine gate_builtin (b := .append) (xs := #[.tmp 27, .tmp 29]) rfl ?_); at_builtin; refine Kd.R_append_rows (Kd.int .i64) (w0 := w) w.heap.size rfl (.tmp 27) (.tmp 29) 29 3 (.int .i64 0) 8 rfl Tryz.underlying29 info3 rfl (by decide) (by omega) u3 x3_1 t120 _ _ _ (fun k_ => some k_ ≠ (.slice Ao17 t120.length co17 : Value).ownBlock) (fun _ => False) rfl rfl ?aO ?aR (fun _ _ h => h) (fun _ h => h.elim) ?aF ?aB ?aS ?aL ?_; (case aR => repeat (first | exact (Kd.R_reads' HO122.out).2.2 | (with_reducible refine Kd.C_alloc ?_ _) | (with_reducible refine Kd.C_drewN ?_ _) | (with_reducible refine Kd.C_drew ?_))); (case aB => exact uB); (case aF => exact (fun k_ hk => Kd.fresh' (Kd.R_lt (uR HO122.out)) k_ hk)); (case aO => exact (by (with_reducible repeat (first | apply Kd.R_alloc | apply Kd.R_drewN | apply Kd.R_drew)); exact Kd.R_mono HO_3.out (fun _ hk => hk.2))); (case aS => exact (below_size uB)); (case aL => have := LMc14.out; omega); intro v124 w16 ho hb hg hat; rw [← Ny123.out] at ho; have n0_ := Aside0.mk (Kd.R_after (ok := (fun _ => True)) (uR HO122.out) hg hat); have n1_ := Aside0.mk (hb); have n2_ := Aside0.mk (ho); clear HO122; clear HB; clear HO_3; have HO122 := n0_; have HB := n1_; have HO125 := n2_; clear n0_ n1_ n2_; clear ho hb hg hat))
    go_ret
    exact ⟨_, eR, by (with_reducible repeat (first | apply Kd.R_alloc | apply Kd.R_drewN | apply Kd.R_drew)); exact Kd.R_mono HO125.out (fun _ hk => trivial), uB⟩
def front_row.l0 : Nat → List Int → Int → Int → Option (List Int)
  | 0, _, _, _ => none
  | k + 1, x1, x5, x6 => if x6 < x5 then (if 0 ≤ x6 then (if x6 < (x1.length : Int) then (front_row.l0 k (x1.set (x6 : Int).toNat ((x6) % 256)) x5 (wrap64 (x6 + 1))) else (none)) else (none)) else (some x1)
def front_row.f (k : Nat)  : Option (List Int) := if 256 ≤ 281474976710656 then ((some (List.replicate 256 0 : List Int)).bind fun y126 => (front_row.l0 k y126 (y126.length : Int) 0)) else (none)
theorem front_row.mono_l : ∀ k, (∀ y0 y1 y2, LeO (front_row.l0 k y0 y1 y2) (front_row.l0 (k + 1) y0 y1 y2))
  | 0 => fun _ _ _ r h => by simp [front_row.l0] at h
  | k + 1 => by
    have ih0 := front_row.mono_l k
    · intro y0 y1 y2
      unfold front_row.l0
      exact mB
theorem front_row.mono : ∀ k, LeO (front_row.f k ) (front_row.f (k + 1) ) := by
  intro  k
  have ih0 := front_row.mono_l k
  unfold front_row.f
  exact mB
set_option maxHeartbeats 8000000 in
set_option maxRecDepth 100000 in
theorem front_row.calls (k : Nat)  (r : List Int) (w : World) (h : front_row.f k  = some r) :
    Calls Tryz.prog 47 #[] w fun e w' => ∃ v0_ : Value, e = .returned (v0_) ∧ Kd.R (Kd.int .u8) 5 w' w.heap.size (fun _ => True) v0_ r ∧ Below w.heap.size w w' := by
 have HB := Aside0.mk (Below.refl w.heap.size w)
 have H := h
 clear h
 unfold front_row.f at H
 obtain ⟨c1b0, c1b1, H⟩ := ifE H
 generalize hy126 : (List.replicate 256 0 : List Int) = y126 at H
 try simp only [Option.bind_some] at H
 have Ny126 := Aside0.mk hy126.symm
 clear hy126
 have H' := Aside0.mk H
 clear H
 go_enter Tryz.func47, Tryz.ntmps47
 go_wp2_with (first | ((with_reducible refine gate_dst (N := 3) rfl ?_); refine Kd.R_make (Kd.int .u8) _ 5 rfl (N := 3) rfl 22 _ _ rfl 256 rfl rfl Tryz.underlying22 (.int .u8 0) 1 info5 rfl (by decide) (by omega) 0 (ok := fun _ => True) (okp := fun _ => True) rfl (fun _ hk => hk) trivial (by omega) (by omega) (Below.refl _ _) (Nat.le_refl _) ?_; intro v127 w2 ho3 hb hg_ hnew_; clear hg_ hnew_; (first | rw [← Ny126.out] at ho3 | (simp only [Int.reduceToNat] at ho3; rw [← Ny126.out] at ho3)); have n0_ := Aside0.mk (Kd.R_lower ho3 (below_size uB)); have n1_ := Aside0.mk (below_step uB hb); clear HB; have HO128 := n0_; have HB := n1_; clear n0_ n1_; clear hb ho3; obtain ⟨Ao4, co4, eo4⟩ := Kd.R_slice HO128.out; subst eo4))
 go_loopg [6] k (fun kq v6 w' => ∃ (x1_1 : List Int) (x6_1 : Int), v6 = .int .i64 x6_1 ∧ Aside0 (front_row.l0 kq x1_1 (y126.length : Int) x6_1 = some r) ∧ Aside0 (kq ≤ k) ∧ Aside0 (Kd.R (Kd.int .u8) 5 w' w.heap.size (fun _ => True) (.slice Ao4 y126.length co4) x1_1) ∧ Aside0 (Below w.heap.size w w'))
 case atStart => exact ⟨(y126), (0), sD, H', ⟨Nat.le_refl _⟩, ⟨uR HO128.out⟩, ⟨uB⟩⟩
 case round =>
  clear H'
  try clear c1
  try clear c1b0
  try clear c1b1
  try clear p2
  try clear c4
  obtain ⟨x1_1, x6_1, rfl, HA, HK1, HO_1, HB⟩ := hrel
  have hl1_1 := (Kd.R_reads' HO_1.out).1
  rw [hl1_1] at HO_1
  (try simp only [hl1_1])
  cases gk with
  | zero => exact absurd HA.out (by simp [front_row.l0])
  | succ k1 =>
   have H := HA.out
   clear HA
   simp only [front_row.l0] at H
   by_cases c5 : x6_1 < (y126.length : Int)
   ·rw [if_pos c5] at H
    have c5b0 : decide (x6_1 < (y126.length : Int)) = true := decide_eq_true c5
    clear c5
    obtain ⟨c6b0, c7b0, H⟩ := ifD2 H
    generalize hy129 : (x1_1.set (x6_1 : Int).toNat ((x6_1) % 256) : List Int) = y129 at H
    try simp only [Option.bind_some] at H
    have Ny129 := Aside0.mk hy129.symm
    clear hy129
    have H' := Aside0.mk H
    clear H
    have p8 : 0 ≤ (x6_1 : Int) := dT
    have q8 : (x6_1 : Int) < ((x1_1.length : Int) : Int) := dT
    obtain ⟨go8, co8, eo8, gb8, gl8, cl8, HG8⟩ := Kd.R_form HO_1.out (by omega)
    (first | cases eo8 | (injection eo8 with ea_ en_ ec_; (first | subst ea_ | (injection ea_ with ea_; subst ea_)); subst ec_; clear en_))
    have GB8 := Aside0.mk gb8
    have GG8 := Aside0.mk HG8
    clear gb8 gl8 HG8
    obtain ⟨hx8_0, hf8_0⟩ := Kd.R_celln 0 HO_1.out (x6_1 : Int) p8 q8
    replace p8 := eq_true p8
    replace q8 := eq_true q8
    have HP9 := Kd.R_putg HO_1.out (x6_1 : Int) ((x6_1) % 256)
    go_wp2_with (first | ((with_reducible refine gate_store (t := 5) (p := 13) rfl ?_); refine store_event (t := 5) (p := 13) (v := ?vo_w10) (w1 := (wr.setCell ⟨go8, (x6_1 : Int).toNat, none⟩ (.int .u8 ((x6_1) % 256)))) ?hg ?ho ?hn ?hr ?_; (case ho => rfl); (case hg => rfl); (case hn => rfl); (case hr => first | (go_simp; done) | (go_simp; rfl)); intro w10 hw; have hg : wr.grownBy w10 (some go8) := (by rw [hw]; exact HP9.2); have hp_ : Kd.R (Kd.int .u8) 5 w10 w.heap.size (fun _ => True) (.slice (some ⟨go8, 0, none⟩) x1_1.length co4) y129 := (by rw [hw, Ny129.out]; exact HP9.1); clear HP9; have n0_ := Aside0.mk (hp_); have n1_ := Aside0.mk ((by rw [hw]; exact below_set (HB.out) GB8.out : Below w.heap.size w w10)); clear HO_1; clear HB; have HO_1 := n0_; have HB := n1_; clear n0_ n1_; clear hg hw hp_))
    (try simp only [← hl1_1])
    go_roundg k1
    case measure => have := HK1.out; omega
    case rel => exact ⟨(y129), (wrap64 (x6_1 + 1)), sD, H', ⟨by have := HK1.out; omega⟩, ⟨by (try simp only [hl1_1]); (with_reducible repeat (first | apply Kd.R_alloc | apply Kd.R_drewN | apply Kd.R_drew)); exact HO_1.out⟩, ⟨uB⟩⟩
   ·rw [if_neg c5] at H
    have c5b0 : decide (x6_1 < (y126.length : Int)) = false := decide_eq_false c5
    (try simp only [hl1_1] at c5b0)
    clear c5
    obtain rfl := Option.some.inj H
    go_wp2
    go_ret
    exact ⟨_, eR, uR HO_1.out, uB⟩
def IsS92 (w0 W : World) (g : Nat) (f0 : List Int) (f1 : Int) : Prop := ∃ A0 c0, W.heap[g]? = some (.cells #[.slice A0 f0.length c0, .int .i64 f1] 92 (0, 0)) ∧ w0.heap.size ≤ g ∧ Kd.C (Kd.int .i64) w0 A0 f0.length f0
theorem IsS92.grown {w0 W : World} {g : Nat} {f0 : List Int} {f1 : Int} {W1 : World} {row : Option Nat} (h : IsS92 w0 W g f0 f1) (hw : W.grownBy W1 row) (hne : some g ≠ row) : IsS92 w0 W1 g f0 f1 := by
  obtain ⟨A0, c0, hb, hg, hr0⟩ := h
  exact ⟨A0, c0, blk_grown hb hw hne, hg, hr0⟩
theorem IsS92.fresh {w0 W : World} {g : Nat} {f0 : List Int} {f1 : Int} (h : IsS92 w0 W g f0 f1) : ∀ k, W.heap.size ≤ k → k ≠ g := by
  obtain ⟨A0, c0, hb, hg, hr0⟩ := h
  exact Kd.freshB hb
theorem IsS92.kept {w0 W : World} {g : Nat} {f0 : List Int} {f1 : Int} {W1 : World} {S : Nat → Prop} (h : IsS92 w0 W g f0 f1) (hk : Kept W W1 S) (hne : ¬ S g) : IsS92 w0 W1 g f0 f1 := by
  obtain ⟨A0, c0, hb, hg, hr0⟩ := h
  exact ⟨A0, c0, blk_kept hb hk hne, hg, hr0⟩
theorem IsS92.below {w0 W : World} {g : Nat} {f0 : List Int} {f1 : Int} {W1 : World} (h : IsS92 w0 W g f0 f1) (hw : Below W.heap.size W W1) : IsS92 w0 W1 g f0 f1 := h.grown (grown_of_below hw none) (by simp)
theorem IsS92.alloc {w0 W : World} {g : Nat} {f0 : List Int} {f1 : Int} (h : IsS92 w0 W g f0 f1) (o : Obj) : IsS92 w0 (W.alloc o) g f0 f1 := h.below (below_alloc (Below.refl _ _) o)
theorem IsS92.drewN {w0 W : World} {g : Nat} {f0 : List Int} {f1 : Int} (h : IsS92 w0 W g f0 f1) (m : Nat) : IsS92 w0 (W.drewN m) g f0 f1 := h
theorem IsS92.drew {w0 W : World} {g : Nat} {f0 : List Int} {f1 : Int} (h : IsS92 w0 W g f0 f1) : IsS92 w0 W.drew g f0 f1 := h
theorem IsS92.at_ {w0 W : World} {g : Nat} {f0 : List Int} {f1 : Int} {w' : World} {m : Nat} (hq : W.drewN m = w') (h : IsS92 w0 W g f0 f1) : IsS92 w0 w' g f0 f1 := by subst hq; exact IsS92.drewN h m
theorem IsS92.apart {w0 W : World} {g : Nat} {f0 : List Int} {f1 : Int} {α : Type} {d : Kd α} {e : Nat} {base : Nat} {ok : Nat → Prop} {v : Value} {xs : List α} (h : IsS92 w0 W g f0 f1) (ho : d.R e W base ok v xs) (ht : ∀ q, q ∈ e :: d.E → q ≠ 92) : d.R e W base (fun k => ok k ∧ k ≠ g) v xs := by
  obtain ⟨A0, c0, hb, hg, hr0⟩ := h
  exact Kd.R_types ho hb ht
theorem IsS92.own_ne {w0 W : World} {g : Nat} {f0 : List Int} {f1 : Int} {α : Type} {d : Kd α} {e : Nat} {base : Nat} {ok : Nat → Prop} {v : Value} {xs : List α} (h : IsS92 w0 W g f0 f1) (ho : d.R e W base ok v xs) (ht : e ≠ 92) : some g ≠ v.ownBlock := by
  obtain ⟨A0, c0, hb, hg, hr0⟩ := h
  exact Kd.R_ne ho hb ht
theorem IsS92.lt {w0 W : World} {g : Nat} {f0 : List Int} {f1 : Int} (h : IsS92 w0 W g f0 f1) : g < W.heap.size := by
  obtain ⟨A0, c0, hb, hg, hr0⟩ := h
  exact blk_lt hb
theorem IsS92.ge {w0 W : World} {g : Nat} {f0 : List Int} {f1 : Int} (h : IsS92 w0 W g f0 f1) : w0.heap.size ≤ g := by
  obtain ⟨A0, c0, hb, hg, hr0⟩ := h
  exact hg
theorem IsS92.far {w0 W : World} {g : Nat} {f0 : List Int} {f1 : Int} {p : Addr} (h : IsS92 w0 W g f0 f1) (hne : g ≠ p.block) (u : Value) : IsS92 w0 (W.setCell p u) g f0 f1 := by
  obtain ⟨A0, c0, hb, hg, hr0⟩ := h
  exact ⟨A0, c0, blk_far hb hne u, hg, hr0⟩
theorem cellS92_0 {W : World} {g : Nat} {A0 : Option Addr} {c0 : Nat} {f0 : List Int} {f1 : Int} (h : W.heap[g]? = some (.cells #[.slice A0 f0.length c0, .int .i64 f1] 92 (0, 0))) : W.cell? ⟨g, 0, none⟩ = some (.slice A0 f0.length c0) := (blk_cell h 0).trans rfl
theorem cellS92_1 {W : World} {g : Nat} {A0 : Option Addr} {c0 : Nat} {f0 : List Int} {f1 : Int} (h : W.heap[g]? = some (.cells #[.slice A0 f0.length c0, .int .i64 f1] 92 (0, 0))) : W.cell? ⟨g, 1, none⟩ = some (.int .i64 f1) := (blk_cell h 1).trans rfl
theorem IsS92.set_1 {w0 W : World} {g : Nat} {f0 : List Int} {f1 : Int} (h : IsS92 w0 W g f0 f1) (x : Int) : IsS92 w0 (W.setCell ⟨g, 1, none⟩ (.int .i64 x)) g f0 x := by
  obtain ⟨A0, c0, hb, hg, hr0⟩ := h
  exact ⟨A0, c0, by simpa using blk_set hb 1 (.int .i64 x), hg, hr0⟩
theorem IsS92.new (w0 W : World) (A0 : Option Addr) (c0 : Nat) (f0 : List Int) (f1 : Int) (hB : Below w0.heap.size w0 W) (hr0 : Kd.C (Kd.int .i64) w0 A0 f0.length f0) : IsS92 w0 (W.alloc (.cells #[.slice A0 f0.length c0, .int .i64 f1] 92)) W.heap.size f0 f1 := ⟨A0, c0, by simpa using heap_alloc_new W _, hB.size, hr0⟩
def model_Model_is.f (s0_0 : List Int) (s0_1 : Int) (a1 : Int) : Option (Bool × Int) := if a1 ≥ 0 then (some (decide (a1 < (s0_0.length : Int)), s0_1)) else (some (false, s0_1))
set_option maxHeartbeats 8000000 in
set_option maxRecDepth 100000 in
theorem model_Model_is.calls (g : Nat) (s0_0 : List Int) (s0_1 : Int) (a1 : Int) (r1 : Bool) (r2 : Int) (w0 w : World) (hI : IsS92 w0 w g s0_0 s0_1) (hB : Below w0.heap.size w0 w) (h : model_Model_is.f s0_0 s0_1 a1 = some (r1, r2)) :
    Calls Tryz.prog 50 #[.pointer (some ⟨g, 0, none⟩), .int .i64 a1] w fun e w' => e = .returned (.bool r1) ∧ IsS92 w0 w' g s0_0 r2 ∧ Below w0.heap.size w0 w' ∧ KeepBut w w' g none := by
 have HI0 := Aside0.mk hI
 have HK := Aside0.mk (KeepBut.refl w g none)
 have HL := Aside0.mk hB.size
 clear hI
 have HW0 := Aside0.mk hB.size
 have HB := Aside0.mk hB
 clear hB
 have H := h
 clear h
 unfold model_Model_is.f at H
 rcases ifG H with ⟨c3b0, H⟩ | ⟨c3b0, H⟩
 ·simp only [Option.some.injEq, Prod.mk.injEq] at H
  obtain ⟨rfl, rfl⟩ := H
  obtain ⟨ASz4_0, cSz4_0, HGz4, hgz4, HSz4_0⟩ := HI0.out
  have hcz4_0 := cellS92_0 HGz4
  have hcz4_1 := cellS92_1 HGz4
  have hfz4_1 := blk_frozen HGz4 1
  clear HGz4 hgz4
  go_enter Tryz.func50, Tryz.ntmps50
  go_wp2
  go_ret
  exact ⟨eR, by repeat (first | (with_reducible first | exact HI0.out | apply IsS92.alloc | apply IsS92.drewN | apply IsS92.drew | apply IsS92.set_1) | exact HI0.out), by repeat (first | (with_reducible first | exact HB.out | apply below_alloc | apply pw_below_drewN | apply below_drew1 | refine below_set ?_ (IsS92.ge HI0.out)) | exact HB.out), by repeat (first | (with_reducible first | exact HK.out | apply KeepBut.set_ | apply keep_drewN | apply keep_drew | apply keep_alloc) | exact HK.out)⟩
 ·simp only [Option.some.injEq, Prod.mk.injEq] at H
  obtain ⟨rfl, rfl⟩ := H
  go_enter Tryz.func50, Tryz.ntmps50
  go_wp2
  go_ret
  exact ⟨eR, by repeat (first | (with_reducible first | exact HI0.out | apply IsS92.alloc | apply IsS92.drewN | apply IsS92.drew | apply IsS92.set_1) | exact HI0.out), by repeat (first | (with_reducible first | exact HB.out | apply below_alloc | apply pw_below_drewN | apply below_drew1 | refine below_set ?_ (IsS92.ge HI0.out)) | exact HB.out), by repeat (first | (with_reducible first | exact HK.out | apply KeepBut.set_ | apply keep_drewN | apply keep_drew | apply keep_alloc) | exact HK.out)⟩
def coder_isSpan.f (a0 : Int) (a1 : Int) (a2 : Int) : Option (Bool) := if a2 ≤ 65536 then (if a0 ≥ 0 then (if a1 ≥ 1 then (if a0 ≤ a2 then (some (decide (a1 ≤ (wrap64 (a2 - a0))))) else (some false)) else (some false)) else (some false)) else (some false)
set_option maxHeartbeats 8000000 in
set_option maxRecDepth 100000 in
theorem coder_isSpan.calls (a0 : Int) (a1 : Int) (a2 : Int) (r : Bool) (w : World) (h : coder_isSpan.f a0 a1 a2 = some r) :
    Calls Tryz.prog 51 #[.int .i64 a0, .int .i64 a1, .int .i64 a2] w fun e w' => e = .returned (.bool r) ∧ Drawn0 w w' := by
 have H := h
 clear h
 unfold coder_isSpan.f at H
 rcases ifC H with ⟨c4b0, H⟩ | ⟨c4b0, H⟩
 ·rcases ifG H with ⟨c5b0, H⟩ | ⟨c5b0, H⟩
  ·rcases ifG H with ⟨c6b0, H⟩ | ⟨c6b0, H⟩
   ·rcases ifC H with ⟨c7b0, H⟩ | ⟨c7b0, H⟩
    ·obtain rfl := Option.some.inj H
     go_enter Tryz.func51, Tryz.ntmps51
     go_wp2
     go_ret
     exact ⟨sD, dD⟩
    ·obtain rfl := Option.some.inj H
     go_enter Tryz.func51, Tryz.ntmps51
     go_wp2
     go_ret
     exact ⟨sD, dD⟩
   ·obtain rfl := Option.some.inj H
    go_enter Tryz.func51, Tryz.ntmps51
    go_wp2
    go_ret
    exact ⟨sD, dD⟩
  ·obtain rfl := Option.some.inj H
   go_enter Tryz.func51, Tryz.ntmps51
   go_wp2
   go_ret
   exact ⟨sD, dD⟩
 ·obtain rfl := Option.some.inj H
  go_enter Tryz.func51, Tryz.ntmps51
  go_wp2
  go_ret
  exact ⟨sD, dD⟩
def model_Model_Total.f (s0_0 : List Int) (s0_1 : Int) : Option (Int × Int) := some (s0_1, s0_1)
set_option maxHeartbeats 8000000 in
set_option maxRecDepth 100000 in
theorem model_Model_Total.calls (g : Nat) (s0_0 : List Int) (s0_1 : Int) (r1 : Int) (r2 : Int) (w0 w : World) (hI : IsS92 w0 w g s0_0 s0_1) (hB : Below w0.heap.size w0 w) (h : model_Model_Total.f s0_0 s0_1 = some (r1, r2)) :
    Calls Tryz.prog 23 #[.pointer (some ⟨g, 0, none⟩)] w fun e w' => e = .returned (.int .i64 r1) ∧ IsS92 w0 w' g s0_0 r2 ∧ Below w0.heap.size w0 w' ∧ KeepBut w w' g none := by
 have HI0 := Aside0.mk hI
 have HK := Aside0.mk (KeepBut.refl w g none)
 have HL := Aside0.mk hB.size
 clear hI
 have HW0 := Aside0.mk hB.size
 have HB := Aside0.mk hB
 clear hB
 have H := h
 clear h
 unfold model_Model_Total.f at H
 simp only [Option.some.injEq, Prod.mk.injEq] at H
 obtain ⟨rfl, rfl⟩ := H
 obtain ⟨ASz2_0, cSz2_0, HGz2, hgz2, HSz2_0⟩ := HI0.out
 have hcz2_0 := cellS92_0 HGz2
 have hcz2_1 := cellS92_1 HGz2
 have hfz2_1 := blk_frozen HGz2 1
 clear HGz2 hgz2
 go_enter Tryz.func23, Tryz.ntmps23
 go_wp2
 go_ret
 exact ⟨eR, by repeat (first | (with_reducible first | exact HI0.out | apply IsS92.alloc | apply IsS92.drewN | apply IsS92.drew | apply IsS92.set_1) | exact HI0.out), by repeat (first | (with_reducible first | exact HB.out | apply below_alloc | apply pw_below_drewN | apply below_drew1 | refine below_set ?_ (IsS92.ge HI0.out)) | exact HB.out), by repeat (first | (with_reducible first | exact HK.out | apply KeepBut.set_ | apply keep_drewN | apply keep_drew | apply keep_alloc) | exact HK.out)⟩
def pipe_Class.f (a0 : Int) : Option (Int) := if a0 < 2 then (some 0) else (if a0 < 6 then (some 1) else (some 2))
set_option maxHeartbeats 8000000 in
set_option maxRecDepth 100000 in
theorem pipe_Class.calls (a0 : Int) (r : Int) (w : World) (h : pipe_Class.f a0 = some r) :
    Calls Tryz.prog 54 #[.int .i64 a0] w fun e w' => e = .returned (.int .i64 r) ∧ Drawn0 w w' := by
 have H := h
 clear h
 unfold pipe_Class.f at H
 rcases ifC H with ⟨c2b0, H⟩ | ⟨c2b0, H⟩
 ·obtain rfl := Option.some.inj H
  go_enter Tryz.func54, Tryz.ntmps54
  go_wp2
  go_ret
  exact ⟨sD, dD⟩
 ·rcases ifC H with ⟨c3b0, H⟩ | ⟨c3b0, H⟩
  ·obtain rfl := Option.some.inj H
   go_enter Tryz.func54, Tryz.ntmps54
   go_wp2
   go_ret
   exact ⟨sD, dD⟩
  ·obtain rfl := Option.some.inj H
   go_enter Tryz.func54, Tryz.ntmps54
   go_wp2
   go_ret
   exact ⟨sD, dD⟩
def pipe_Pack.f (k : Nat) (l0 : List Int) (a1 : Int) : Option (List Int × Bool) :=
  if (a1 = 0 ∨ a1 = 1) ∧ l0.length ≤ 100000 then
    (if ∀ x ∈ l0, 0 ≤ x ∧ x < 256 then
      (runs_Tell.f k (Go.Proofs.YtbbpplnnegdenaaGreat.Fr.moveF Go.Proofs.YtbbpplnnegdenaaGreat.Fr.rowL l0)).bind fun sy =>
        if (∀ s ∈ sy, 0 ≤ s ∧ s < 258) ∧ sy.length < 1000000 then some (Go.Proofs.YtbbpplnnegdenaaGreat.Pk.packS a1 (sy ++ [257]), true) else none
    else none)
  else some ([], false)
theorem pipe_Pack.mono : ∀ a0 a1 k, LeO (pipe_Pack.f k a0 a1) (pipe_Pack.f (k + 1) a0 a1) := by
  intro a0 a1 k
  unfold pipe_Pack.f
  exact LeO.ite (LeO.ite (LeO.bind (runs_Tell.mono _ _) (fun sy => LeO.refl _)) (LeO.none _)) (LeO.refl _)
theorem pipe_Pack.calls (k : Nat) (A0 : Option Addr) (c0 : Nat) (l0 : List Int) (a1 : Int) (r1 : List Int) (r2 : Bool) (w : World) (hr0 : Kd.C (Kd.int .u8) w A0 l0.length l0) (hc0 : l0.length ≤ c0) (h : pipe_Pack.f k l0 a1 = some (r1, r2)) :
    Calls Tryz.prog 6 #[.slice A0 l0.length c0, .int .i64 a1] w fun e w' => ∃ v0_ : Value, e = .returned (.tuple #[v0_, .bool r2]) ∧ Kd.R (Kd.int .u8) 5 w' w.heap.size (fun _ => True) v0_ r1 ∧ Below w.heap.size w w' := by
 unfold pipe_Pack.f at h
 by_cases c1 : (a1 = 0 ∨ a1 = 1) ∧ l0.length ≤ 100000
 ·rw [if_pos c1] at h
  by_cases c2 : ∀ x ∈ l0, 0 ≤ x ∧ x < 256
  ·rw [if_pos c2] at h
   obtain ⟨sy, hsy, h⟩ := Option.bind_eq_some_iff.1 h
   by_cases c3 : (∀ s ∈ sy, 0 ≤ s ∧ s < 258) ∧ sy.length < 1000000
   ·rw [if_pos c3] at h
    injection h with h
    injection h with h1 h2
    subst h1 h2
    exact Go.Proofs.YtbbpplnnegdenaaGreat.Pk.pack_calls w A0 c0 l0 hr0 c2 a1 c1.1 c1.2 sy c3.1 c3.2 (fun W1 A1 d1 hC hd => runs_Tell.calls k A1 d1 _ sy W1 hC hd hsy)
   ·rw [if_neg c3] at h; exact absurd h (by simp)
  ·rw [if_neg c2] at h; exact absurd h (by simp)
 ·rw [if_neg c1] at h
  injection h with h
  injection h with h1 h2
  subst h1 h2
  exact (Go.Proofs.YtbbpplnnegdenaaGreat.Pk.pack_miss w A0 l0.length c0 a1 c1).mono (fun e W' ⟨h1, h2⟩ => ⟨_, h1, Kd.R_nil _ _ _ _ _, h2 ▸ Below.refl _ _⟩)
end Go.Proofs.YtbbpplnnegdenaaGreat.PTopPipe
end
section
namespace Go.Proofs.YtbbpplnnegdenaaGreat.PTopPipe
open Go.RowKit Go.Proofs.YtbbpplnnegdenaaGreatW.PrintWords Go.Proofs.YtbbpplnnegdenaaGreatW.PrintLast Go.Proofs.YtbbpplnnegdenaaGreatW.PrintMore
attribute [local go_sem] max2_int min2_int max_two min_two max_three min_three max_four min_four
set_option linter.unusedVariables false
set_option linter.unusedSimpArgs false
def IsS126 (w0 W : World) (g : Nat) (f0 : List Int) (f1 : Int) (f2 : Int) (f3 : Int) : Prop := ∃ A0 c0, W.heap[g]? = some (.cells #[.slice A0 f0.length c0, .int .i64 f1, .int .u64 f2, .int .u64 f3] 126 (0, 0)) ∧ w0.heap.size ≤ g ∧ Kd.C (Kd.int .u8) w0 A0 f0.length f0
theorem IsS126.grown {w0 W : World} {g : Nat} {f0 : List Int} {f1 : Int} {f2 : Int} {f3 : Int} {W1 : World} {row : Option Nat} (h : IsS126 w0 W g f0 f1 f2 f3) (hw : W.grownBy W1 row) (hne : some g ≠ row) : IsS126 w0 W1 g f0 f1 f2 f3 := by
  obtain ⟨A0, c0, hb, hg, hr0⟩ := h
  exact ⟨A0, c0, blk_grown hb hw hne, hg, hr0⟩
theorem IsS126.fresh {w0 W : World} {g : Nat} {f0 : List Int} {f1 : Int} {f2 : Int} {f3 : Int} (h : IsS126 w0 W g f0 f1 f2 f3) : ∀ k, W.heap.size ≤ k → k ≠ g := by
  obtain ⟨A0, c0, hb, hg, hr0⟩ := h
  exact Kd.freshB hb
theorem IsS126.kept {w0 W : World} {g : Nat} {f0 : List Int} {f1 : Int} {f2 : Int} {f3 : Int} {W1 : World} {S : Nat → Prop} (h : IsS126 w0 W g f0 f1 f2 f3) (hk : Kept W W1 S) (hne : ¬ S g) : IsS126 w0 W1 g f0 f1 f2 f3 := by
  obtain ⟨A0, c0, hb, hg, hr0⟩ := h
  exact ⟨A0, c0, blk_kept hb hk hne, hg, hr0⟩
theorem IsS126.below {w0 W : World} {g : Nat} {f0 : List Int} {f1 : Int} {f2 : Int} {f3 : Int} {W1 : World} (h : IsS126 w0 W g f0 f1 f2 f3) (hw : Below W.heap.size W W1) : IsS126 w0 W1 g f0 f1 f2 f3 := h.grown (grown_of_below hw none) (by simp)
theorem IsS126.alloc {w0 W : World} {g : Nat} {f0 : List Int} {f1 : Int} {f2 : Int} {f3 : Int} (h : IsS126 w0 W g f0 f1 f2 f3) (o : Obj) : IsS126 w0 (W.alloc o) g f0 f1 f2 f3 := h.below (below_alloc (Below.refl _ _) o)
theorem IsS126.drewN {w0 W : World} {g : Nat} {f0 : List Int} {f1 : Int} {f2 : Int} {f3 : Int} (h : IsS126 w0 W g f0 f1 f2 f3) (m : Nat) : IsS126 w0 (W.drewN m) g f0 f1 f2 f3 := h
theorem IsS126.drew {w0 W : World} {g : Nat} {f0 : List Int} {f1 : Int} {f2 : Int} {f3 : Int} (h : IsS126 w0 W g f0 f1 f2 f3) : IsS126 w0 W.drew g f0 f1 f2 f3 := h
theorem IsS126.at_ {w0 W : World} {g : Nat} {f0 : List Int} {f1 : Int} {f2 : Int} {f3 : Int} {w' : World} {m : Nat} (hq : W.drewN m = w') (h : IsS126 w0 W g f0 f1 f2 f3) : IsS126 w0 w' g f0 f1 f2 f3 := by subst hq; exact IsS126.drewN h m
theorem IsS126.apart {w0 W : World} {g : Nat} {f0 : List Int} {f1 : Int} {f2 : Int} {f3 : Int} {α : Type} {d : Kd α} {e : Nat} {base : Nat} {ok : Nat → Prop} {v : Value} {xs : List α} (h : IsS126 w0 W g f0 f1 f2 f3) (ho : d.R e W base ok v xs) (ht : ∀ q, q ∈ e :: d.E → q ≠ 126) : d.R e W base (fun k => ok k ∧ k ≠ g) v xs := by
  obtain ⟨A0, c0, hb, hg, hr0⟩ := h
  exact Kd.R_types ho hb ht
theorem IsS126.own_ne {w0 W : World} {g : Nat} {f0 : List Int} {f1 : Int} {f2 : Int} {f3 : Int} {α : Type} {d : Kd α} {e : Nat} {base : Nat} {ok : Nat → Prop} {v : Value} {xs : List α} (h : IsS126 w0 W g f0 f1 f2 f3) (ho : d.R e W base ok v xs) (ht : e ≠ 126) : some g ≠ v.ownBlock := by
  obtain ⟨A0, c0, hb, hg, hr0⟩ := h
  exact Kd.R_ne ho hb ht
theorem IsS126.lt {w0 W : World} {g : Nat} {f0 : List Int} {f1 : Int} {f2 : Int} {f3 : Int} (h : IsS126 w0 W g f0 f1 f2 f3) : g < W.heap.size := by
  obtain ⟨A0, c0, hb, hg, hr0⟩ := h
  exact blk_lt hb
theorem IsS126.ge {w0 W : World} {g : Nat} {f0 : List Int} {f1 : Int} {f2 : Int} {f3 : Int} (h : IsS126 w0 W g f0 f1 f2 f3) : w0.heap.size ≤ g := by
  obtain ⟨A0, c0, hb, hg, hr0⟩ := h
  exact hg
theorem IsS126.far {w0 W : World} {g : Nat} {f0 : List Int} {f1 : Int} {f2 : Int} {f3 : Int} {p : Addr} (h : IsS126 w0 W g f0 f1 f2 f3) (hne : g ≠ p.block) (u : Value) : IsS126 w0 (W.setCell p u) g f0 f1 f2 f3 := by
  obtain ⟨A0, c0, hb, hg, hr0⟩ := h
  exact ⟨A0, c0, blk_far hb hne u, hg, hr0⟩
theorem cellS126_0 {W : World} {g : Nat} {A0 : Option Addr} {c0 : Nat} {f0 : List Int} {f1 : Int} {f2 : Int} {f3 : Int} (h : W.heap[g]? = some (.cells #[.slice A0 f0.length c0, .int .i64 f1, .int .u64 f2, .int .u64 f3] 126 (0, 0))) : W.cell? ⟨g, 0, none⟩ = some (.slice A0 f0.length c0) := (blk_cell h 0).trans rfl
theorem cellS126_1 {W : World} {g : Nat} {A0 : Option Addr} {c0 : Nat} {f0 : List Int} {f1 : Int} {f2 : Int} {f3 : Int} (h : W.heap[g]? = some (.cells #[.slice A0 f0.length c0, .int .i64 f1, .int .u64 f2, .int .u64 f3] 126 (0, 0))) : W.cell? ⟨g, 1, none⟩ = some (.int .i64 f1) := (blk_cell h 1).trans rfl
theorem IsS126.set_1 {w0 W : World} {g : Nat} {f0 : List Int} {f1 : Int} {f2 : Int} {f3 : Int} (h : IsS126 w0 W g f0 f1 f2 f3) (x : Int) : IsS126 w0 (W.setCell ⟨g, 1, none⟩ (.int .i64 x)) g f0 x f2 f3 := by
  obtain ⟨A0, c0, hb, hg, hr0⟩ := h
  exact ⟨A0, c0, by simpa using blk_set hb 1 (.int .i64 x), hg, hr0⟩
theorem cellS126_2 {W : World} {g : Nat} {A0 : Option Addr} {c0 : Nat} {f0 : List Int} {f1 : Int} {f2 : Int} {f3 : Int} (h : W.heap[g]? = some (.cells #[.slice A0 f0.length c0, .int .i64 f1, .int .u64 f2, .int .u64 f3] 126 (0, 0))) : W.cell? ⟨g, 2, none⟩ = some (.int .u64 f2) := (blk_cell h 2).trans rfl
theorem IsS126.set_2 {w0 W : World} {g : Nat} {f0 : List Int} {f1 : Int} {f2 : Int} {f3 : Int} (h : IsS126 w0 W g f0 f1 f2 f3) (x : Int) : IsS126 w0 (W.setCell ⟨g, 2, none⟩ (.int .u64 x)) g f0 f1 x f3 := by
  obtain ⟨A0, c0, hb, hg, hr0⟩ := h
  exact ⟨A0, c0, by simpa using blk_set hb 2 (.int .u64 x), hg, hr0⟩
theorem cellS126_3 {W : World} {g : Nat} {A0 : Option Addr} {c0 : Nat} {f0 : List Int} {f1 : Int} {f2 : Int} {f3 : Int} (h : W.heap[g]? = some (.cells #[.slice A0 f0.length c0, .int .i64 f1, .int .u64 f2, .int .u64 f3] 126 (0, 0))) : W.cell? ⟨g, 3, none⟩ = some (.int .u64 f3) := (blk_cell h 3).trans rfl
theorem IsS126.set_3 {w0 W : World} {g : Nat} {f0 : List Int} {f1 : Int} {f2 : Int} {f3 : Int} (h : IsS126 w0 W g f0 f1 f2 f3) (x : Int) : IsS126 w0 (W.setCell ⟨g, 3, none⟩ (.int .u64 x)) g f0 f1 f2 x := by
  obtain ⟨A0, c0, hb, hg, hr0⟩ := h
  exact ⟨A0, c0, by simpa using blk_set hb 3 (.int .u64 x), hg, hr0⟩
theorem IsS126.new (w0 W : World) (A0 : Option Addr) (c0 : Nat) (f0 : List Int) (f1 : Int) (f2 : Int) (f3 : Int) (hB : Below w0.heap.size w0 W) (hr0 : Kd.C (Kd.int .u8) w0 A0 f0.length f0) : IsS126 w0 (W.alloc (.cells #[.slice A0 f0.length c0, .int .i64 f1, .int .u64 f2, .int .u64 f3] 126)) W.heap.size f0 f1 f2 f3 := ⟨A0, c0, by simpa using heap_alloc_new W _, hB.size, hr0⟩
def coder_Reader_Find.j0 : Nat → Int → Bool → List Int → Int → Int → Int → Option (Int × Bool × Int × Int × Int)
  | 0, _, _, _, _, _, _ => none
  | k + 1, x1, x16, x1000, x1001, x1002, x1003 => if x16 = true then (some (0, false, x1001, x1002, x1003)) else (if (IntKind.u64.wrap (x1)) = 0 then (none) else (if (IntKind.u64.wrap (Int.tdiv x1003 (IntKind.u64.wrap (x1)))) = 0 then (some (0, false, x1001, x1002, x1003)) else (if (IntKind.u64.wrap (Int.tdiv x1002 (IntKind.u64.wrap (Int.tdiv x1003 (IntKind.u64.wrap (x1)))))) ≥ (IntKind.u64.wrap (x1)) then (some (0, false, x1001, x1002, x1003)) else (some (wrap64 (IntKind.u64.wrap (Int.tdiv x1002 (IntKind.u64.wrap (Int.tdiv x1003 (IntKind.u64.wrap (x1)))))), true, x1001, x1002, x1003)))))
def coder_Reader_Find.f (k : Nat) (s0_0 : List Int) (s0_1 : Int) (s0_2 : Int) (s0_3 : Int) (a1 : Int) : Option (Int × Bool × Int × Int × Int) := if a1 < 1 then (coder_Reader_Find.j0 k a1 true s0_0 s0_1 s0_2 s0_3) else (coder_Reader_Find.j0 k a1 (decide (a1 > 65536)) s0_0 s0_1 s0_2 s0_3)
theorem coder_Reader_Find.mono_l : ∀ k, (∀ y0 y1 y2 y3 y4 y5, LeO (coder_Reader_Find.j0 k y0 y1 y2 y3 y4 y5) (coder_Reader_Find.j0 (k + 1) y0 y1 y2 y3 y4 y5))
  | 0 => fun _ _ _ _ _ _ r h => by simp [coder_Reader_Find.j0] at h
  | k + 1 => by
    have ih0 := coder_Reader_Find.mono_l k
    · intro y0 y1 y2 y3 y4 y5
      unfold coder_Reader_Find.j0
      exact mB
theorem coder_Reader_Find.mono : ∀ a0 a1 a2 a3 a4 k, LeO (coder_Reader_Find.f k a0 a1 a2 a3 a4) (coder_Reader_Find.f (k + 1) a0 a1 a2 a3 a4) := by
  intro a0 a1 a2 a3 a4 k
  have ih0 := coder_Reader_Find.mono_l k
  unfold coder_Reader_Find.f
  exact mB
set_option maxHeartbeats 8000000 in
set_option maxRecDepth 100000 in
theorem coder_Reader_Find.calls (k : Nat) (g : Nat) (s0_0 : List Int) (s0_1 : Int) (s0_2 : Int) (s0_3 : Int) (a1 : Int) (r1 : Int) (r2 : Bool) (r3 : Int) (r4 : Int) (r5 : Int) (w0 w : World) (hI : IsS126 w0 w g s0_0 s0_1 s0_2 s0_3) (hB : Below w0.heap.size w0 w) (h : coder_Reader_Find.f k s0_0 s0_1 s0_2 s0_3 a1 = some (r1, r2, r3, r4, r5)) :
    Calls Tryz.prog 57 #[.pointer (some ⟨g, 0, none⟩), .int .i64 a1] w fun e w' => e = .returned (.tuple #[.int .i64 r1, .bool r2]) ∧ IsS126 w0 w' g s0_0 r3 r4 r5 ∧ Below w0.heap.size w0 w' ∧ KeepBut w w' g none := by
 have HI0 := Aside0.mk hI
 have HK := Aside0.mk (KeepBut.refl w g none)
 have HL := Aside0.mk hB.size
 clear hI
 have HW0 := Aside0.mk hB.size
 have HB := Aside0.mk hB
 clear hB
 have H := h
 clear h
 unfold coder_Reader_Find.f at H
 have HC3 := Aside0.mk H
 clear H
 go_enter Tryz.func57, Tryz.ntmps57
 go_upto_region 1 with (fail)
 go_cut [16] (fun v16 wc => ∃ (kq : Nat) (x16_2 : Bool), v16 = .bool x16_2 ∧ Aside0 (coder_Reader_Find.j0 kq a1 x16_2 s0_0 s0_1 s0_2 s0_3 = some (r1, r2, r3, r4, r5)) ∧ Aside0 (kq ≤ k) ∧ Aside0 (IsS126 w0 wc g s0_0 s0_1 s0_2 s0_3) ∧ Aside0 (KeepBut w wc g none) ∧ Aside0 (Below w0.heap.size w0 wc))
 case first =>
  have H := HC3.out
  clear HC3
  rcases ifC H with ⟨c4b0, H⟩ | ⟨c4b0, H⟩
  ·(first | rw [c4b0] | (simp only [i64_w, i32_w]; rw [c4b0]) | skip)
   have H' := Aside0.mk H
   clear H
   go_wp2
   go_meet
   case rel => exact ⟨_, (true), sD, H', ⟨by first | omega | exact Nat.le_refl _⟩, ⟨by repeat (first | (with_reducible first | exact HI0.out | apply IsS126.alloc | apply IsS126.drewN | apply IsS126.drew | apply IsS126.set_1 | apply IsS126.set_2 | apply IsS126.set_3) | exact HI0.out)⟩, ⟨by repeat (first | (with_reducible first | exact HK.out | apply KeepBut.set_ | apply keep_drewN | apply keep_drew | apply keep_alloc) | exact HK.out)⟩, ⟨by repeat (first | (with_reducible first | exact HB.out | apply below_alloc | apply pw_below_drewN | apply below_drew1 | refine below_set ?_ (IsS126.ge HI0.out)) | exact HB.out)⟩⟩
  ·(first | rw [c4b0] | (simp only [i64_w, i32_w]; rw [c4b0]) | skip)
   have H' := Aside0.mk H
   clear H
   go_wp2
   go_meet
   case rel => exact ⟨_, (decide (a1 > 65536)), sD, H', ⟨by first | omega | exact Nat.le_refl _⟩, ⟨by repeat (first | (with_reducible first | exact HI0.out | apply IsS126.alloc | apply IsS126.drewN | apply IsS126.drew | apply IsS126.set_1 | apply IsS126.set_2 | apply IsS126.set_3) | exact HI0.out)⟩, ⟨by repeat (first | (with_reducible first | exact HK.out | apply KeepBut.set_ | apply keep_drewN | apply keep_drew | apply keep_alloc) | exact HK.out)⟩, ⟨by repeat (first | (with_reducible first | exact HB.out | apply below_alloc | apply pw_below_drewN | apply below_drew1 | refine below_set ?_ (IsS126.ge HI0.out)) | exact HB.out)⟩⟩
 case rest =>
  clear HC3
  try clear p2
  try clear c4
  try clear c4b0
  obtain ⟨kq, x16_2, rfl, HA, HJ2, HI0, HK, HB⟩ := hcut
  cases kq with
  | zero => exact absurd HA.out (by simp [coder_Reader_Find.j0])
  | succ kj2 =>
   have H := HA.out
   clear HA
   simp only [coder_Reader_Find.j0] at H
   by_cases c5 : x16_2 = true
   ·subst c5
    rw [if_pos rfl] at H
    simp only [Option.some.injEq, Prod.mk.injEq] at H
    obtain ⟨rfl, rfl, rfl, rfl, rfl⟩ := H
    go_wp2
    go_ret2
    exact ⟨eR, by repeat (first | (with_reducible first | exact HI0.out | apply IsS126.alloc | apply IsS126.drewN | apply IsS126.drew | apply IsS126.set_1 | apply IsS126.set_2 | apply IsS126.set_3) | exact HI0.out), by repeat (first | (with_reducible first | exact HB.out | apply below_alloc | apply pw_below_drewN | apply below_drew1 | refine below_set ?_ (IsS126.ge HI0.out)) | exact HB.out), by repeat (first | (with_reducible first | exact HK.out | apply KeepBut.set_ | apply keep_drewN | apply keep_drew | apply keep_alloc) | exact HK.out)⟩
   ·replace c5 := Bool.eq_false_iff.mpr c5
    subst c5
    rw [if_neg (by decide)] at H
    by_cases c6 : (IntKind.u64.wrap (a1)) = 0
    ·rw [if_pos c6] at H
     exact absurd H (by simp)
    ·rw [if_neg c6] at H
     have c6b0 : ((IntKind.u64.wrap (a1)) == 0) = false := beq_eq_false_iff_ne.mpr c6
     have c6b1 : ((IntKind.u64.wrap (a1)) != 0) = true := bne_iff_ne.mpr c6
     by_cases c7 : (IntKind.u64.wrap (Int.tdiv s0_3 (IntKind.u64.wrap (a1)))) = 0
     ·rw [if_pos c7] at H
      have c7b0 : ((IntKind.u64.wrap (Int.tdiv s0_3 (IntKind.u64.wrap (a1)))) == 0) = true := beq_iff_eq.mpr c7
      have c7b1 : ((IntKind.u64.wrap (Int.tdiv s0_3 (IntKind.u64.wrap (a1)))) != 0) = false := bne_eq_false_iff_eq.mpr c7
      clear c7
      simp only [Option.some.injEq, Prod.mk.injEq] at H
      obtain ⟨rfl, rfl, rfl, rfl, rfl⟩ := H
      obtain ⟨ASz8_0, cSz8_0, HGz8, hgz8, HSz8_0⟩ := HI0.out
      have hcz8_0 := cellS126_0 HGz8
      have hcz8_1 := cellS126_1 HGz8
      have hcz8_2 := cellS126_2 HGz8
      have hcz8_3 := cellS126_3 HGz8
      have hfz8_1 := blk_frozen HGz8 1
      have hfz8_2 := blk_frozen HGz8 2
      have hfz8_3 := blk_frozen HGz8 3
      clear HGz8 hgz8
      go_wp2
      go_ret2
      exact ⟨eR, by repeat (first | (with_reducible first | exact HI0.out | apply IsS126.alloc | apply IsS126.drewN | apply IsS126.drew | apply IsS126.set_1 | apply IsS126.set_2 | apply IsS126.set_3) | exact HI0.out), by repeat (first | (with_reducible first | exact HB.out | apply below_alloc | apply pw_below_drewN | apply below_drew1 | refine below_set ?_ (IsS126.ge HI0.out)) | exact HB.out), by repeat (first | (with_reducible first | exact HK.out | apply KeepBut.set_ | apply keep_drewN | apply keep_drew | apply keep_alloc) | exact HK.out)⟩
     ·rw [if_neg c7] at H
      have c7b0 : ((IntKind.u64.wrap (Int.tdiv s0_3 (IntKind.u64.wrap (a1)))) == 0) = false := beq_eq_false_iff_ne.mpr c7
      have c7b1 : ((IntKind.u64.wrap (Int.tdiv s0_3 (IntKind.u64.wrap (a1)))) != 0) = true := bne_iff_ne.mpr c7
      rcases ifG H with ⟨c9b0, H⟩ | ⟨c9b0, H⟩
      ·simp only [Option.some.injEq, Prod.mk.injEq] at H
       obtain ⟨rfl, rfl, rfl, rfl, rfl⟩ := H
       obtain ⟨ASz10_0, cSz10_0, HGz10, hgz10, HSz10_0⟩ := HI0.out
       have hcz10_0 := cellS126_0 HGz10
       have hcz10_1 := cellS126_1 HGz10
       have hcz10_2 := cellS126_2 HGz10
       have hcz10_3 := cellS126_3 HGz10
       have hfz10_1 := blk_frozen HGz10 1
       have hfz10_2 := blk_frozen HGz10 2
       have hfz10_3 := blk_frozen HGz10 3
       clear HGz10 hgz10
       go_wp2
       go_ret2
       exact ⟨eR, by repeat (first | (with_reducible first | exact HI0.out | apply IsS126.alloc | apply IsS126.drewN | apply IsS126.drew | apply IsS126.set_1 | apply IsS126.set_2 | apply IsS126.set_3) | exact HI0.out), by repeat (first | (with_reducible first | exact HB.out | apply below_alloc | apply pw_below_drewN | apply below_drew1 | refine below_set ?_ (IsS126.ge HI0.out)) | exact HB.out), by repeat (first | (with_reducible first | exact HK.out | apply KeepBut.set_ | apply keep_drewN | apply keep_drew | apply keep_alloc) | exact HK.out)⟩
      ·simp only [Option.some.injEq, Prod.mk.injEq] at H
       obtain ⟨rfl, rfl, rfl, rfl, rfl⟩ := H
       obtain ⟨ASz11_0, cSz11_0, HGz11, hgz11, HSz11_0⟩ := HI0.out
       have hcz11_0 := cellS126_0 HGz11
       have hcz11_1 := cellS126_1 HGz11
       have hcz11_2 := cellS126_2 HGz11
       have hcz11_3 := cellS126_3 HGz11
       have hfz11_1 := blk_frozen HGz11 1
       have hfz11_2 := blk_frozen HGz11 2
       have hfz11_3 := blk_frozen HGz11 3
       clear HGz11 hgz11
       go_wp2
       go_ret2
       exact ⟨eR, by repeat (first | (with_reducible first | exact HI0.out | apply IsS126.alloc | apply IsS126.drewN | apply IsS126.drew | apply IsS126.set_1 | apply IsS126.set_2 | apply IsS126.set_3) | exact HI0.out), by repeat (first | (with_reducible first | exact HB.out | apply below_alloc | apply pw_below_drewN | apply below_drew1 | refine below_set ?_ (IsS126.ge HI0.out)) | exact HB.out), by repeat (first | (with_reducible first | exact HK.out | apply KeepBut.set_ | apply keep_drewN | apply keep_drew | apply keep_alloc) | exact HK.out)⟩
mutual
def model_Model_Find.j0 : Nat → Int → Int → Bool → List Int → Int → Option (Int × Bool × Int)
  | 0, _, _, _, _, _ => none
  | k + 1, x1, x4, x13, x1000, x1001 => if x13 = true then (some (0, false, x1001)) else (model_Model_Find.l0 k x1 x4 x1000 x1001)
def model_Model_Find.l0 : Nat → Int → Int → List Int → Int → Option (Int × Bool × Int)
  | 0, _, _, _, _ => none
  | k + 1, x1, x4, x1000, x1001 => if 0 ≤ x4 then (if x4 < (x1000.length : Int) then (if x1 ≥ (rd x1000 x4) then (model_Model_Find.l0 k (wrap64 (x1 - (rd x1000 x4))) (wrap64 (x4 + 1)) x1000 x1001) else (some (x4, true, x1001))) else (none)) else (none)
end
def model_Model_Find.f (k : Nat) (s0_0 : List Int) (s0_1 : Int) (a1 : Int) : Option (Int × Bool × Int) := if a1 < 0 then (model_Model_Find.j0 k a1 0 true s0_0 s0_1) else ((model_Model_Total.f s0_0 s0_1).bind fun bt148 => (model_Model_Find.j0 k a1 0 (decide (a1 ≥ bt148.1)) s0_0 bt148.2))
theorem model_Model_Find.mono_l : ∀ k, (∀ y0 y1 y2 y3 y4, LeO (model_Model_Find.j0 k y0 y1 y2 y3 y4) (model_Model_Find.j0 (k + 1) y0 y1 y2 y3 y4)) ∧ (∀ y0 y1 y2 y3, LeO (model_Model_Find.l0 k y0 y1 y2 y3) (model_Model_Find.l0 (k + 1) y0 y1 y2 y3))
  | 0 => ⟨fun _ _ _ _ _ r h => by simp [model_Model_Find.j0] at h, fun _ _ _ _ r h => by simp [model_Model_Find.l0] at h⟩
  | k + 1 => by
    obtain ⟨ih0, ih1⟩ := model_Model_Find.mono_l k
    refine ⟨?_, ?_⟩
    · intro y0 y1 y2 y3 y4
      unfold model_Model_Find.j0
      exact mB
    · intro y0 y1 y2 y3
      unfold model_Model_Find.l0
      exact mB
theorem model_Model_Find.mono : ∀ a0 a1 a2 k, LeO (model_Model_Find.f k a0 a1 a2) (model_Model_Find.f (k + 1) a0 a1 a2) := by
  intro a0 a1 a2 k
  obtain ⟨ih0, ih1⟩ := model_Model_Find.mono_l k
  unfold model_Model_Find.f
  exact mB
set_option maxHeartbeats 8000000 in
set_option maxRecDepth 100000 in
theorem model_Model_Find.calls (k : Nat) (g : Nat) (s0_0 : List Int) (s0_1 : Int) (a1 : Int) (r1 : Int) (r2 : Bool) (r3 : Int) (w0 w : World) (hI : IsS92 w0 w g s0_0 s0_1) (hB : Below w0.heap.size w0 w) (h : model_Model_Find.f k s0_0 s0_1 a1 = some (r1, r2, r3)) :
    Calls Tryz.prog 58 #[.pointer (some ⟨g, 0, none⟩), .int .i64 a1] w fun e w' => e = .returned (.tuple #[.int .i64 r1, .bool r2]) ∧ IsS92 w0 w' g s0_0 r3 ∧ Below w0.heap.size w0 w' ∧ KeepBut w w' g none := by
 have HI0 := Aside0.mk hI
 have HK := Aside0.mk (KeepBut.refl w g none)
 have HL := Aside0.mk hB.size
 clear hI
 have HW0 := Aside0.mk hB.size
 have HB := Aside0.mk hB
 clear hB
 have H := h
 clear h
 unfold model_Model_Find.f at H
 have HC3 := Aside0.mk H
 clear H
 go_enter Tryz.func58, Tryz.ntmps58
 go_upto_region 1 with (fail)
 go_cut [13] (fun v13 wc => ∃ (kq : Nat) (x13_2 : Bool) (x1001_2 : Int), v13 = .bool x13_2 ∧ Aside0 (model_Model_Find.j0 kq a1 0 x13_2 s0_0 x1001_2 = some (r1, r2, r3)) ∧ Aside0 (kq ≤ k) ∧ Aside0 (IsS92 w0 wc g s0_0 x1001_2) ∧ Aside0 (KeepBut w wc g none) ∧ Aside0 (Below w0.heap.size w0 wc))
 case first =>
  have H := HC3.out
  clear HC3
  rcases ifC H with ⟨c4b0, H⟩ | ⟨c4b0, H⟩
  ·(first | rw [c4b0] | (simp only [i64_w, i32_w]; rw [c4b0]) | skip)
   have H' := Aside0.mk H
   clear H
   go_wp2
   go_meet
   case rel => exact ⟨_, (true), (s0_1), sD, H', ⟨by first | omega | exact Nat.le_refl _⟩, ⟨by repeat (first | (with_reducible first | exact HI0.out | apply IsS92.alloc | apply IsS92.drewN | apply IsS92.drew | apply IsS92.set_1) | exact HI0.out)⟩, ⟨by repeat (first | (with_reducible first | exact HK.out | apply KeepBut.set_ | apply keep_drewN | apply keep_drew | apply keep_alloc) | exact HK.out)⟩, ⟨by repeat (first | (with_reducible first | exact HB.out | apply below_alloc | apply pw_below_drewN | apply below_drew1 | refine below_set ?_ (IsS92.ge HI0.out)) | exact HB.out)⟩⟩
  ·(first | rw [c4b0] | (simp only [i64_w, i32_w]; rw [c4b0]) | skip)
   obtain ⟨⟨t148, t149⟩, A5, H⟩ := bdS H
   try dsimp only at H
   have H' := Aside0.mk H
   clear H
   go_wp2_with (first | (go_at_call 23; (with_reducible refine (model_Model_Total.calls g s0_0 s0_1 t148 t149 w0 _ ?side1 ?side2 A5.out).mono ?_); (case side1 => repeat (first | (with_reducible first | exact HI0.out | apply IsS92.alloc | apply IsS92.drewN | apply IsS92.drew | apply IsS92.set_1) | exact HI0.out)); (case side2 => repeat (first | (with_reducible first | exact HB.out | apply below_alloc | apply pw_below_drewN | apply below_drew1 | refine below_set ?_ (IsS92.ge HI0.out)) | exact HB.out)); rintro e w6 ⟨rfl, hi, hb, hk⟩; have n0_ := Aside0.mk (KeepBut.trans (by repeat (first | (with_reducible first | exact HK.out | apply KeepBut.set_ | apply keep_drewN | apply keep_drew | apply keep_alloc) | exact HK.out)) hk (.inl rfl)); have n1_ := Aside0.mk (hb); have n2_ := Aside0.mk (hi); clear HK; clear HB; clear HI0; have HK := n0_; have HB := n1_; have HI0 := n2_; clear n0_ n1_ n2_; (try clear hb); (try clear hb2); (try clear hk); (try clear hi)))
   go_meet
   case rel => exact ⟨_, (decide (a1 ≥ t148)), (t149), sD, H', ⟨by first | omega | exact Nat.le_refl _⟩, ⟨by repeat (first | (with_reducible first | exact HI0.out | apply IsS92.alloc | apply IsS92.drewN | apply IsS92.drew | apply IsS92.set_1) | exact HI0.out)⟩, ⟨by repeat (first | (with_reducible first | exact HK.out | apply KeepBut.set_ | apply keep_drewN | apply keep_drew | apply keep_alloc) | exact HK.out)⟩, ⟨by repeat (first | (with_reducible first | exact HB.out | apply below_alloc | apply pw_below_drewN | apply below_drew1 | refine below_set ?_ (IsS92.ge HI0.out)) | exact HB.out)⟩⟩
 case rest =>
  clear HC3
  try clear p2
  try clear c4
  try clear c4b0
  try clear c5
  obtain ⟨kq, x13_2, x1001_2, rfl, HA, HJ2, HI0, HK, HB⟩ := hcut
  cases kq with
  | zero => exact absurd HA.out (by simp [model_Model_Find.j0])
  | succ kj2 =>
   have H := HA.out
   clear HA
   simp only [model_Model_Find.j0] at H
   by_cases c7 : x13_2 = true
   ·subst c7
    rw [if_pos rfl] at H
    simp only [Option.some.injEq, Prod.mk.injEq] at H
    obtain ⟨rfl, rfl, rfl⟩ := H
    go_wp2
    go_ret2
    exact ⟨eR, by repeat (first | (with_reducible first | exact HI0.out | apply IsS92.alloc | apply IsS92.drewN | apply IsS92.drew | apply IsS92.set_1) | exact HI0.out), by repeat (first | (with_reducible first | exact HB.out | apply below_alloc | apply pw_below_drewN | apply below_drew1 | refine below_set ?_ (IsS92.ge HI0.out)) | exact HB.out), by repeat (first | (with_reducible first | exact HK.out | apply KeepBut.set_ | apply keep_drewN | apply keep_drew | apply keep_alloc) | exact HK.out)⟩
   ·replace c7 := Bool.eq_false_iff.mpr c7
    subst c7
    rw [if_neg (by decide)] at H
    have H' := Aside0.mk H
    clear H
    go_wp2
    go_loopg [1, 4] kj2 (fun kq v1 v4 w' => ∃ (x1_2 : Int) (x4_2 : Int), v1 = .int .i64 x1_2 ∧ v4 = .int .i64 x4_2 ∧ Aside0 (model_Model_Find.l0 kq x1_2 x4_2 s0_0 x1001_2 = some (r1, r2, r3)) ∧ Aside0 (kq ≤ kj2) ∧ Aside0 (IsS92 w0 w' g s0_0 x1001_2) ∧ Aside0 (KeepBut w w' g none) ∧ Aside0 (Below w0.heap.size w0 w'))
    case atStart => exact ⟨(a1), (0), sD, sD, H', ⟨Nat.le_refl _⟩, ⟨by repeat (first | (with_reducible first | exact HI0.out | apply IsS92.alloc | apply IsS92.drewN | apply IsS92.drew | apply IsS92.set_1) | exact HI0.out)⟩, ⟨by repeat (first | (with_reducible first | exact HK.out | apply KeepBut.set_ | apply keep_drewN | apply keep_drew | apply keep_alloc) | exact HK.out)⟩, ⟨by repeat (first | (with_reducible first | exact HB.out | apply below_alloc | apply pw_below_drewN | apply below_drew1 | refine below_set ?_ (IsS92.ge HI0.out)) | exact HB.out)⟩⟩
    case round =>
     clear H'
     try clear p2
     try clear c4
     try clear c4b0
     try clear c5
     try clear c7
     try clear p2
     obtain ⟨x1_2, x4_2, rfl, rfl, HA, HK2, HI0, HK, HB⟩ := hrel
     cases gk with
     | zero => exact absurd HA.out (by simp [model_Model_Find.l0])
     | succ k2 =>
      have H := HA.out
      clear HA
      simp only [model_Model_Find.l0] at H
      obtain ⟨c8b0, c9b0, H⟩ := ifD2 H
      rcases ifG H with ⟨c10b0, H⟩ | ⟨c10b0, H⟩
      ·have H' := Aside0.mk H
       clear H
       obtain ⟨ASz11_0, cSz11_0, HGz11, hgz11, HSz11_0⟩ := HI0.out
       have hcz11_0 := cellS92_0 HGz11
       have hcz11_1 := cellS92_1 HGz11
       have hfz11_1 := blk_frozen HGz11 1
       clear HGz11 hgz11
       have p150 : 0 ≤ (x4_2 : Int) := dT
       have q150 : x4_2 < (s0_0.length : Int) := dT
       obtain ⟨ad150, e150, hx150_0⟩ := Kd.at_int HSz11_0 x4_2 p150 q150
       cases e150
       replace hx150_0 := pw_cell_below HB.out hx150_0
       replace p150 := eq_true p150
       replace q150 := eq_true q150
       have p151 : 0 ≤ (x4_2 : Int) := dT
       have q151 : x4_2 < (s0_0.length : Int) := dT
       obtain ⟨ad151, e151, hx151_0⟩ := Kd.at_int HSz11_0 x4_2 p151 q151
       obtain rfl : ad150 = ad151 := (by injection e151)
       replace hx151_0 := pw_cell_below HB.out hx151_0
       replace p151 := eq_true p151
       replace q151 := eq_true q151
       go_wp2
       go_roundg k2
       case measure => have := HJ2.out; have := HK2.out; omega
       case rel => exact ⟨(wrap64 (x1_2 - (rd s0_0 x4_2))), (wrap64 (x4_2 + 1)), sD, sD, H', ⟨by have := HJ2.out; have := HK2.out; omega⟩, ⟨by repeat (first | (with_reducible first | exact HI0.out | apply IsS92.alloc | apply IsS92.drewN | apply IsS92.drew | apply IsS92.set_1) | exact HI0.out)⟩, ⟨by repeat (first | (with_reducible first | exact HK.out | apply KeepBut.set_ | apply keep_drewN | apply keep_drew | apply keep_alloc) | exact HK.out)⟩, ⟨by repeat (first | (with_reducible first | exact HB.out | apply below_alloc | apply pw_below_drewN | apply below_drew1 | refine below_set ?_ (IsS92.ge HI0.out)) | exact HB.out)⟩⟩
      ·simp only [Option.some.injEq, Prod.mk.injEq] at H
       obtain ⟨rfl, rfl, rfl⟩ := H
       obtain ⟨ASz12_0, cSz12_0, HGz12, hgz12, HSz12_0⟩ := HI0.out
       have hcz12_0 := cellS92_0 HGz12
       have hcz12_1 := cellS92_1 HGz12
       have hfz12_1 := blk_frozen HGz12 1
       clear HGz12 hgz12
       have p150 : 0 ≤ (x4_2 : Int) := dT
       have q150 : x4_2 < (s0_0.length : Int) := dT
       obtain ⟨ad150, e150, hx150_0⟩ := Kd.at_int HSz12_0 x4_2 p150 q150
       cases e150
       replace hx150_0 := pw_cell_below HB.out hx150_0
       replace p150 := eq_true p150
       replace q150 := eq_true q150
       go_wp2
       go_ret2
       exact ⟨eR, by repeat (first | (with_reducible first | exact HI0.out | apply IsS92.alloc | apply IsS92.drewN | apply IsS92.drew | apply IsS92.set_1) | exact HI0.out), by repeat (first | (with_reducible first | exact HB.out | apply below_alloc | apply pw_below_drewN | apply below_drew1 | refine below_set ?_ (IsS92.ge HI0.out)) | exact HB.out), by repeat (first | (with_reducible first | exact HK.out | apply KeepBut.set_ | apply keep_drewN | apply keep_drew | apply keep_alloc) | exact HK.out)⟩
mutual
def runs_Back.l0 : Nat → Int → List Int → Int → List Int → Int → Int → Option (List Int × Bool)
  | 0, _, _, _, _, _, _ => none
  | k + 1, x1, x6, x7, x14, x15, x16 => if x16 < x15 then (if 0 ≤ x16 then (if x16 < (x14.length : Int) then (if (rd x14 x16) < 0 then (runs_Back.j1 k x1 x6 x7 (rd x14 x16) x14 x15 x16 true) else (runs_Back.j1 k x1 x6 x7 (rd x14 x16) x14 x15 x16 (decide ((rd x14 x16) ≥ 257)))) else (none)) else (none)) else (some (x6, true))
def runs_Back.j1 : Nat → Int → List Int → Int → Int → List Int → Int → Int → Bool → Option (List Int × Bool)
  | 0, _, _, _, _, _, _, _, _ => none
  | k + 1, x1, x6, x7, x9, x14, x15, x16, x40 => if x40 = true then (some (([] : List Int), false)) else (if x9 ≥ 2 then (if x6.length < 140737488355328 then ((some (x6 ++ [(wrap64 (x9 - 1)) % 256] : List Int)).bind fun y157 => (if (y157.length : Int) > x1 then (some (([] : List Int), false)) else (runs_Back.l0 k x1 y157 1 x14 x15 (wrap64 (x16 + 1))))) else (none)) else (if x7 > x1 then (runs_Back.j2 k x1 x6 x7 (wrap64 ((wrap64 (x9 + 1)) * x7)) x14 x15 x16 true) else (runs_Back.j2 k x1 x6 x7 (wrap64 ((wrap64 (x9 + 1)) * x7)) x14 x15 x16 (decide ((wrap64 ((wrap64 (x9 + 1)) * x7)) > (wrap64 (x1 - (x6.length : Int))))))))
def runs_Back.j2 : Nat → Int → List Int → Int → Int → List Int → Int → Int → Bool → Option (List Int × Bool)
  | 0, _, _, _, _, _, _, _, _ => none
  | k + 1, x1, x6, x7, x10, x14, x15, x16, x34 => if x34 = true then (some (([] : List Int), false)) else (if 0 ≤ x10 then (if x6.length + (x10 : Int).toNat < 140737488355328 then ((some (x6 ++ List.replicate (x10 : Int).toNat 0 : List Int)).bind fun y160 => (if (y160.length : Int) > x1 then (some (([] : List Int), false)) else (runs_Back.l0 k x1 y160 (wrap64 (x7 * 2)) x14 x15 (wrap64 (x16 + 1))))) else (none)) else (none))
end
def runs_Back.f (k : Nat) (l0 : List Int) (a1 : Int) : Option (List Int × Bool) := if a1 < 0 then (some (([] : List Int), false)) else (runs_Back.l0 k a1 (([] : List Int)) 1 l0 (l0.length : Int) 0)
theorem runs_Back.mono_l : ∀ k, (∀ y0 y1 y2 y3 y4 y5, LeO (runs_Back.l0 k y0 y1 y2 y3 y4 y5) (runs_Back.l0 (k + 1) y0 y1 y2 y3 y4 y5)) ∧ (∀ y0 y1 y2 y3 y4 y5 y6 y7, LeO (runs_Back.j1 k y0 y1 y2 y3 y4 y5 y6 y7) (runs_Back.j1 (k + 1) y0 y1 y2 y3 y4 y5 y6 y7)) ∧ (∀ y0 y1 y2 y3 y4 y5 y6 y7, LeO (runs_Back.j2 k y0 y1 y2 y3 y4 y5 y6 y7) (runs_Back.j2 (k + 1) y0 y1 y2 y3 y4 y5 y6 y7))
  | 0 => ⟨fun _ _ _ _ _ _ r h => by simp [runs_Back.l0] at h, fun _ _ _ _ _ _ _ _ r h => by simp [runs_Back.j1] at h, fun _ _ _ _ _ _ _ _ r h => by simp [runs_Back.j2] at h⟩
  | k + 1 => by
    obtain ⟨ih0, ih1, ih2⟩ := runs_Back.mono_l k
    refine ⟨?_, ?_, ?_⟩
    · intro y0 y1 y2 y3 y4 y5
      unfold runs_Back.l0
      exact mB
    · intro y0 y1 y2 y3 y4 y5 y6 y7
      unfold runs_Back.j1
      exact mB
    · intro y0 y1 y2 y3 y4 y5 y6 y7
      unfold runs_Back.j2
      exact mB
theorem runs_Back.mono : ∀ a0 a1 k, LeO (runs_Back.f k a0 a1) (runs_Back.f (k + 1) a0 a1) := by
  intro a0 a1 k
  obtain ⟨ih0, ih1, ih2⟩ := runs_Back.mono_l k
  unfold runs_Back.f
  exact mB
set_option maxHeartbeats 8000000 in
set_option maxRecDepth 100000 in
theorem runs_Back.calls (k : Nat) (A0 : Option Addr) (c0 : Nat) (l0 : List Int) (a1 : Int) (r1 : List Int) (r2 : Bool) (w : World) (hr0 : Kd.C (Kd.int .i64) w A0 l0.length l0) (hc0 : l0.length ≤ c0) (h : runs_Back.f k l0 a1 = some (r1, r2)) :
    Calls Tryz.prog 27 #[.slice A0 l0.length c0, .int .i64 a1] w fun e w' => ∃ v0_ : Value, e = .returned (.tuple #[v0_, .bool r2]) ∧ Kd.R (Kd.int .u8) 5 w' w.heap.size (fun _ => True) v0_ r1 ∧ Below w.heap.size w w' := by
 have HR0 := Aside0.mk hr0
 have HC0 := Aside0.mk hc0
 clear hr0 hc0
 have HB := Aside0.mk (Below.refl w.heap.size w)
 have H := h
 clear h
 unfold runs_Back.f at H
 rcases ifC H with ⟨c3b0, H⟩ | ⟨c3b0, H⟩
 ·simp only [Option.some.injEq, Prod.mk.injEq] at H
  obtain ⟨rfl, rfl⟩ := H
  go_enter Tryz.func27, Tryz.ntmps27
  go_wp2
  go_ret2
  exact ⟨_, eR, nL, uB⟩
 ·generalize hy153 : (([] : List Int) : List Int) = y153 at H
  try simp only [Option.bind_some] at H
  have Ny153 := Aside0.mk hy153.symm
  clear hy153
  have H' := Aside0.mk H
  clear H
  go_enter Tryz.func27, Tryz.ntmps27
  go_wp2_with (first | ((with_reducible refine gate_dst (N := 13) rfl ?_); (try (refine gate_guard (by rfl) ?_; dsimp only)); refine Kd.R_lit (Kd.int .u8) _ 5 ?hg (N := 13) ?hd (xs := ([] : List Int)) (inner := []) (ok := fun _ => True) (okp := fun _ => True) ?hr ?hp (fun _ hk => hk) trivial (Below.refl _ _) (Nat.le_refl _) (by simp) ?_; (case hd => rfl); (case hg => rfl); (case hr => first | (go_simp; done) | (go_simp; rfl)); (case hp => exact (Reps.none _ _)); intro v154 w4 ho5 hb hg_ hnew_; clear hg_ hnew_; (first | rw [← Ny153.out] at ho5 | (simp only [Int.reduceToNat] at ho5; rw [← Ny153.out] at ho5)); have n0_ := Aside0.mk (Kd.R_lower ho5 (below_size uB)); have n1_ := Aside0.mk (below_step uB hb); clear HB; have HO155 := n0_; have HB := n1_; clear n0_ n1_; clear hb ho5))
  go_loopg [6, 7, 16] k (fun kq v6 v7 v16 w' => ∃ (x6_1 : List Int) (x7_1 : Int) (x16_1 : Int), v7 = .int .i64 x7_1 ∧ v16 = .int .i64 x16_1 ∧ Aside0 (runs_Back.l0 kq a1 x6_1 x7_1 l0 (l0.length : Int) x16_1 = some (r1, r2)) ∧ Aside0 (kq ≤ k) ∧ Aside0 (Kd.R (Kd.int .u8) 5 w' w.heap.size (fun _ => True) v6 x6_1) ∧ Aside0 (Below w.heap.size w w'))
  case atStart => exact ⟨(y153), (1), (0), sD, sD, H', ⟨Nat.le_refl _⟩, ⟨uR HO155.out⟩, ⟨uB⟩⟩
  case round =>
   clear H'
   try clear c2
   try clear p2
   try clear c3
   try clear c3b0
   obtain ⟨x6_1, x7_1, x16_1, rfl, rfl, HA, HK1, HO_6, HB⟩ := hrel
   cases gk with
   | zero => exact absurd HA.out (by simp [runs_Back.l0])
   | succ k1 =>
    have H := HA.out
    clear HA
    simp only [runs_Back.l0] at H
    rcases ifC H with ⟨c6b0, H⟩ | ⟨c6b0, H⟩
    ·obtain ⟨c7b0, c8b0, H⟩ := ifD2 H
     have HC9 := Aside0.mk H
     clear H
     obtain ⟨ad156, e156, hx156_0, p156, q156⟩ := rIO HB.out HR0.out x16_1
     cases e156
     go_upto_region 13 with (fail)
     go_cut [40] (fun v40 wc => ∃ (kq : Nat) (x40_8 : Bool), v40 = .bool x40_8 ∧ Aside0 (runs_Back.j1 kq a1 x6_1 x7_1 (rd l0 x16_1) l0 (l0.length : Int) x16_1 x40_8 = some (r1, r2)) ∧ Aside0 (kq ≤ k1) ∧ Aside0 (Kd.R (Kd.int .u8) 5 wc w.heap.size (fun _ => True) u6 x6_1) ∧ Aside0 (Below w.heap.size w wc))
     case first =>
      have H := HC9.out
      clear HC9
      rcases ifC H with ⟨c10b0, H⟩ | ⟨c10b0, H⟩
      ·(first | rw [c10b0] | (simp only [i64_w, i32_w]; rw [c10b0]) | skip)
       have H' := Aside0.mk H
       clear H
       go_wp2
       go_meet
       case rel => exact ⟨_, (true), sD, H', ⟨by have := HK1.out; first | omega | exact Nat.le_refl _⟩, ⟨uR HO_6.out⟩, ⟨uB⟩⟩
      ·(first | rw [c10b0] | (simp only [i64_w, i32_w]; rw [c10b0]) | skip)
       have H' := Aside0.mk H
       clear H
       go_wp2
       go_meet
       case rel => exact ⟨_, (decide ((rd l0 x16_1) ≥ 257)), sD, H', ⟨by have := HK1.out; first | omega | exact Nat.le_refl _⟩, ⟨uR HO_6.out⟩, ⟨uB⟩⟩
     case rest =>
      clear HC9
      try clear c1
      try clear p1
      try clear q1
      try clear hx1
      try clear c2
      try clear p2
      try clear c3
      try clear c3b0
      try clear c6
      try clear c6b0
      try clear c7
      try clear c7b0
      try clear c8
      try clear c8b0
      try clear c10
      try clear c10b0
      try clear hx156_0
      try clear p156
      try clear p2
      try clear q156
      obtain ⟨kq, x40_8, rfl, HA, HJ8, HO_6, HB⟩ := hcut
      cases kq with
      | zero => exact absurd HA.out (by simp [runs_Back.j1])
      | succ kj8 =>
       have H := HA.out
       clear HA
       simp only [runs_Back.j1] at H
       by_cases c11 : x40_8 = true
       ·subst c11
        rw [if_pos rfl] at H
        simp only [Option.some.injEq, Prod.mk.injEq] at H
        obtain ⟨rfl, rfl⟩ := H
        go_wp2
        go_ret2
        exact ⟨_, eR, nL, uB⟩
       ·replace c11 := Bool.eq_false_iff.mpr c11
        subst c11
        rw [if_neg (by decide)] at H
        rcases ifG H with ⟨c12b0, H⟩ | ⟨c12b0, H⟩
        ·obtain ⟨c13, H⟩ := ifP H
         have LMc13 := Aside0.mk c13
         clear c13
         generalize hy157 : (x6_1 ++ [(wrap64 ((rd l0 x16_1) - 1)) % 256] : List Int) = y157 at H
         try simp only [Option.bind_some] at H
         have Ny157 := Aside0.mk hy157.symm
         clear hy157
         rcases ifK H with ⟨c14b0, H⟩ | ⟨c14b0, H⟩
         ·simp only [Option.some.injEq, Prod.mk.injEq] at H
          obtain ⟨rfl, rfl⟩ := H
          go_wp2_with (first | ((with_reducible refine gate_builtin (b := .append) (xs := #[.tmp 50, .tmp 54]) rfl ?_); (try (refine gate_guard (by rfl) ?_; dsimp only)); at_builtin; refine Kd.R_append (Kd.int .u8) (w0 := w) w.heap.size rfl (.tmp 50) (.tmp 54) 22 5 (.int .u8 0) 1 rfl Tryz.underlying22 info5 rfl (by decide) (by omega) u6 x6_1 ((wrap64 ((rd l0 x16_1) - 1)) % 256) [.int .u8 ((wrap64 ((rd l0 x16_1) - 1)) % 256)] (fun _ => True) (fun _ => False) rfl rfl ?aP (fun _ hk => hk.elim) ?aF ?aO ?aB ?aS ?aL ?_; (case aP => exact rfl); (case aB => exact uB); (case aF => exact (fun _ _ => trivial)); (case aO => exact (uR HO_6.out)); (case aS => exact (below_size uB)); (case aL => have := LMc13.out; omega); intro v158 w15 ho hb hg hat; rw [← Ny157.out] at ho; have n0_ := Aside0.mk (hb); have n1_ := Aside0.mk (ho); clear HB; clear HO_6; have HB := n0_; have HO159 := n1_; clear n0_ n1_; clear ho hb hg hat; obtain ⟨Ao16, co16, eo16⟩ := Kd.R_slice HO159.out; subst eo16))
          go_ret2
          exact ⟨_, eR, nL, uB⟩
         ·have H' := Aside0.mk H
          clear H
          go_wp2_with (first | ((with_reducible refine gate_builtin (b := .append) (xs := #[.tmp 50, .tmp 54]) rfl ?_); (try (refine gate_guard (by rfl) ?_; dsimp only)); at_builtin; refine Kd.R_append (Kd.int .u8) (w0 := w) w.heap.size rfl (.tmp 50) (.tmp 54) 22 5 (.int .u8 0) 1 rfl Tryz.underlying22 info5 rfl (by decide) (by omega) u6 x6_1 ((wrap64 ((rd l0 x16_1) - 1)) % 256) [.int .u8 ((wrap64 ((rd l0 x16_1) - 1)) % 256)] (fun _ => True) (fun _ => False) rfl rfl ?aP (fun _ hk => hk.elim) ?aF ?aO ?aB ?aS ?aL ?_; (case aP => exact rfl); (case aB => exact uB); (case aF => exact (fun _ _ => trivial)); (case aO => exact (uR HO_6.out)); (case aS => exact (below_size uB)); (case aL => have := LMc13.out; omega); intro v158 w17 ho hb hg hat; rw [← Ny157.out] at ho; have n0_ := Aside0.mk (hb); have n1_ := Aside0.mk (ho); clear HB; clear HO_6; have HB := n0_; have HO159 := n1_; clear n0_ n1_; clear ho hb hg hat; obtain ⟨Ao18, co18, eo18⟩ := Kd.R_slice HO159.out; subst eo18))
          go_roundg kj8
          case measure => have := HK1.out; have := HJ8.out; omega
          case rel => exact ⟨(y157), (1), (wrap64 (x16_1 + 1)), sD, sD, H', ⟨by have := HK1.out; have := HJ8.out; omega⟩, ⟨uR HO159.out⟩, ⟨uB⟩⟩
        ·have HC19 := Aside0.mk H
         clear H
         go_upto_region 9 with (fail)
         go_cut [34] (fun v34 wc => ∃ (kq : Nat) (x34_18 : Bool), v34 = .bool x34_18 ∧ Aside0 (runs_Back.j2 kq a1 x6_1 x7_1 (wrap64 ((wrap64 ((rd l0 x16_1) + 1)) * x7_1)) l0 (l0.length : Int) x16_1 x34_18 = some (r1, r2)) ∧ Aside0 (kq ≤ kj8) ∧ Aside0 (Kd.R (Kd.int .u8) 5 wc w.heap.size (fun _ => True) u6 x6_1) ∧ Aside0 (Below w.heap.size w wc))
         case first =>
          have H := HC19.out
          clear HC19
          rcases ifK H with ⟨c20b0, H⟩ | ⟨c20b0, H⟩
          ·(first | rw [c20b0] | (simp only [i64_w, i32_w]; rw [c20b0]) | skip)
           have H' := Aside0.mk H
           clear H
           go_wp2
           go_meet
           case rel => exact ⟨_, (true), sD, H', ⟨by have := HK1.out; have := HJ8.out; first | omega | exact Nat.le_refl _⟩, ⟨uR HO_6.out⟩, ⟨uB⟩⟩
          ·(first | rw [c20b0] | (simp only [i64_w, i32_w]; rw [c20b0]) | skip)
           have H' := Aside0.mk H
           clear H
           obtain ⟨Ao21, co21, eo21⟩ := Kd.R_slice HO_6.out
           subst eo21
           go_wp2
           go_meet
           case rel => exact ⟨_, (decide ((wrap64 ((wrap64 ((rd l0 x16_1) + 1)) * x7_1)) > (wrap64 (a1 - (x6_1.length : Int))))), sD, H', ⟨by have := HK1.out; have := HJ8.out; first | omega | exact Nat.le_refl _⟩, ⟨uR HO_6.out⟩, ⟨uB⟩⟩
         case rest =>
          clear HC19
          try clear c1
          try clear p1
          try clear q1
          try clear hx1
          try clear c2
          try clear p2
          try clear c3
          try clear c3b0
          try clear c6
          try clear c6b0
          try clear p6
          try clear c7
          try clear c7b0
          try clear c8
          try clear c8b0
          try clear c10
          try clear c10b0
          try clear c11
          try clear c12
          try clear c12b0
          try clear c13
          try clear c14
          try clear c14b0
          try clear p15
          try clear q15
          try clear hx15
          try clear c20
          try clear c20b0
          try clear hx156_0
          try clear p1
          try clear p156
          try clear p2
          try clear q1
          try clear q156
          obtain ⟨kq, x34_18, rfl, HA, HJ18, HO_6, HB⟩ := hcut
          cases kq with
          | zero => exact absurd HA.out (by simp [runs_Back.j2])
          | succ kj18 =>
           have H := HA.out
           clear HA
           simp only [runs_Back.j2] at H
           by_cases c22 : x34_18 = true
           ·subst c22
            rw [if_pos rfl] at H
            simp only [Option.some.injEq, Prod.mk.injEq] at H
            obtain ⟨rfl, rfl⟩ := H
            go_wp2
            go_ret2
            exact ⟨_, eR, nL, uB⟩
           ·replace c22 := Bool.eq_false_iff.mpr c22
            subst c22
            rw [if_neg (by decide)] at H
            obtain ⟨ji23, hji23⟩ : ∃ j_ : Int, (wrap64 ((wrap64 ((rd l0 x16_1) + 1)) * x7_1)) = j_ := ⟨_, rfl⟩
            first | rw [hji23] at H | simp only [hji23] at H
            have hji23w : (IntKind.i64.wrap ((wrap64 ((rd l0 x16_1) + 1)) * x7_1)) = ji23 := (i64_w _).trans hji23
            obtain ⟨c24b0, c24b1, H⟩ := ifE H
            obtain ⟨c25, H⟩ := ifP H
            have LMc25 := Aside0.mk c25
            clear c25
            generalize hy160 : (x6_1 ++ List.replicate ((ji23) : Int).toNat 0 : List Int) = y160 at H
            try simp only [Option.bind_some] at H
            have Ny160 := Aside0.mk hy160.symm
            clear hy160
            rcases ifK H with ⟨c26b0, H⟩ | ⟨c26b0, H⟩
            ·simp only [Option.some.injEq, Prod.mk.injEq] at H
             obtain ⟨rfl, rfl⟩ := H
             try simp only [hji23]
             go_wp2_with (first | (at_builtin; refine Kd.R_append_zeros (Kd.int .u8) (w0 := w) w.heap.size rfl (.tmp 35) (.tmp 36) 22 3 5 (.int .u8 0) 1 rfl Tryz.underlying22 Tryz.underlying3 info5 rfl (by decide) (by omega) u6 x6_1 0 ((ji23) : Int) (fun _ => True) rfl rfl rfl ?aF ?aO dT ?aB ?aS ?aL ?_; (case aB => exact uB); (case aF => exact (fun _ _ => trivial)); (case aO => exact (uR HO_6.out)); (case aS => exact (below_size uB)); (case aL => have := LMc25.out; omega); intro v161 w27 ho hb hg hat; rw [← Ny160.out] at ho; have n0_ := Aside0.mk (hb); have n1_ := Aside0.mk (ho); clear HB; clear HO_6; have HB := n0_; have HO162 := n1_; clear n0_ n1_; clear ho hb hg hat; obtain ⟨Ao28, co28, eo28⟩ := Kd.R_slice HO162.out; subst eo28))
             go_ret2
             exact ⟨_, by first | rfl | (simp [errW_none, errW_some] <;> rfl) | (simp only [← hji23]; first | rfl | (simp [errW_none, errW_some] <;> rfl)) | (simp [*, errW_none, errW_some] <;> rfl), nL, uB⟩
            ·have H' := Aside0.mk H
             clear H
             try simp only [hji23]
             go_wp2_with (first | (at_builtin; refine Kd.R_append_zeros (Kd.int .u8) (w0 := w) w.heap.size rfl (.tmp 35) (.tmp 36) 22 3 5 (.int .u8 0) 1 rfl Tryz.underlying22 Tryz.underlying3 info5 rfl (by decide) (by omega) u6 x6_1 0 ((ji23) : Int) (fun _ => True) rfl rfl rfl ?aF ?aO dT ?aB ?aS ?aL ?_; (case aB => exact uB); (case aF => exact (fun _ _ => trivial)); (case aO => exact (uR HO_6.out)); (case aS => exact (below_size uB)); (case aL => have := LMc25.out; omega); intro v161 w29 ho hb hg hat; rw [← Ny160.out] at ho; have n0_ := Aside0.mk (hb); have n1_ := Aside0.mk (ho); clear HB; clear HO_6; have HB := n0_; have HO162 := n1_; clear n0_ n1_; clear ho hb hg hat; obtain ⟨Ao30, co30, eo30⟩ := Kd.R_slice HO162.out; subst eo30))
             go_roundg kj18
             case measure => have := HK1.out; have := HJ8.out; have := HJ18.out; omega
             case rel => exact ⟨(y160), (wrap64 (x7_1 * 2)), (wrap64 (x16_1 + 1)), sD, sD, H', ⟨by have := HK1.out; have := HJ8.out; have := HJ18.out; omega⟩, ⟨uR HO162.out⟩, ⟨uB⟩⟩
    ·simp only [Option.some.injEq, Prod.mk.injEq] at H
     obtain ⟨rfl, rfl⟩ := H
     go_wp2
     go_ret2
     exact ⟨_, eR, uR HO_6.out, uB⟩
def bytes_Equal.f (l0 : List Int) (l1 : List Int) : Option (Bool) := some ((strOfNums l0).toList == (strOfNums l1).toList)
set_option maxHeartbeats 8000000 in
set_option maxRecDepth 100000 in
theorem bytes_Equal.calls (A0 : Option Addr) (c0 : Nat) (l0 : List Int) (A1 : Option Addr) (c1 : Nat) (l1 : List Int) (r : Bool) (w : World) (hr0 : Kd.C (Kd.int .u8) w A0 l0.length l0) (hc0 : l0.length ≤ c0) (hr1 : Kd.C (Kd.int .u8) w A1 l1.length l1) (hc1 : l1.length ≤ c1) (h : bytes_Equal.f l0 l1 = some r) :
    Calls Tryz.prog 29 #[.slice A0 l0.length c0, .slice A1 l1.length c1] w fun e w' => e = .returned (.bool r) ∧ Drawn0 w w' := by
 have HR0 := Aside0.mk hr0
 have HC0 := Aside0.mk hc0
 clear hr0 hc0
 have HR1 := Aside0.mk hr1
 have HC1 := Aside0.mk hc1
 clear hr1 hc1
 have H := h
 clear h
 unfold bytes_Equal.f at H
 obtain rfl := Option.some.inj H
 have hcv3 := Kd.C_string (P := Tryz.prog) (A := A0) (c := c0) Tryz.underlying22 Tryz.underlying5 Tryz.underlying9 HR0.out
 have hcv4 := Kd.C_string (P := Tryz.prog) (A := A1) (c := c1) Tryz.underlying22 Tryz.underlying5 Tryz.underlying9 HR1.out
 go_enter Tryz.func29, Tryz.ntmps29
 go_wp2
 go_ret
 exact ⟨sD, dD⟩
end Go.Proofs.YtbbpplnnegdenaaGreat.PTopPipe
end
section
namespace Go.Proofs.YtbbpplnnegdenaaGreat.PTopPipe
open Go.RowKit Go.Proofs.YtbbpplnnegdenaaGreatW.PrintWords Go.Proofs.YtbbpplnnegdenaaGreatW.PrintLast Go.Proofs.YtbbpplnnegdenaaGreatW.PrintMore
attribute [local go_sem] max2_int min2_int max_two min_two max_three min_three max_four min_four
set_option linter.unusedVariables false
set_option linter.unusedSimpArgs false
def pipe_Unpack.f (k : Nat) (l0 : List Int) (a1 a2 : Int) : Option (List Int × Bool) :=
  if (a1 = 0 ∨ a1 = 1) ∧ 0 ≤ a2 then
    (if (∀ x ∈ l0, 0 ≤ x ∧ x < 256) ∧ l0.length ≤ 17592186044416 then
      (match Go.Proofs.YtbbpplnnegdenaaGreat.Sy.symF l0 a1 (min a2 100000).toNat with
      | none => some ([], false)
      | some l => (runs_Back.f k l (min a2 100000)).bind fun pl =>
        if pl.2 = true then
          (if pl.1.length ≤ 17592186044416 ∧ ∀ x ∈ pl.1, 0 ≤ x ∧ x < 256 then
            (pipe_Pack.f k (Go.Proofs.YtbbpplnnegdenaaGreat.Fr.backF Go.Proofs.YtbbpplnnegdenaaGreat.Fr.rowL pl.1) a1).bind fun y =>
              if bytes_Equal.f y.1 l0 = some (decide (y.1 = l0)) then some (if y.1 = l0 then (Go.Proofs.YtbbpplnnegdenaaGreat.Fr.backF Go.Proofs.YtbbpplnnegdenaaGreat.Fr.rowL pl.1, true) else ([], false)) else none
          else none)
        else some ([], false))
    else none)
  else some ([], false)
theorem pipe_Unpack.mono : ∀ a0 a1 a2 k, LeO (pipe_Unpack.f k a0 a1 a2) (pipe_Unpack.f (k + 1) a0 a1 a2) := by
  intro a0 a1 a2 k
  unfold pipe_Unpack.f
  refine LeO.ite (LeO.ite ?_ (LeO.none _)) (LeO.refl _)
  cases Go.Proofs.YtbbpplnnegdenaaGreat.Sy.symF a0 a1 (min a2 100000).toNat with
  | none => exact LeO.refl _
  | some l => exact LeO.bind (runs_Back.mono _ _ _) (fun pl => LeO.ite (LeO.ite (LeO.bind (pipe_Pack.mono _ _ _) (fun y => LeO.refl _)) (LeO.none _)) (LeO.refl _))
theorem pipe_Unpack.calls (k : Nat) (A0 : Option Addr) (c0 : Nat) (l0 : List Int) (a1 a2 : Int) (r1 : List Int) (r2 : Bool) (w : World) (hr0 : Kd.C (Kd.int .u8) w A0 l0.length l0) (hc0 : l0.length ≤ c0) (h : pipe_Unpack.f k l0 a1 a2 = some (r1, r2)) :
    Calls Tryz.prog 7 #[.slice A0 l0.length c0, .int .i64 a1, .int .i64 a2] w fun e w' => ∃ v0_ : Value, e = .returned (.tuple #[v0_, .bool r2]) ∧ Kd.R (Kd.int .u8) 5 w' w.heap.size (fun _ => True) v0_ r1 ∧ Below w.heap.size w w' := by
 unfold pipe_Unpack.f at h
 by_cases c1 : (a1 = 0 ∨ a1 = 1) ∧ 0 ≤ a2
 case neg =>
  rw [if_neg c1] at h
  injection h with h
  injection h with h1 h2
  subst h1 h2
  exact (Go.Proofs.YtbbpplnnegdenaaGreat.Up.unpack_bad w A0 l0.length c0 a1 a2 c1).mono (fun e W' ⟨h1, h2⟩ => ⟨_, h1, Kd.R_nil _ _ _ _ _, h2 ▸ Below.refl _ _⟩)
 rw [if_pos c1] at h
 by_cases c2 : (∀ x ∈ l0, 0 ≤ x ∧ x < 256) ∧ l0.length ≤ 17592186044416
 case neg => rw [if_neg c2] at h; exact absurd h (by simp)
 rw [if_pos c2] at h
 have hm : min a2 100000 = ((min a2 100000).toNat : Int) := by omega
 have hS := Go.Proofs.YtbbpplnnegdenaaGreat.Up.symC l0 c2.2 c2.1 a1 c1.1 (min a2 100000).toNat (by omega)
 have fin : ∀ {T pl y} {r : List Int × Bool}, Go.Proofs.YtbbpplnnegdenaaGreat.Up.UpR l0 T pl y r → (r1, r2) = (if T.isSome ∧ pl.2 = true ∧ y = l0 then (Go.Proofs.YtbbpplnnegdenaaGreat.Fr.backF Go.Proofs.YtbbpplnnegdenaaGreat.Fr.rowL pl.1, true) else ([], false)) → r = (r1, r2) := by
  intro T pl y r hU e
  rw [e]
  cases hU with
  | none h => rw [h]; simp
  | runs h1 h2 => rw [if_neg (by rw [h2]; simp)]
  | differ h1 h2 h3 => rw [if_neg (fun k => h3 k.2.2)]
  | same h1 h2 h3 => rw [if_pos ⟨h1, h2, h3⟩]
 cases hT : Go.Proofs.YtbbpplnnegdenaaGreat.Sy.symF l0 a1 (min a2 100000).toNat with
 | none =>
  rw [hT] at h hS
  injection h with h
  refine (Go.Proofs.YtbbpplnnegdenaaGreat.Up.unpack_calls w A0 c0 l0 hr0 hc0 a1 c1.1 a2 c1.2 _ hm none hS ([], false) (fun l hl => by cases hl) (fun hl => by cases hl) [] (fun hl => by cases hl) (fun hl => by cases hl)).mono ?_
  rintro e W' ⟨v, r, h1, hU, hR, hB⟩
  have hr := fin hU (by rw [← h]; simp)
  subst hr
  exact ⟨v, h1, hR, hB⟩
 | some l =>
  rw [hT] at h hS
  obtain ⟨⟨p1, p2⟩, hp, h⟩ := Option.bind_eq_some_iff.1 h
  have hB : ∀ l', some l = some l' → ∀ (W1 : World) (A1 : Option Addr) (d1 : Nat), Kd.C (Kd.int .i64) W1 A1 l'.length l' → l'.length ≤ d1 → Calls Tryz.prog 27 #[.slice A1 l'.length d1, .int .i64 ((min a2 100000).toNat : Int)] W1 fun e w' => ∃ v, e = .returned (.tuple #[v, .bool p2]) ∧ Kd.R (Kd.int .u8) 5 w' W1.heap.size (fun _ => True) v p1 ∧ Below W1.heap.size W1 w' := by
   intro l' e W1 A1 d1 hC hd
   injection e with e
   subst e
   rw [← hm]
   exact runs_Back.calls k A1 d1 l (min a2 100000) p1 p2 W1 hC hd hp
  by_cases c3 : p2 = true
  ·subst c3
   rw [if_pos rfl] at h
   by_cases c4 : p1.length ≤ 17592186044416 ∧ ∀ x ∈ p1, 0 ≤ x ∧ x < 256
   case neg => rw [if_neg c4] at h; exact absurd h (by simp)
   rw [if_pos c4] at h
   obtain ⟨⟨y1, y2⟩, hy, h⟩ := Option.bind_eq_some_iff.1 h
   by_cases c5 : bytes_Equal.f y1 l0 = some (decide (y1 = l0))
   case neg => rw [if_neg c5] at h; exact absurd h (by simp)
   rw [if_pos c5] at h
   injection h with h
   refine (Go.Proofs.YtbbpplnnegdenaaGreat.Up.unpack_calls w A0 c0 l0 hr0 hc0 a1 c1.1 a2 c1.2 _ hm (some l) hS (p1, true) hB (fun _ _ => c4) y1 (fun _ _ W1 A1 d1 hC hd => (pipe_Pack.calls k A1 d1 _ a1 y1 y2 W1 hC hd hy).mono (fun e W' ⟨v, h1, h2, h3⟩ => ⟨v, y2, h1, h2, h3⟩)) (fun _ _ W1 B0 d0 B1 d1 h1 h2 h3 h4 => bytes_Equal.calls B0 d0 y1 B1 d1 l0 _ W1 h1 h2 h3 h4 c5)).mono ?_
   rintro e W' ⟨v, r, h1, hU, hR, hB⟩
   have hr := fin hU (by rw [← h]; by_cases e : y1 = l0 <;> simp [e])
   subst hr
   exact ⟨v, h1, hR, hB⟩
  ·rw [if_neg c3] at h
   injection h with h
   have c3' : p2 = false := Bool.eq_false_iff.2 c3
   subst c3'
   refine (Go.Proofs.YtbbpplnnegdenaaGreat.Up.unpack_calls w A0 c0 l0 hr0 hc0 a1 c1.1 a2 c1.2 _ hm (some l) hS (p1, false) hB (fun _ k => by cases k) [] (fun _ k => by cases k) (fun _ k => by cases k)).mono ?_
   rintro e W' ⟨v, r, h1, hU, hR, hB⟩
   have hr := fin hU (by rw [← h]; simp)
   subst hr
   exact ⟨v, h1, hR, hB⟩
mutual
def bucket_Counts.j0 : Nat → List Int → Int → Bool → Option (List Int × Bool)
  | 0, _, _, _ => none
  | k + 1, x0, x1, x14 => if x14 = true then (some (([] : List Int), false)) else (if 0 ≤ x1 then (if (x1 : Int).toNat ≤ 35184372088832 then (bucket_Counts.l0 k x1 (List.replicate (x1 : Int).toNat 0) x0 (x0.length : Int) 0) else (none)) else (none))
def bucket_Counts.l0 : Nat → Int → List Int → List Int → Int → Int → Option (List Int × Bool)
  | 0, _, _, _, _, _ => none
  | k + 1, x1, x6, x17, x18, x19 => if x19 < x18 then (if 0 ≤ x19 then (if x19 < (x17.length : Int) then (if (rd x17 x19) < 0 then (some (([] : List Int), false)) else (if (rd x17 x19) ≥ x1 then (some (([] : List Int), false)) else (if 0 ≤ (rd x17 x19) then (if (rd x17 x19) < (x6.length : Int) then (bucket_Counts.l0 k x1 (x6.set ((rd x17 x19) : Int).toNat (wrap64 ((rd x6 (rd x17 x19)) + 1))) x17 x18 (wrap64 (x19 + 1))) else (none)) else (none)))) else (none)) else (none)) else (some (x6, true))
end
def bucket_Counts.f (k : Nat) (l0 : List Int) (a1 : Int) : Option (List Int × Bool) := if a1 < 0 then (bucket_Counts.j0 k l0 a1 true) else (bucket_Counts.j0 k l0 a1 (decide (a1 > 1048576)))
theorem bucket_Counts.mono_l : ∀ k, (∀ y0 y1 y2, LeO (bucket_Counts.j0 k y0 y1 y2) (bucket_Counts.j0 (k + 1) y0 y1 y2)) ∧ (∀ y0 y1 y2 y3 y4, LeO (bucket_Counts.l0 k y0 y1 y2 y3 y4) (bucket_Counts.l0 (k + 1) y0 y1 y2 y3 y4))
  | 0 => ⟨fun _ _ _ r h => by simp [bucket_Counts.j0] at h, fun _ _ _ _ _ r h => by simp [bucket_Counts.l0] at h⟩
  | k + 1 => by
    obtain ⟨ih0, ih1⟩ := bucket_Counts.mono_l k
    refine ⟨?_, ?_⟩
    · intro y0 y1 y2
      unfold bucket_Counts.j0
      exact mB
    · intro y0 y1 y2 y3 y4
      unfold bucket_Counts.l0
      exact mB
theorem bucket_Counts.mono : ∀ a0 a1 k, LeO (bucket_Counts.f k a0 a1) (bucket_Counts.f (k + 1) a0 a1) := by
  intro a0 a1 k
  obtain ⟨ih0, ih1⟩ := bucket_Counts.mono_l k
  unfold bucket_Counts.f
  exact mB
set_option maxHeartbeats 8000000 in
set_option maxRecDepth 100000 in
theorem bucket_Counts.calls (k : Nat) (A0 : Option Addr) (c0 : Nat) (l0 : List Int) (a1 : Int) (r1 : List Int) (r2 : Bool) (w : World) (hr0 : Kd.C (Kd.int .i64) w A0 l0.length l0) (hc0 : l0.length ≤ c0) (h : bucket_Counts.f k l0 a1 = some (r1, r2)) :
    Calls Tryz.prog 91 #[.slice A0 l0.length c0, .int .i64 a1] w fun e w' => ∃ v0_ : Value, e = .returned (.tuple #[v0_, .bool r2]) ∧ Kd.R (Kd.int .i64) 3 w' w.heap.size (fun _ => True) v0_ r1 ∧ Below w.heap.size w w' := by
 have HR0 := Aside0.mk hr0
 have HC0 := Aside0.mk hc0
 clear hr0 hc0
 have HB := Aside0.mk (Below.refl w.heap.size w)
 have H := h
 clear h
 unfold bucket_Counts.f at H
 have HC3 := Aside0.mk H
 clear H
 go_enter Tryz.func91, Tryz.ntmps91
 go_upto_region 1 with (fail)
 go_cut [14] (fun v14 wc => ∃ (kq : Nat) (x14_2 : Bool), v14 = .bool x14_2 ∧ Aside0 (bucket_Counts.j0 kq l0 a1 x14_2 = some (r1, r2)) ∧ Aside0 (kq ≤ k) ∧ Aside0 (Below w.heap.size w wc))
 case first =>
  have H := HC3.out
  clear HC3
  rcases ifC H with ⟨c4b0, H⟩ | ⟨c4b0, H⟩
  ·(first | rw [c4b0] | (simp only [i64_w, i32_w]; rw [c4b0]) | skip)
   have H' := Aside0.mk H
   clear H
   go_wp2
   go_meet
   case rel => exact ⟨_, (true), sD, H', ⟨by first | omega | exact Nat.le_refl _⟩, ⟨uB⟩⟩
  ·(first | rw [c4b0] | (simp only [i64_w, i32_w]; rw [c4b0]) | skip)
   have H' := Aside0.mk H
   clear H
   go_wp2
   go_meet
   case rel => exact ⟨_, (decide (a1 > 1048576)), sD, H', ⟨by first | omega | exact Nat.le_refl _⟩, ⟨uB⟩⟩
 case rest =>
  clear HC3
  try clear p2
  try clear c4
  try clear c4b0
  obtain ⟨kq, x14_2, rfl, HA, HJ2, HB⟩ := hcut
  cases kq with
  | zero => exact absurd HA.out (by simp [bucket_Counts.j0])
  | succ kj2 =>
   have H := HA.out
   clear HA
   simp only [bucket_Counts.j0] at H
   by_cases c5 : x14_2 = true
   ·subst c5
    rw [if_pos rfl] at H
    simp only [Option.some.injEq, Prod.mk.injEq] at H
    obtain ⟨rfl, rfl⟩ := H
    go_wp2
    go_ret2
    exact ⟨_, eR, nL, uB⟩
   ·replace c5 := Bool.eq_false_iff.mpr c5
    subst c5
    rw [if_neg (by decide)] at H
    obtain ⟨c6b0, c6b1, H⟩ := ifE H
    obtain ⟨c7b0, c7b1, H⟩ := ifE H
    generalize hy172 : (List.replicate (a1 : Int).toNat 0 : List Int) = y172 at H
    try simp only [Option.bind_some] at H
    have Ny172 := Aside0.mk hy172.symm
    clear hy172
    have H' := Aside0.mk H
    clear H
    go_wp2_with (first | ((with_reducible refine gate_dst (N := 16) rfl ?_); refine Kd.R_make (Kd.int .i64) _ 3 rfl (N := 16) rfl 29 _ _ rfl a1 rfl rfl Tryz.underlying29 (.int .i64 0) 8 info3 rfl (by decide) (by omega) 0 (ok := fun _ => True) (okp := fun _ => True) rfl (fun _ hk => hk) trivial dT (Nat.le_trans (Nat.mul_le_mul_right _ (dT : a1.toNat ≤ 35184372088832)) (by omega)) (Below.refl _ _) (Nat.le_refl _) ?_; intro v173 w8 ho9 hb hg_ hnew_; clear hg_ hnew_; (first | rw [← Ny172.out] at ho9 | (simp only [Int.reduceToNat] at ho9; rw [← Ny172.out] at ho9)); have n0_ := Aside0.mk (Kd.R_lower ho9 (below_size uB)); have n1_ := Aside0.mk (below_step uB hb); clear HB; have HO174 := n0_; have HB := n1_; clear n0_ n1_; clear hb ho9))
    go_loopg [19] kj2 (fun kq v19 w' => ∃ (x6_2 : List Int) (x19_2 : Int), v19 = .int .i64 x19_2 ∧ Aside0 (bucket_Counts.l0 kq a1 x6_2 l0 (l0.length : Int) x19_2 = some (r1, r2)) ∧ Aside0 (kq ≤ kj2) ∧ Aside0 (Kd.R (Kd.int .i64) 3 w' w.heap.size (fun _ => True) v173 x6_2) ∧ Aside0 (Below w.heap.size w w'))
    case atStart => exact ⟨(y172), (0), sD, H', ⟨Nat.le_refl _⟩, ⟨uR HO174.out⟩, ⟨uB⟩⟩
    case round =>
     clear H'
     try clear p2
     try clear c4
     try clear c4b0
     try clear c5
     try clear c6
     try clear c6b0
     try clear c6b1
     try clear c7
     try clear c7b0
     try clear c7b1
     try clear c9
     try clear p2
     obtain ⟨x6_2, x19_2, rfl, HA, HK2, HO_6, HB⟩ := hrel
     cases gk with
     | zero => exact absurd HA.out (by simp [bucket_Counts.l0])
     | succ k2 =>
      have H := HA.out
      clear HA
      simp only [bucket_Counts.l0] at H
      rcases ifC H with ⟨c10b0, H⟩ | ⟨c10b0, H⟩
      ·obtain ⟨c11b0, c12b0, H⟩ := ifD2 H
       rcases ifC H with ⟨c13b0, H⟩ | ⟨c13b0, H⟩
       ·simp only [Option.some.injEq, Prod.mk.injEq] at H
        obtain ⟨rfl, rfl⟩ := H
        obtain ⟨ad175, e175, hx175_0, p175, q175⟩ := rIO HB.out HR0.out x19_2
        cases e175
        go_wp2
        go_ret2
        exact ⟨_, eR, nL, uB⟩
       ·rcases ifG H with ⟨c14b0, H⟩ | ⟨c14b0, H⟩
        ·simp only [Option.some.injEq, Prod.mk.injEq] at H
         obtain ⟨rfl, rfl⟩ := H
         obtain ⟨ad175, e175, hx175_0, p175, q175⟩ := rIO HB.out HR0.out x19_2
         cases e175
         go_wp2
         go_ret2
         exact ⟨_, eR, nL, uB⟩
        ·obtain ⟨c15b0, c16b0, H⟩ := ifD2 H
         generalize hy177 : (x6_2.set ((rd l0 x19_2) : Int).toNat (wrap64 ((rd x6_2 (rd l0 x19_2)) + 1)) : List Int) = y177 at H
         try simp only [Option.bind_some] at H
         have Ny177 := Aside0.mk hy177.symm
         clear hy177
         have H' := Aside0.mk H
         clear H
         obtain ⟨ad175, e175, hx175_0, p175, q175⟩ := rIO HB.out HR0.out x19_2
         cases e175
         obtain ⟨Ao18, co18, eo18⟩ := Kd.R_slice HO_6.out
         subst eo18
         obtain ⟨ad176, e176, hx176_0, p176, q176⟩ := rI (Kd.R_reads' HO_6.out).2.2 (rd l0 x19_2)
         cases e176
         have p17 : 0 ≤ ((rd l0 x19_2) : Int) := dT
         have q17 : ((rd l0 x19_2) : Int) < ((x6_2.length : Int) : Int) := dT
         obtain ⟨go17, co17, eo17, gb17, gl17, cl17, HG17⟩ := Kd.R_form HO_6.out (by omega)
         (first | cases eo17 | (injection eo17 with ea_ en_ ec_; (first | subst ea_ | (injection ea_ with ea_; subst ea_)); subst ec_; clear en_))
         have GB17 := Aside0.mk gb17
         have GG17 := Aside0.mk HG17
         clear gb17 gl17 HG17
         (first | simp only [add_plain] at hx176_0 | skip)
         obtain ⟨hx17_0, hf17_0⟩ := Kd.R_celln 0 HO_6.out ((rd l0 x19_2) : Int) p17 q17
         replace p17 := eq_true p17
         replace q17 := eq_true q17
         have HP19 := Kd.R_putg HO_6.out ((rd l0 x19_2) : Int) (wrap64 ((rd x6_2 (rd l0 x19_2)) + 1))
         go_wp2_with (first | ((with_reducible refine gate_store (t := 3) (p := 35) rfl ?_); refine store_event (t := 3) (p := 35) (v := ?vo_w20) (w1 := (wr.setCell ⟨go17, ((rd l0 x19_2) : Int).toNat, none⟩ (.int .i64 (wrap64 ((rd x6_2 (rd l0 x19_2)) + 1))))) ?hg ?ho ?hn ?hr ?_; (case ho => rfl); (case hg => rfl); (case hn => rfl); (case hr => first | (go_simp; done) | (go_simp; rfl)); intro w20 hw; have hg : wr.grownBy w20 (some go17) := (by rw [hw]; exact HP19.2); have hp_ : Kd.R (Kd.int .i64) 3 w20 w.heap.size (fun _ => True) (.slice (some ⟨go17, 0, none⟩) x6_2.length co18) y177 := (by rw [hw, Ny177.out]; exact HP19.1); clear HP19; have n0_ := Aside0.mk (hp_); have n1_ := Aside0.mk ((by rw [hw]; exact below_set (HB.out) GB17.out : Below w.heap.size w w20)); clear HO_6; clear HB; have HO_6 := n0_; have HB := n1_; clear n0_ n1_; clear hg hw hp_))
         go_roundg k2
         case measure => have := HJ2.out; have := HK2.out; omega
         case rel => exact ⟨(y177), (wrap64 (x19_2 + 1)), sD, H', ⟨by have := HJ2.out; have := HK2.out; omega⟩, ⟨uR HO_6.out⟩, ⟨uB⟩⟩
      ·simp only [Option.some.injEq, Prod.mk.injEq] at H
       obtain ⟨rfl, rfl⟩ := H
       go_wp2
       go_ret2
       exact ⟨_, eR, uR HO_6.out, uB⟩
end Go.Proofs.YtbbpplnnegdenaaGreat.PTopPipe
end
section
namespace Go.Proofs.YtbbpplnnegdenaaGreat.PTopPipe
open Go.RowKit Go.Proofs.YtbbpplnnegdenaaGreatW.PrintWords Go.Proofs.YtbbpplnnegdenaaGreatW.PrintLast Go.Proofs.YtbbpplnnegdenaaGreatW.PrintMore
attribute [local go_sem] max2_int min2_int max_two min_two max_three min_three max_four min_four
set_option linter.unusedVariables false
set_option linter.unusedSimpArgs false
def kinds_Small.l0 : Nat → List Int → List Bool → Int → Option (List Bool)
  | 0, _, _, _ => none
  | k + 1, x0, x3, x4 => if x4 ≥ 0 then (if 0 ≤ x4 then (if x4 < (x0.length : Int) then (if 0 ≤ (wrap64 (x4 + 1)) then (if (wrap64 (x4 + 1)) < (x0.length : Int) then (if (rd x0 x4) < (rd x0 (wrap64 (x4 + 1))) then (if x4 < (x3.length : Int) then (kinds_Small.l0 k x0 (x3.set (x4 : Int).toNat true) (wrap64 (x4 - 1))) else (none)) else (if (rd x0 x4) = (rd x0 (wrap64 (x4 + 1))) then (if (wrap64 (x4 + 1)) < (x3.length : Int) then (if x4 < (x3.length : Int) then (kinds_Small.l0 k x0 (x3.set (x4 : Int).toNat (rdOf false x3 (wrap64 (x4 + 1)))) (wrap64 (x4 - 1))) else (none)) else (none)) else (if x4 < (x3.length : Int) then (kinds_Small.l0 k x0 (x3.set (x4 : Int).toNat false) (wrap64 (x4 - 1))) else (none)))) else (none)) else (none)) else (none)) else (none)) else (some x3)
def kinds_Small.f (k : Nat) (l0 : List Int) : Option (List Bool) := if 0 ≤ (l0.length : Int) then (if ((l0.length : Int) : Int).toNat ≤ 281474976710656 then (kinds_Small.l0 k l0 (List.replicate ((l0.length : Int) : Int).toNat false) (wrap64 ((l0.length : Int) - 2))) else (none)) else (none)
theorem kinds_Small.mono_l : ∀ k, (∀ y0 y1 y2, LeO (kinds_Small.l0 k y0 y1 y2) (kinds_Small.l0 (k + 1) y0 y1 y2))
  | 0 => fun _ _ _ r h => by simp [kinds_Small.l0] at h
  | k + 1 => by
    have ih0 := kinds_Small.mono_l k
    · intro y0 y1 y2
      unfold kinds_Small.l0
      exact mB
theorem kinds_Small.mono : ∀ a0 k, LeO (kinds_Small.f k a0) (kinds_Small.f (k + 1) a0) := by
  intro a0 k
  have ih0 := kinds_Small.mono_l k
  unfold kinds_Small.f
  exact mB
def kinds_Small.T5 : Bool × List (List Nat × List Nat) := (true, [([], []), ([], []), ([], []), ([], []), ([2, 3], [2, 3]), ([4], [4]), ([], []), ([], []), ([7], [7]), ([6, 8], [6, 8]), ([9], [9]), ([5, 10], [5, 10]), ([11], [11]), ([12], [12]), ([12], [12]), ([13, 14, 12], [12, 13, 14]), ([15, 12], [12, 15]), ([12], [12]), ([12], [12]), ([18, 12], [12, 18]), ([17, 19, 12], [12, 17, 19]), ([20, 12], [12, 20]), ([16, 21, 12], [12, 16, 21]), ([22, 12, 12], [12, 22]), ([23], [23]), ([23], [23]), ([25, 23], [23, 25]), ([24, 26, 23], [23, 24, 26]), ([27, 23], [23, 27]), ([23, 28, 12], [12, 23, 28]), ([12, 29], [12, 29]), ([0, 1, 0, 1, 2, 3, 4, 5, 6, 7, 8, 9, 10, 11, 12, 13, 14, 15, 16, 17, 18, 19, 20, 21, 22, 23, 24, 25, 26, 27, 28, 29, 30], [0, 1]), ([31, 30, 23, 0, 1, 2, 3, 4, 5, 6, 7, 8, 9, 10, 11, 12, 13, 14, 15, 16, 17, 18, 19, 20, 21, 22, 23, 24, 25, 26, 27, 28, 29, 30], [30, 31])])
def kinds_Small.B5 : List Nat := [0, 0, 0, 0, 12, 28, 0, 0, 128, 448, 960, 2044, 4092, 8188, 8188, 32764, 65532, 8188, 8188, 270332, 925692, 1974268, 4194300, 8388604, 16777212, 16777212, 50331644, 134217724, 268435452, 536870908, 1073741820, 2147483647, 4294967295]
theorem kinds_Small.tab5 : rtab .any (opsOf Tryz.f120 5) = kinds_Small.T5 := by kernel_rfl
theorem kinds_Small.bits5 : waitsOk kinds_Small.T5.2 kinds_Small.B5 = true := by kernel_rfl
set_option maxHeartbeats 8000000 in
set_option maxRecDepth 100000 in
theorem kinds_Small.calls (k : Nat) (A0 : Option Addr) (c0 : Nat) (l0 : List Int) (r : List Bool) (w : World) (hr0 : Kd.C (Kd.int .i64) w A0 l0.length l0) (hc0 : l0.length ≤ c0) (h : kinds_Small.f k l0 = some r) :
    Calls Tryz.prog 120 #[.slice A0 l0.length c0] w fun e w' => ∃ v0_ : Value, e = .returned (v0_) ∧ Kd.R Kd.bool 4 w' w.heap.size (fun _ => True) v0_ r ∧ Below w.heap.size w w' := by
 have HR0 := Aside0.mk hr0
 have HC0 := Aside0.mk hc0
 clear hr0 hc0
 have HB := Aside0.mk (Below.refl w.heap.size w)
 have H := h
 clear h
 unfold kinds_Small.f at H
 obtain ⟨c2b0, c2b1, H⟩ := ifE H
 obtain ⟨c3b0, c3b1, H⟩ := ifE H
 generalize hy178 : (List.replicate ((l0.length : Int) : Int).toNat false : List Bool) = y178 at H
 try simp only [Option.bind_some] at H
 have Ny178 := Aside0.mk hy178.symm
 clear hy178
 have H' := Aside0.mk H
 clear H
 go_enter Tryz.func120, Tryz.ntmps120
 go_wp2_with (first | ((with_reducible refine gate_dst (N := 7) rfl ?_); refine Kd.R_make Kd.bool _ 4 rfl (N := 7) rfl 122 _ _ rfl (l0.length : Int) rfl rfl Tryz.underlying122 (.bool false) 1 info4 rfl (by decide) (by omega) false (ok := fun _ => True) (okp := fun _ => True) rfl (fun _ hk => hk) trivial dT (Nat.le_trans (Nat.mul_le_mul_right _ (dT : (l0.length : Int).toNat ≤ 281474976710656)) (by omega)) (Below.refl _ _) (Nat.le_refl _) ?_; intro v179 w4 ho5 hb hg_ hnew_; clear hg_ hnew_; (first | rw [← Ny178.out] at ho5 | (simp only [Int.reduceToNat] at ho5; rw [← Ny178.out] at ho5)); have n0_ := Aside0.mk (Kd.R_lower ho5 (below_size uB)); have n1_ := Aside0.mk (below_step uB hb); clear HB; have HO180 := n0_; have HB := n1_; clear n0_ n1_; clear hb ho5))
 go_loopg [4] k (fun kq v4 w' => ∃ (x3_1 : List Bool) (x4_1 : Int), v4 = .int .i64 x4_1 ∧ Aside0 (kinds_Small.l0 kq l0 x3_1 x4_1 = some r) ∧ Aside0 (kq ≤ k) ∧ Aside0 (Kd.R Kd.bool 4 w' w.heap.size (fun _ => True) v179 x3_1) ∧ Aside0 (Below w.heap.size w w'))
 case atStart => exact ⟨(y178), (wrap64 ((l0.length : Int) - 2)), sD, H', ⟨Nat.le_refl _⟩, ⟨uR HO180.out⟩, ⟨uB⟩⟩
 case round =>
  clear H'
  try clear c1
  try clear c2
  try clear c2b0
  try clear c2b1
  try clear p2
  try clear c3
  try clear c3b0
  try clear c3b1
  obtain ⟨x3_1, x4_1, rfl, HA, HK1, HO_3, HB⟩ := hrel
  cases gk with
  | zero => exact absurd HA.out (by simp [kinds_Small.l0])
  | succ k1 =>
   have H := HA.out
   clear HA
   simp only [kinds_Small.l0] at H
   rcases ifG H with ⟨c6b0, H⟩ | ⟨c6b0, H⟩
   ·obtain ⟨c7b0, c8b0, H⟩ := ifD2 H
    obtain ⟨ji9, hji9⟩ : ∃ j_ : Int, (wrap64 (x4_1 + 1)) = j_ := ⟨_, rfl⟩
    first | rw [hji9] at H | simp only [hji9] at H
    have hji9w : (IntKind.i64.wrap (x4_1 + 1)) = ji9 := (i64_w _).trans hji9
    obtain ⟨c10b0, c11b0, H⟩ := ifD2 H
    rcases ifC H with ⟨c12b0, H⟩ | ⟨c12b0, H⟩
    ·obtain ⟨c13b0, H⟩ := ifD H
     generalize hy183 : (x3_1.set (x4_1 : Int).toNat true : List Bool) = y183 at H
     try simp only [Option.bind_some] at H
     have Ny183 := Aside0.mk hy183.symm
     clear hy183
     have H' := Aside0.mk H
     clear H
     try go_wp2
     have n0_ := Aside0.mk (Kd.R_drew HO_3.out)
     have n1_ := Aside0.mk (below_drew1 HB.out)
     clear HO_3
     clear HB
     have HO_3 := n0_
     have HB := n1_
     clear n0_ n1_
     obtain ⟨ad181, e181, hx181_0, p181, q181⟩ := rI HR0.out x4_1
     have hw181_0 := hx181_0
     cases e181
     replace hx181_0 := (HB.out.cell (World.block_lt_of_cell? w _ hx181_0)).trans hx181_0
     obtain ⟨ad182, e182, hx182_0, p182, q182⟩ := rI HR0.out (ji9)
     have hw182_0 := hx182_0
     obtain rfl : ad181 = ad182 := (by injection e182)
     replace hx182_0 := (HB.out.cell (World.block_lt_of_cell? w _ hx182_0)).trans hx182_0
     have p14 : 0 ≤ (x4_1 : Int) := dT
     have q14 : (x4_1 : Int) < ((x3_1.length : Int) : Int) := dT
     obtain ⟨go14, co14, eo14, gb14, gl14, cl14, HG14⟩ := Kd.R_form HO_3.out (by omega)
     (first | cases eo14 | (injection eo14 with ea_ en_ ec_; (first | subst ea_ | (injection ea_ with ea_; subst ea_)); subst ec_; clear en_))
     have GB14 := Aside0.mk gb14
     have GG14 := Aside0.mk HG14
     clear gb14 gl14 HG14
     obtain ⟨hx14_0, hf14_0⟩ := Kd.R_celln false HO_3.out (x4_1 : Int) p14 q14
     replace p14 := eq_true p14
     replace q14 := eq_true q14
     have HP16 := Kd.R_putn HO_3.out (x4_1 : Int) true
     rw [← Ny183.out] at HP16
     have HQ16 := Aside0.mk HP16
     clear HP16
     refine start_ (n := 33) (S := fun w' => w'.cell? (ad181.add (x4_1).toNat) = some (.int .i64 (rd l0 x4_1)) ∧ w'.cell? (ad181.add ((ji9)).toNat) = some (.int .i64 (rd l0 (ji9)))) (ds := [32]) #[false, false, false, false, false, false, false, false, false, false, false, false, false, false, false, false, false, false, false, false, false, false, false, false, false, false, false, false, false, false, false, false, false] (by kernel_rfl) rfl rfl ⟨((HB.out.cell (World.block_lt_of_cell? w _ hw181_0)).trans hw181_0), ((HB.out.cell (World.block_lt_of_cell? w _ hw182_0)).trans hw182_0)⟩ (fun hHeld => ?_); refine with_tabW kinds_Small.tab5 kinds_Small.bits5 (fun HT_ HW_ => ?_)
     generalize wr.drew = w15 at HO_3 HB GG14 HQ16 hf14_0 hx14_0 hx181_0 hx182_0 hHeld ⊢
     refine pY (i := 0) (N := some 15) (bs 0 33) ?_
     refine pY (i := 1) (N := some 16) (bs 1 33) ?_
     refine pY (i := 2) (N := some 17) (bs 2 33) ?_
     refine pY (i := 3) (N := some 18) (bs 3 33) ?_
     refine pY (i := 4) (N := some 19) (bs 4 33) ?_
     refine pY (i := 6) (N := some 21) #[true, true, true, true, true, false, true, false, false, false, false, false, false, false, false, false, false, false, false, false, false, false, false, false, false, false, false, false, false, false, false, false, false] ?_
     refine pY (i := 7) (N := some 22) #[true, true, true, true, true, false, true, true, false, false, false, false, false, false, false, false, false, false, false, false, false, false, false, false, false, false, false, false, false, false, false, false, false] ?_
     refine pY (i := 8) (N := some 23) #[true, true, true, true, true, false, true, true, true, false, false, false, false, false, false, false, false, false, false, false, false, false, false, false, false, false, false, false, false, false, false, false, false] ?_
     refine pY (i := 9) (N := some 24) #[true, true, true, true, true, false, true, true, true, true, false, false, false, false, false, false, false, false, false, false, false, false, false, false, false, false, false, false, false, false, false, false, false] ?_
     refine take_ (i := 5) (N := some 20) (v := ?_) (a' := ?_) (bs 9 33) rfl rfl (take_ofW HT_.out HW_.out (by kernel_rfl)) (fun _ _ _ h => h) (Or.inl ⟨by rfl, ?_⟩) hHeld ?_ ?_
     rotate_left
     ·rintro w' ⟨s0, s1⟩
      go_simp
      with_reducible rfl
     rotate_left
     ·simp only [Act.put, List.setIfInBounds_toArray, List.set_cons_zero, List.set_cons_succ, i64_w, i32_w]
      rfl
     refine take_ (i := 10) (N := some 25) (v := ?_) (a' := ?_) (bs 10 33) rfl rfl (take_ofW HT_.out HW_.out (by kernel_rfl)) (fun _ _ _ h => h) (Or.inl ⟨by rfl, ?_⟩) hHeld ?_ ?_
     rotate_left
     ·rintro w' ⟨s0, s1⟩
      go_simp
      with_reducible rfl
     rotate_left
     ·simp only [Act.put, List.setIfInBounds_toArray, List.set_cons_zero, List.set_cons_succ, i64_w, i32_w]
      rfl
     refine pY (i := 11) (N := some 26) (bs 11 33) ?_
     refine pY (i := 12) (N := some 27) (bs 12 33) ?_
     refine pU (i := 13) (N := some 28) (bs 13 33) ?_
     refine pU (i := 14) (N := some 29) (bs 14 33) ?_
     refine pU (i := 15) (N := some 30) (bs 15 33) ?_
     refine pU (i := 16) (N := some 31) (bs 16 33) ?_
     refine pU (i := 17) (N := some 32) (bs 17 33) ?_
     refine pU (i := 18) (N := some 33) (bs 18 33) ?_
     refine pU (i := 19) (N := some 34) (bs 19 33) ?_
     refine pU (i := 20) (N := some 35) (bs 20 33) ?_
     refine pU (i := 21) (N := some 36) (bs 21 33) ?_
     refine pU (i := 22) (N := some 37) (bs 22 33) ?_
     refine pU (i := 23) (N := some 38) (bs 23 33) ?_
     refine pU (i := 24) (N := some 39) (bs 24 33) ?_
     refine pU (i := 25) (N := some 40) (bs 25 33) ?_
     refine pU (i := 26) (N := some 41) (bs 26 33) ?_
     refine pU (i := 27) (N := some 42) (bs 27 33) ?_
     refine pU (i := 28) (N := some 43) (bs 28 33) ?_
     refine pU (i := 29) (N := some 44) (bs 29 33) ?_
     refine pY (i := 30) (N := some 45) (bs 30 33) ?_
     refine pY (i := 31) (N := some 46) (bs 31 33) ?_
     refine last_ (i := 32) (N := none) (bs 32 33) rfl rfl (one_of HT_.out (by kernel_rfl)) (by decide) (fun K hK => ?_)
     refine skip_ (w1 := ?_) (by rfl) rfl ?_ ?_
     rotate_left
     ·go_simp
      rfl
     refine hK.out _ _ ?_
     clear hK K
     refine done_ (done_of HT_.out (by kernel_rfl)) ?_
     try go_wp2
     go_roundg k1
     case measure => have := HK1.out; omega
     case rel => exact ⟨(y183), (wrap64 (x4_1 - 1)), sD, H', ⟨by have := HK1.out; omega⟩, ⟨uR HQ16.out⟩, ⟨by repeat (first | (with_reducible first | exact HB.out | apply below_alloc | apply pw_below_drewN | apply below_drew1 | refine below_set ?_ GB14.out) | exact HB.out)⟩⟩
    ·by_cases c17 : (rd l0 x4_1) = (rd l0 (ji9))
     ·rw [if_pos c17] at H
      have c17b0 : ((rd l0 x4_1) == (rd l0 (ji9))) = true := beq_iff_eq.mpr c17
      have c17b1 : ((rd l0 x4_1) != (rd l0 (ji9))) = false := bne_eq_false_iff_eq.mpr c17
      clear c17
      obtain ⟨c18b0, c19b0, H⟩ := ifD2 H
      generalize hy187 : (x3_1.set (x4_1 : Int).toNat (rdOf false x3_1 (ji9)) : List Bool) = y187 at H
      try simp only [Option.bind_some] at H
      have Ny187 := Aside0.mk hy187.symm
      clear hy187
      have H' := Aside0.mk H
      clear H
      try go_wp2
      have n0_ := Aside0.mk (Kd.R_drew HO_3.out)
      have n1_ := Aside0.mk (below_drew1 HB.out)
      clear HO_3
      clear HB
      have HO_3 := n0_
      have HB := n1_
      clear n0_ n1_
      obtain ⟨ad181, e181, hx181_0, p181, q181⟩ := rI HR0.out x4_1
      have hw181_0 := hx181_0
      cases e181
      replace hx181_0 := (HB.out.cell (World.block_lt_of_cell? w _ hx181_0)).trans hx181_0
      obtain ⟨ad182, e182, hx182_0, p182, q182⟩ := rI HR0.out (ji9)
      have hw182_0 := hx182_0
      obtain rfl : ad181 = ad182 := (by injection e182)
      replace hx182_0 := (HB.out.cell (World.block_lt_of_cell? w _ hx182_0)).trans hx182_0
      obtain ⟨ad184, e184, hx184_0, p184, q184⟩ := rI HR0.out x4_1
      have hw184_0 := hx184_0
      obtain rfl : ad181 = ad184 := (by injection e184)
      replace hx184_0 := (HB.out.cell (World.block_lt_of_cell? w _ hx184_0)).trans hx184_0
      obtain ⟨ad185, e185, hx185_0, p185, q185⟩ := rI HR0.out (ji9)
      have hw185_0 := hx185_0
      obtain rfl : ad181 = ad185 := (by injection e185)
      replace hx185_0 := (HB.out.cell (World.block_lt_of_cell? w _ hx185_0)).trans hx185_0
      obtain ⟨Ao22, co22, eo22⟩ := Kd.R_slice HO_3.out
      (first | subst eo22 | (injection eo22 with f1_ f2_ f3_; have f4_ := f1_.symm; have f5_ := f3_.symm; clear f1_ f2_ f3_; subst f4_; subst f5_))
      obtain ⟨ad186, e186, hx186_0, p186, q186⟩ := rL (Kd.R_reads' HO_3.out).2.2 (ji9)
      cases e186
      have p20 : 0 ≤ (x4_1 : Int) := dT
      have q20 : (x4_1 : Int) < ((x3_1.length : Int) : Int) := dT
      obtain ⟨go20, co20, eo20, gb20, gl20, cl20, HG20⟩ := Kd.R_form HO_3.out (by omega)
      (first | cases eo20 | (injection eo20 with ea_ en_ ec_; (first | subst ea_ | (injection ea_ with ea_; subst ea_)); subst ec_; clear en_))
      have GB20 := Aside0.mk gb20
      have GG20 := Aside0.mk HG20
      clear gb20 gl20 HG20
      (first | simp only [add_plain] at hx186_0 | skip)
      obtain ⟨hx20_0, hf20_0⟩ := Kd.R_celln false HO_3.out (x4_1 : Int) p20 q20
      replace p20 := eq_true p20
      replace q20 := eq_true q20
      have HP23 := Kd.R_putn HO_3.out (x4_1 : Int) (rdOf false x3_1 (ji9))
      rw [← Ny187.out] at HP23
      have HQ23 := Aside0.mk HP23
      clear HP23
      refine start_ (n := 33) (S := fun w' => w'.cell? (ad181.add (x4_1).toNat) = some (.int .i64 (rd l0 x4_1)) ∧ w'.cell? (ad181.add ((ji9)).toNat) = some (.int .i64 (rd l0 (ji9))) ∧ w'.cell? (ad181.add (x4_1).toNat) = some (.int .i64 (rd l0 x4_1)) ∧ w'.cell? (ad181.add ((ji9)).toNat) = some (.int .i64 (rd l0 (ji9))) ∧ w'.cell? ⟨go20, ((ji9)).toNat, none⟩ = some (.bool (rdOf false x3_1 (ji9)))) (ds := [32]) #[false, false, false, false, false, false, false, false, false, false, false, false, false, false, false, false, false, false, false, false, false, false, false, false, false, false, false, false, false, false, false, false, false] (by kernel_rfl) rfl rfl ⟨((HB.out.cell (World.block_lt_of_cell? w _ hw181_0)).trans hw181_0), ((HB.out.cell (World.block_lt_of_cell? w _ hw182_0)).trans hw182_0), ((HB.out.cell (World.block_lt_of_cell? w _ hw184_0)).trans hw184_0), ((HB.out.cell (World.block_lt_of_cell? w _ hw185_0)).trans hw185_0), hx186_0⟩ (fun hHeld => ?_); refine with_tabW kinds_Small.tab5 kinds_Small.bits5 (fun HT_ HW_ => ?_)
      generalize wr.drew = w21 at HO_3 HB GG20 HQ23 hf20_0 hx181_0 hx182_0 hx184_0 hx185_0 hx186_0 hx20_0 hHeld ⊢
      refine pY (i := 0) (N := some 15) (bs 0 33) ?_
      refine pY (i := 1) (N := some 16) (bs 1 33) ?_
      refine pY (i := 2) (N := some 17) (bs 2 33) ?_
      refine pY (i := 3) (N := some 18) (bs 3 33) ?_
      refine pY (i := 4) (N := some 19) (bs 4 33) ?_
      refine pY (i := 6) (N := some 21) #[true, true, true, true, true, false, true, false, false, false, false, false, false, false, false, false, false, false, false, false, false, false, false, false, false, false, false, false, false, false, false, false, false] ?_
      refine pY (i := 7) (N := some 22) #[true, true, true, true, true, false, true, true, false, false, false, false, false, false, false, false, false, false, false, false, false, false, false, false, false, false, false, false, false, false, false, false, false] ?_
      refine pY (i := 8) (N := some 23) #[true, true, true, true, true, false, true, true, true, false, false, false, false, false, false, false, false, false, false, false, false, false, false, false, false, false, false, false, false, false, false, false, false] ?_
      refine pY (i := 9) (N := some 24) #[true, true, true, true, true, false, true, true, true, true, false, false, false, false, false, false, false, false, false, false, false, false, false, false, false, false, false, false, false, false, false, false, false] ?_
      refine take_ (i := 5) (N := some 20) (v := ?_) (a' := ?_) (bs 9 33) rfl rfl (take_ofW HT_.out HW_.out (by kernel_rfl)) (fun _ _ _ h => h) (Or.inl ⟨by rfl, ?_⟩) hHeld ?_ ?_
      rotate_left
      ·rintro w' ⟨s0, s1, s2, s3, s4⟩
       go_simp
       with_reducible rfl
      rotate_left
      ·simp only [Act.put, List.setIfInBounds_toArray, List.set_cons_zero, List.set_cons_succ, i64_w, i32_w]
       rfl
      refine take_ (i := 10) (N := some 25) (v := ?_) (a' := ?_) (bs 10 33) rfl rfl (take_ofW HT_.out HW_.out (by kernel_rfl)) (fun _ _ _ h => h) (Or.inl ⟨by rfl, ?_⟩) hHeld ?_ ?_
      rotate_left
      ·rintro w' ⟨s0, s1, s2, s3, s4⟩
       go_simp
       with_reducible rfl
      rotate_left
      ·simp only [Act.put, List.setIfInBounds_toArray, List.set_cons_zero, List.set_cons_succ, i64_w, i32_w]
       rfl
      refine pY (i := 11) (N := some 26) (bs 11 33) ?_
      refine pY (i := 12) (N := some 27) (bs 12 33) ?_
      refine pY (i := 13) (N := some 28) (bs 13 33) ?_
      refine pY (i := 14) (N := some 29) (bs 14 33) ?_
      refine pY (i := 15) (N := some 30) (bs 15 33) ?_
      refine pY (i := 17) (N := some 32) #[true, true, true, true, true, true, true, true, true, true, true, true, true, true, true, true, false, true, false, false, false, false, false, false, false, false, false, false, false, false, false, false, false] ?_
      refine pY (i := 18) (N := some 33) #[true, true, true, true, true, true, true, true, true, true, true, true, true, true, true, true, false, true, true, false, false, false, false, false, false, false, false, false, false, false, false, false, false] ?_
      refine pY (i := 19) (N := some 34) #[true, true, true, true, true, true, true, true, true, true, true, true, true, true, true, true, false, true, true, true, false, false, false, false, false, false, false, false, false, false, false, false, false] ?_
      refine pY (i := 20) (N := some 35) #[true, true, true, true, true, true, true, true, true, true, true, true, true, true, true, true, false, true, true, true, true, false, false, false, false, false, false, false, false, false, false, false, false] ?_
      refine take_ (i := 16) (N := some 31) (v := ?_) (a' := ?_) (bs 20 33) rfl rfl (take_ofW HT_.out HW_.out (by kernel_rfl)) (fun _ _ _ h => h) (Or.inl ⟨by rfl, ?_⟩) hHeld ?_ ?_
      rotate_left
      ·rintro w' ⟨s0, s1, s2, s3, s4⟩
       go_simp
       with_reducible rfl
      rotate_left
      ·simp only [Act.put, List.setIfInBounds_toArray, List.set_cons_zero, List.set_cons_succ, i64_w, i32_w]
       rfl
      refine take_ (i := 21) (N := some 36) (v := ?_) (a' := ?_) (bs 21 33) rfl rfl (take_ofW HT_.out HW_.out (by kernel_rfl)) (fun _ _ _ h => h) (Or.inl ⟨by rfl, ?_⟩) hHeld ?_ ?_
      rotate_left
      ·rintro w' ⟨s0, s1, s2, s3, s4⟩
       go_simp
       with_reducible rfl
      rotate_left
      ·simp only [Act.put, List.setIfInBounds_toArray, List.set_cons_zero, List.set_cons_succ, i64_w, i32_w]
       rfl
      refine pY (i := 22) (N := some 37) (bs 22 33) ?_
      refine pY (i := 23) (N := some 38) (bs 23 33) ?_
      refine pY (i := 24) (N := some 39) (bs 24 33) ?_
      refine pY (i := 25) (N := some 40) (bs 25 33) ?_
      refine pY (i := 26) (N := some 41) (bs 26 33) ?_
      refine pY (i := 27) (N := some 42) (bs 27 33) ?_
      refine take_ (i := 28) (N := some 43) (v := ?_) (a' := ?_) (bs 28 33) rfl rfl (take_ofW HT_.out HW_.out (by kernel_rfl)) (fun _ _ _ h => h) (Or.inl ⟨by rfl, ?_⟩) hHeld ?_ ?_
      rotate_left
      ·rintro w' ⟨s0, s1, s2, s3, s4⟩
       go_simp
       with_reducible rfl
      rotate_left
      ·simp only [Act.put, List.setIfInBounds_toArray, List.set_cons_zero, List.set_cons_succ, i64_w, i32_w]
       rfl
      refine pY (i := 29) (N := some 44) (bs 29 33) ?_
      refine pY (i := 30) (N := some 45) (bs 30 33) ?_
      refine pY (i := 31) (N := some 46) (bs 31 33) ?_
      refine last_ (i := 32) (N := none) (bs 32 33) rfl rfl (one_of HT_.out (by kernel_rfl)) (by decide) (fun K hK => ?_)
      refine skip_ (w1 := ?_) (by rfl) rfl ?_ ?_
      rotate_left
      ·go_simp
       rfl
      refine hK.out _ _ ?_
      clear hK K
      refine done_ (done_of HT_.out (by kernel_rfl)) ?_
      try go_wp2
      go_roundg k1
      case measure => have := HK1.out; omega
      case rel => exact ⟨(y187), (wrap64 (x4_1 - 1)), sD, H', ⟨by have := HK1.out; omega⟩, ⟨uR HQ23.out⟩, ⟨by repeat (first | (with_reducible first | exact HB.out | apply below_alloc | apply pw_below_drewN | apply below_drew1 | refine below_set ?_ GB20.out) | exact HB.out)⟩⟩
     ·rw [if_neg c17] at H
      have c17b0 : ((rd l0 x4_1) == (rd l0 (ji9))) = false := beq_eq_false_iff_ne.mpr c17
      have c17b1 : ((rd l0 x4_1) != (rd l0 (ji9))) = true := bne_iff_ne.mpr c17
      obtain ⟨c24b0, H⟩ := ifD H
      generalize hy188 : (x3_1.set (x4_1 : Int).toNat false : List Bool) = y188 at H
      try simp only [Option.bind_some] at H
      have Ny188 := Aside0.mk hy188.symm
      clear hy188
      have H' := Aside0.mk H
      clear H
      try go_wp2
      have n0_ := Aside0.mk (Kd.R_drew HO_3.out)
      have n1_ := Aside0.mk (below_drew1 HB.out)
      clear HO_3
      clear HB
      have HO_3 := n0_
      have HB := n1_
      clear n0_ n1_
      obtain ⟨ad181, e181, hx181_0, p181, q181⟩ := rI HR0.out x4_1
      have hw181_0 := hx181_0
      cases e181
      replace hx181_0 := (HB.out.cell (World.block_lt_of_cell? w _ hx181_0)).trans hx181_0
      obtain ⟨ad182, e182, hx182_0, p182, q182⟩ := rI HR0.out (ji9)
      have hw182_0 := hx182_0
      obtain rfl : ad181 = ad182 := (by injection e182)
      replace hx182_0 := (HB.out.cell (World.block_lt_of_cell? w _ hx182_0)).trans hx182_0
      obtain ⟨ad184, e184, hx184_0, p184, q184⟩ := rI HR0.out x4_1
      have hw184_0 := hx184_0
      obtain rfl : ad181 = ad184 := (by injection e184)
      replace hx184_0 := (HB.out.cell (World.block_lt_of_cell? w _ hx184_0)).trans hx184_0
      obtain ⟨ad185, e185, hx185_0, p185, q185⟩ := rI HR0.out (ji9)
      have hw185_0 := hx185_0
      obtain rfl : ad181 = ad185 := (by injection e185)
      replace hx185_0 := (HB.out.cell (World.block_lt_of_cell? w _ hx185_0)).trans hx185_0
      have p25 : 0 ≤ (x4_1 : Int) := dT
      have q25 : (x4_1 : Int) < ((x3_1.length : Int) : Int) := dT
      obtain ⟨go25, co25, eo25, gb25, gl25, cl25, HG25⟩ := Kd.R_form HO_3.out (by omega)
      (first | cases eo25 | (injection eo25 with ea_ en_ ec_; (first | subst ea_ | (injection ea_ with ea_; subst ea_)); subst ec_; clear en_))
      have GB25 := Aside0.mk gb25
      have GG25 := Aside0.mk HG25
      clear gb25 gl25 HG25
      obtain ⟨hx25_0, hf25_0⟩ := Kd.R_celln false HO_3.out (x4_1 : Int) p25 q25
      replace p25 := eq_true p25
      replace q25 := eq_true q25
      have HP27 := Kd.R_putn HO_3.out (x4_1 : Int) false
      rw [← Ny188.out] at HP27
      have HQ27 := Aside0.mk HP27
      clear HP27
      refine start_ (n := 33) (S := fun w' => w'.cell? (ad181.add (x4_1).toNat) = some (.int .i64 (rd l0 x4_1)) ∧ w'.cell? (ad181.add ((ji9)).toNat) = some (.int .i64 (rd l0 (ji9))) ∧ w'.cell? (ad181.add (x4_1).toNat) = some (.int .i64 (rd l0 x4_1)) ∧ w'.cell? (ad181.add ((ji9)).toNat) = some (.int .i64 (rd l0 (ji9)))) (ds := [32]) #[false, false, false, false, false, false, false, false, false, false, false, false, false, false, false, false, false, false, false, false, false, false, false, false, false, false, false, false, false, false, false, false, false] (by kernel_rfl) rfl rfl ⟨((HB.out.cell (World.block_lt_of_cell? w _ hw181_0)).trans hw181_0), ((HB.out.cell (World.block_lt_of_cell? w _ hw182_0)).trans hw182_0), ((HB.out.cell (World.block_lt_of_cell? w _ hw184_0)).trans hw184_0), ((HB.out.cell (World.block_lt_of_cell? w _ hw185_0)).trans hw185_0)⟩ (fun hHeld => ?_); refine with_tabW kinds_Small.tab5 kinds_Small.bits5 (fun HT_ HW_ => ?_)
      generalize wr.drew = w26 at HO_3 HB GG25 HQ27 hf25_0 hx181_0 hx182_0 hx184_0 hx185_0 hx25_0 hHeld ⊢
      refine pY (i := 0) (N := some 15) (bs 0 33) ?_
      refine pY (i := 1) (N := some 16) (bs 1 33) ?_
      refine pY (i := 2) (N := some 17) (bs 2 33) ?_
      refine pY (i := 3) (N := some 18) (bs 3 33) ?_
      refine pY (i := 4) (N := some 19) (bs 4 33) ?_
      refine pY (i := 6) (N := some 21) #[true, true, true, true, true, false, true, false, false, false, false, false, false, false, false, false, false, false, false, false, false, false, false, false, false, false, false, false, false, false, false, false, false] ?_
      refine pY (i := 7) (N := some 22) #[true, true, true, true, true, false, true, true, false, false, false, false, false, false, false, false, false, false, false, false, false, false, false, false, false, false, false, false, false, false, false, false, false] ?_
      refine pY (i := 8) (N := some 23) #[true, true, true, true, true, false, true, true, true, false, false, false, false, false, false, false, false, false, false, false, false, false, false, false, false, false, false, false, false, false, false, false, false] ?_
      refine pY (i := 9) (N := some 24) #[true, true, true, true, true, false, true, true, true, true, false, false, false, false, false, false, false, false, false, false, false, false, false, false, false, false, false, false, false, false, false, false, false] ?_
      refine take_ (i := 5) (N := some 20) (v := ?_) (a' := ?_) (bs 9 33) rfl rfl (take_ofW HT_.out HW_.out (by kernel_rfl)) (fun _ _ _ h => h) (Or.inl ⟨by rfl, ?_⟩) hHeld ?_ ?_
      rotate_left
      ·rintro w' ⟨s0, s1, s2, s3⟩
       go_simp
       with_reducible rfl
      rotate_left
      ·simp only [Act.put, List.setIfInBounds_toArray, List.set_cons_zero, List.set_cons_succ, i64_w, i32_w]
       rfl
      refine take_ (i := 10) (N := some 25) (v := ?_) (a' := ?_) (bs 10 33) rfl rfl (take_ofW HT_.out HW_.out (by kernel_rfl)) (fun _ _ _ h => h) (Or.inl ⟨by rfl, ?_⟩) hHeld ?_ ?_
      rotate_left
      ·rintro w' ⟨s0, s1, s2, s3⟩
       go_simp
       with_reducible rfl
      rotate_left
      ·simp only [Act.put, List.setIfInBounds_toArray, List.set_cons_zero, List.set_cons_succ, i64_w, i32_w]
       rfl
      refine pY (i := 11) (N := some 26) (bs 11 33) ?_
      refine pY (i := 12) (N := some 27) (bs 12 33) ?_
      refine pY (i := 13) (N := some 28) (bs 13 33) ?_
      refine pY (i := 14) (N := some 29) (bs 14 33) ?_
      refine pY (i := 15) (N := some 30) (bs 15 33) ?_
      refine pY (i := 17) (N := some 32) #[true, true, true, true, true, true, true, true, true, true, true, true, true, true, true, true, false, true, false, false, false, false, false, false, false, false, false, false, false, false, false, false, false] ?_
      refine pY (i := 18) (N := some 33) #[true, true, true, true, true, true, true, true, true, true, true, true, true, true, true, true, false, true, true, false, false, false, false, false, false, false, false, false, false, false, false, false, false] ?_
      refine pY (i := 19) (N := some 34) #[true, true, true, true, true, true, true, true, true, true, true, true, true, true, true, true, false, true, true, true, false, false, false, false, false, false, false, false, false, false, false, false, false] ?_
      refine pY (i := 20) (N := some 35) #[true, true, true, true, true, true, true, true, true, true, true, true, true, true, true, true, false, true, true, true, true, false, false, false, false, false, false, false, false, false, false, false, false] ?_
      refine take_ (i := 16) (N := some 31) (v := ?_) (a' := ?_) (bs 20 33) rfl rfl (take_ofW HT_.out HW_.out (by kernel_rfl)) (fun _ _ _ h => h) (Or.inl ⟨by rfl, ?_⟩) hHeld ?_ ?_
      rotate_left
      ·rintro w' ⟨s0, s1, s2, s3⟩
       go_simp
       with_reducible rfl
      rotate_left
      ·simp only [Act.put, List.setIfInBounds_toArray, List.set_cons_zero, List.set_cons_succ, i64_w, i32_w]
       rfl
      refine take_ (i := 21) (N := some 36) (v := ?_) (a' := ?_) (bs 21 33) rfl rfl (take_ofW HT_.out HW_.out (by kernel_rfl)) (fun _ _ _ h => h) (Or.inl ⟨by rfl, ?_⟩) hHeld ?_ ?_
      rotate_left
      ·rintro w' ⟨s0, s1, s2, s3⟩
       go_simp
       with_reducible rfl
      rotate_left
      ·simp only [Act.put, List.setIfInBounds_toArray, List.set_cons_zero, List.set_cons_succ, i64_w, i32_w]
       rfl
      refine pY (i := 22) (N := some 37) (bs 22 33) ?_
      refine pY (i := 23) (N := some 38) (bs 23 33) ?_
      refine pU (i := 24) (N := some 39) (bs 24 33) ?_
      refine pU (i := 25) (N := some 40) (bs 25 33) ?_
      refine pU (i := 26) (N := some 41) (bs 26 33) ?_
      refine pU (i := 27) (N := some 42) (bs 27 33) ?_
      refine pU (i := 28) (N := some 43) (bs 28 33) ?_
      refine pY (i := 29) (N := some 44) (bs 29 33) ?_
      refine pY (i := 30) (N := some 45) (bs 30 33) ?_
      refine pY (i := 31) (N := some 46) (bs 31 33) ?_
      refine last_ (i := 32) (N := none) (bs 32 33) rfl rfl (one_of HT_.out (by kernel_rfl)) (by decide) (fun K hK => ?_)
      refine skip_ (w1 := ?_) (by rfl) rfl ?_ ?_
      rotate_left
      ·go_simp
       rfl
      refine hK.out _ _ ?_
      clear hK K
      refine done_ (done_of HT_.out (by kernel_rfl)) ?_
      try go_wp2
      go_roundg k1
      case measure => have := HK1.out; omega
      case rel => exact ⟨(y188), (wrap64 (x4_1 - 1)), sD, H', ⟨by have := HK1.out; omega⟩, ⟨uR HQ27.out⟩, ⟨by repeat (first | (with_reducible first | exact HB.out | apply below_alloc | apply pw_below_drewN | apply below_drew1 | refine below_set ?_ GB25.out) | exact HB.out)⟩⟩
   ·obtain rfl := Option.some.inj H
    go_wp2
    go_ret
    exact ⟨_, eR, uR HO_3.out, uB⟩
end Go.Proofs.YtbbpplnnegdenaaGreat.PTopPipe
end
section
namespace Go.Proofs.YtbbpplnnegdenaaGreat.PTopPipe
open Go.RowKit Go.Proofs.YtbbpplnnegdenaaGreatW.PrintWords Go.Proofs.YtbbpplnnegdenaaGreatW.PrintLast Go.Proofs.YtbbpplnnegdenaaGreatW.PrintMore
attribute [local go_sem] max2_int min2_int max_two min_two max_three min_three max_four min_four
set_option linter.unusedVariables false
set_option linter.unusedSimpArgs false
def kinds_First.l0 : Nat → List Int → List Bool → Int → Int → Option (List Int)
  | 0, _, _, _, _ => none
  | k + 1, x3, x4, x9, x10 => if x10 < x9 then (if x10 > 0 then (if 0 ≤ x10 then (if x10 < (x4.length : Int) then (if rdOf false x4 x10 = true then (if 0 ≤ (wrap64 (x10 - 1)) then (if (wrap64 (x10 - 1)) < (x4.length : Int) then (if (rdOf false x4 (wrap64 (x10 - 1)) = true) then (kinds_First.l0 k x3 x4 x9 (wrap64 (x10 + 1))) else (if x3.length < 17592186044416 then (kinds_First.l0 k (x3 ++ [x10]) x4 x9 (wrap64 (x10 + 1))) else (none))) else (none)) else (none)) else (kinds_First.l0 k x3 x4 x9 (wrap64 (x10 + 1)))) else (none)) else (none)) else (kinds_First.l0 k x3 x4 x9 (wrap64 (x10 + 1)))) else (some x3)
def kinds_First.f (k : Nat) (l0 : List Int) : Option (List Int) := (kinds_Small.f k l0).bind fun t189 => (kinds_First.l0 k ([] : List Int) t189 (l0.length : Int) 0)
theorem kinds_First.mono_l : ∀ k, (∀ y0 y1 y2 y3, LeO (kinds_First.l0 k y0 y1 y2 y3) (kinds_First.l0 (k + 1) y0 y1 y2 y3))
  | 0 => fun _ _ _ _ r h => by simp [kinds_First.l0] at h
  | k + 1 => by
    have ih0 := kinds_First.mono_l k
    · intro y0 y1 y2 y3
      unfold kinds_First.l0
      have m0 := @kinds_Small.mono
      exact mB
theorem kinds_First.mono : ∀ a0 k, LeO (kinds_First.f k a0) (kinds_First.f (k + 1) a0) := by
  intro a0 k
  have ih0 := kinds_First.mono_l k
  unfold kinds_First.f
  have m0 := @kinds_Small.mono
  exact mB
set_option maxHeartbeats 8000000 in
set_option maxRecDepth 100000 in
theorem kinds_First.calls (k : Nat) (A0 : Option Addr) (c0 : Nat) (l0 : List Int) (r : List Int) (w : World) (hr0 : Kd.C (Kd.int .i64) w A0 l0.length l0) (hc0 : l0.length ≤ c0) (h : kinds_First.f k l0 = some r) :
    Calls Tryz.prog 104 #[.slice A0 l0.length c0] w fun e w' => ∃ v0_ : Value, e = .returned (v0_) ∧ Kd.R (Kd.int .i64) 3 w' w.heap.size (fun _ => True) v0_ r ∧ Below w.heap.size w w' := by
 have HR0 := Aside0.mk hr0
 have HC0 := Aside0.mk hc0
 clear hr0 hc0
 have HB := Aside0.mk (Below.refl w.heap.size w)
 have H := h
 clear h
 unfold kinds_First.f at H
 obtain ⟨t189, A2, H⟩ := bdS H
 try dsimp only at H
 have H' := Aside0.mk H
 clear H
 go_enter Tryz.func104, Tryz.ntmps104
 go_wp2_with (first | ((with_reducible refine gate_callee (f := 120) rfl ?_); refine goesL_ (some 7) rfl rfl Tryz.func120 (by kernel_rfl) rfl #[.slice A0 l0.length c0] rfl aE ?_; (with_reducible refine (kinds_Small.calls k _ _ l0 t189 _ ?side1 ?side2 A2.out).mono ?_); (case side1 => exact uC HR0.out); (case side2 => exact HC0.out); rintro e w3 ⟨v190, rfl, ho0, hb⟩; refine ⟨_, rfl, ?_⟩; have n0_ := Aside0.mk (Kd.R_lower ho0 (below_size uB)); have n1_ := Aside0.mk (below_step uB hb); clear HB; have HO191 := n0_; have HB := n1_; clear n0_ n1_; (try clear hb); (try clear hb2); (try clear hk); (try clear hi); (try clear ho0)))
 go_loopg [3, 10] k (fun kq v3 v10 w' => ∃ (x3_1 : List Int) (x10_1 : Int), v10 = .int .i64 x10_1 ∧ Aside0 (kinds_First.l0 kq x3_1 t189 (l0.length : Int) x10_1 = some r) ∧ Aside0 (kq ≤ k) ∧ Aside0 (Kd.R (Kd.int .i64) 3 w' w.heap.size (fun _ => True) v3 x3_1) ∧ Aside0 (Kd.R Kd.bool 4 w' w.heap.size (fun _ => True) v190 t189) ∧ Aside0 (Below w.heap.size w w'))
 case atStart => exact ⟨(([] : List Int)), (0), sD, H', ⟨Nat.le_refl _⟩, ⟨nL⟩, ⟨uR HO191.out⟩, ⟨uB⟩⟩
 case round =>
  clear H'
  try clear c1
  try clear p2
  obtain ⟨x3_1, x10_1, rfl, HA, HK1, HO_3, HO_4, HB⟩ := hrel
  cases gk with
  | zero => exact absurd HA.out (by simp [kinds_First.l0])
  | succ k1 =>
   have H := HA.out
   clear HA
   simp only [kinds_First.l0] at H
   rcases ifC H with ⟨c4b0, H⟩ | ⟨c4b0, H⟩
   ·rcases ifK H with ⟨c5b0, H⟩ | ⟨c5b0, H⟩
    ·obtain ⟨c6b0, c7b0, H⟩ := ifD2 H
     obtain ⟨bq8, hbq8⟩ : ∃ b_ : Bool, b_ = (rdOf false t189 x10_1) := ⟨_, rfl⟩
     replace H : (if bq8 = true then (if 0 ≤ (wrap64 (x10_1 - 1)) then (if (wrap64 (x10_1 - 1)) < (t189.length : Int) then (if (rdOf false t189 (wrap64 (x10_1 - 1)) = true) then (kinds_First.l0 k1 x3_1 t189 (l0.length : Int) (wrap64 (x10_1 + 1))) else (if x3_1.length < 17592186044416 then (kinds_First.l0 k1 (x3_1 ++ [x10_1]) t189 (l0.length : Int) (wrap64 (x10_1 + 1))) else (none))) else (none)) else (none)) else (kinds_First.l0 k1 x3_1 t189 (l0.length : Int) (wrap64 (x10_1 + 1)))) = some r := by rw [← hbq8] at H; exact H
     have Nbq8 := Aside0.mk hbq8
     clear hbq8
     by_cases c9 : bq8 = true
     ·subst c9
      rw [if_pos rfl] at H
      obtain ⟨ji10, hji10⟩ : ∃ j_ : Int, (wrap64 (x10_1 - 1)) = j_ := ⟨_, rfl⟩
      first | rw [hji10] at H | simp only [hji10] at H
      have hji10w : (IntKind.i64.wrap (x10_1 - 1)) = ji10 := (i64_w _).trans hji10
      obtain ⟨c11b0, c12b0, H⟩ := ifD2 H
      obtain ⟨bq13, hbq13⟩ : ∃ b_ : Bool, b_ = (rdOf false t189 (ji10)) := ⟨_, rfl⟩
      replace H : (if (bq13 = true) then (kinds_First.l0 k1 x3_1 t189 (l0.length : Int) (wrap64 (x10_1 + 1))) else (if x3_1.length < 17592186044416 then (kinds_First.l0 k1 (x3_1 ++ [x10_1]) t189 (l0.length : Int) (wrap64 (x10_1 + 1))) else (none))) = some r := by rw [← hbq13] at H; exact H
      have Nbq13 := Aside0.mk hbq13
      clear hbq13
      by_cases c14 : (bq13 = true)
      ·subst c14
       rw [if_pos rfl] at H
       have H' := Aside0.mk H
       clear H
       obtain ⟨Ao15, co15, eo15⟩ := Kd.R_slice HO_4.out
       subst eo15
       have p192 : 0 ≤ (x10_1 : Int) := dT
       have q192 : x10_1 < (t189.length : Int) := dT
       obtain ⟨ad192, e192, hx192_0⟩ := Kd.at_bool (Kd.R_reads' HO_4.out).2.2 x10_1 p192 q192
       (try rw [← Nbq8.out] at hx192_0)
       (try rw [← Nbq13.out] at hx192_0)
       cases e192
       replace p192 := eq_true p192
       replace q192 := eq_true q192
       have p193 : 0 ≤ ((ji10) : Int) := dT
       have q193 : (ji10) < (t189.length : Int) := dT
       obtain ⟨ad193, e193, hx193_0⟩ := Kd.at_bool (Kd.R_reads' HO_4.out).2.2 (ji10) p193 q193
       (try rw [← Nbq8.out] at hx193_0)
       (try rw [← Nbq13.out] at hx193_0)
       obtain rfl : ad192 = ad193 := (by injection e193)
       replace p193 := eq_true p193
       replace q193 := eq_true q193
       go_wp2
       go_roundg k1
       case measure => have := HK1.out; omega
       case rel => exact ⟨(x3_1), (wrap64 (x10_1 + 1)), sD, H', ⟨by have := HK1.out; omega⟩, ⟨uR HO_3.out⟩, ⟨uR HO_4.out⟩, ⟨uB⟩⟩
      ·replace c14 := Bool.eq_false_iff.mpr c14
       subst c14
       rw [if_neg (by decide)] at H
       obtain ⟨c16, H⟩ := ifP H
       have LMc16 := Aside0.mk c16
       clear c16
       generalize hy194 : (x3_1 ++ [x10_1] : List Int) = y194 at H
       try simp only [Option.bind_some] at H
       have Ny194 := Aside0.mk hy194.symm
       clear hy194
       have H' := Aside0.mk H
       clear H
       obtain ⟨Ao17, co17, eo17⟩ := Kd.R_slice HO_4.out
       subst eo17
       have p192 : 0 ≤ (x10_1 : Int) := dT
       have q192 : x10_1 < (t189.length : Int) := dT
       obtain ⟨ad192, e192, hx192_0⟩ := Kd.at_bool (Kd.R_reads' HO_4.out).2.2 x10_1 p192 q192
       (try rw [← Nbq8.out] at hx192_0)
       (try rw [← Nbq13.out] at hx192_0)
       cases e192
       replace p192 := eq_true p192
       replace q192 := eq_true q192
       have p193 : 0 ≤ ((ji10) : Int) := dT
       have q193 : (ji10) < (t189.length : Int) := dT
       obtain ⟨ad193, e193, hx193_0⟩ := Kd.at_bool (Kd.R_reads' HO_4.out).2.2 (ji10) p193 q193
       (try rw [← Nbq8.out] at hx193_0)
       (try rw [← Nbq13.out] at hx193_0)
       obtain rfl : ad192 = ad193 := (by injection e193)
       replace p193 := eq_true p193
       replace q193 := eq_true q193
       go_wp2_with (first | ((with_reducible refine gate_builtin (b := .append) (xs := #[.tmp 29, .tmp 31]) rfl ?_); at_builtin; refine Kd.R_append (Kd.int .i64) (w0 := w) w.heap.size rfl (.tmp 29) (.tmp 31) 29 3 (.int .i64 0) 8 rfl Tryz.underlying29 info3 rfl (by decide) (by omega) u3 x3_1 x10_1 [.int .i64 x10_1] (fun _ => True) (fun _ => False) rfl rfl ?aP (fun _ hk => hk.elim) ?aF ?aO ?aB ?aS ?aL ?_; (case aP => exact rfl); (case aB => exact uB); (case aF => exact (fun _ _ => trivial)); (case aO => exact (uR HO_3.out)); (case aS => exact (below_size uB)); (case aL => have := LMc16.out; omega); intro v195 w18 ho hb hg hat; rw [← Ny194.out] at ho; have n0_ := Aside0.mk (Kd.R_over' (uR HO_4.out) (Kd.R_typed (uR HO_3.out)) (by decide) hg); have n1_ := Aside0.mk (hb); have n2_ := Aside0.mk (ho); clear HO_4; clear HB; clear HO_3; have HO_4 := n0_; have HB := n1_; have HO196 := n2_; clear n0_ n1_ n2_; clear ho hb hg hat))
       go_roundg k1
       case measure => have := HK1.out; omega
       case rel => exact ⟨(y194), (wrap64 (x10_1 + 1)), sD, H', ⟨by have := HK1.out; omega⟩, ⟨uR HO196.out⟩, ⟨uR HO_4.out⟩, ⟨uB⟩⟩
     ·replace c9 := Bool.eq_false_iff.mpr c9
      subst c9
      rw [if_neg (by decide)] at H
      have H' := Aside0.mk H
      clear H
      obtain ⟨Ao19, co19, eo19⟩ := Kd.R_slice HO_4.out
      subst eo19
      have p192 : 0 ≤ (x10_1 : Int) := dT
      have q192 : x10_1 < (t189.length : Int) := dT
      obtain ⟨ad192, e192, hx192_0⟩ := Kd.at_bool (Kd.R_reads' HO_4.out).2.2 x10_1 p192 q192
      (try rw [← Nbq8.out] at hx192_0)
      cases e192
      replace p192 := eq_true p192
      replace q192 := eq_true q192
      go_wp2
      go_roundg k1
      case measure => have := HK1.out; omega
      case rel => exact ⟨(x3_1), (wrap64 (x10_1 + 1)), sD, H', ⟨by have := HK1.out; omega⟩, ⟨uR HO_3.out⟩, ⟨uR HO_4.out⟩, ⟨uB⟩⟩
    ·have H' := Aside0.mk H
     clear H
     go_wp2
     go_roundg k1
     case measure => have := HK1.out; omega
     case rel => exact ⟨(x3_1), (wrap64 (x10_1 + 1)), sD, H', ⟨by have := HK1.out; omega⟩, ⟨uR HO_3.out⟩, ⟨uR HO_4.out⟩, ⟨uB⟩⟩
   ·obtain rfl := Option.some.inj H
    go_wp2
    go_ret
    exact ⟨_, eR, uR HO_3.out, uB⟩
def slices_Equal_int_int.l0 : Nat → List Int → List Int → Int → Int → Option (Bool)
  | 0, _, _, _, _ => none
  | k + 1, x0, x1, x12, x13 => if x13 < x12 then (if 0 ≤ x13 then (if x13 < (x0.length : Int) then (if x13 < (x1.length : Int) then (if (rd x0 x13) = (rd x1 x13) then (slices_Equal_int_int.l0 k x0 x1 x12 (wrap64 (x13 + 1))) else (some false)) else (none)) else (none)) else (none)) else (some true)
def slices_Equal_int_int.f (k : Nat) (l0 : List Int) (l1 : List Int) : Option (Bool) := if (l0.length : Int) = (l1.length : Int) then (slices_Equal_int_int.l0 k l0 l1 (l0.length : Int) 0) else (some false)
theorem slices_Equal_int_int.mono_l : ∀ k, (∀ y0 y1 y2 y3, LeO (slices_Equal_int_int.l0 k y0 y1 y2 y3) (slices_Equal_int_int.l0 (k + 1) y0 y1 y2 y3))
  | 0 => fun _ _ _ _ r h => by simp [slices_Equal_int_int.l0] at h
  | k + 1 => by
    have ih0 := slices_Equal_int_int.mono_l k
    · intro y0 y1 y2 y3
      unfold slices_Equal_int_int.l0
      exact mB
theorem slices_Equal_int_int.mono : ∀ a0 a1 k, LeO (slices_Equal_int_int.f k a0 a1) (slices_Equal_int_int.f (k + 1) a0 a1) := by
  intro a0 a1 k
  have ih0 := slices_Equal_int_int.mono_l k
  unfold slices_Equal_int_int.f
  exact mB
set_option maxHeartbeats 8000000 in
set_option maxRecDepth 100000 in
theorem slices_Equal_int_int.calls (k : Nat) (A0 : Option Addr) (c0 : Nat) (l0 : List Int) (A1 : Option Addr) (c1 : Nat) (l1 : List Int) (r : Bool) (w : World) (hr0 : Kd.C (Kd.int .i64) w A0 l0.length l0) (hc0 : l0.length ≤ c0) (hr1 : Kd.C (Kd.int .i64) w A1 l1.length l1) (hc1 : l1.length ≤ c1) (h : slices_Equal_int_int.f k l0 l1 = some r) :
    Calls Tryz.prog 63 #[.slice A0 l0.length c0, .slice A1 l1.length c1] w fun e w' => e = .returned (.bool r) ∧ Drawn0 w w' := by
 have HR0 := Aside0.mk hr0
 have HC0 := Aside0.mk hc0
 clear hr0 hc0
 have HR1 := Aside0.mk hr1
 have HC1 := Aside0.mk hc1
 clear hr1 hc1
 have H := h
 clear h
 unfold slices_Equal_int_int.f at H
 by_cases c3 : (l0.length : Int) = (l1.length : Int)
 ·rw [if_pos c3] at H
  have c3b0 : ((l0.length : Int) == (l1.length : Int)) = true := beq_iff_eq.mpr c3
  have c3b1 : ((l0.length : Int) != (l1.length : Int)) = false := bne_eq_false_iff_eq.mpr c3
  have c3b2 : (l0.length == l1.length) = true := by first | simpa using c3 | (simp at c3 ⊢; omega)
  clear c3
  have H' := Aside0.mk H
  clear H
  go_enter Tryz.func63, Tryz.ntmps63
  go_wp2
  repeat (go_quiet (fail); try go_wp2)
  go_loopg [13] k (fun kq v13 w' => ∃ (x13_1 : Int), v13 = .int .i64 x13_1 ∧ Aside0 (slices_Equal_int_int.l0 kq l0 l1 (l0.length : Int) x13_1 = some r) ∧ Aside0 (kq ≤ k) ∧ Drawn0 w w')
  case atStart => exact ⟨(0), sD, H', ⟨Nat.le_refl _⟩, dD⟩
  case round =>
   clear H'
   try clear c1
   try clear p2
   try clear c3
   try clear c3b0
   try clear c3b1
   try clear c3b2
   obtain ⟨x13_1, rfl, HA, HK1, ⟨m1, rfl⟩⟩ := hrel
   cases gk with
   | zero => exact absurd HA.out (by simp [slices_Equal_int_int.l0])
   | succ k1 =>
    have H := HA.out
    clear HA
    simp only [slices_Equal_int_int.l0] at H
    rcases ifC H with ⟨c4b0, H⟩ | ⟨c4b0, H⟩
    ·obtain ⟨c5b0, H⟩ := ifD H
     obtain ⟨c6b0, c7b0, H⟩ := ifD2 H
     by_cases c8 : (rd l0 x13_1) = (rd l1 x13_1)
     ·rw [if_pos c8] at H
      have c8b0 : ((rd l0 x13_1) == (rd l1 x13_1)) = true := beq_iff_eq.mpr c8
      have c8b1 : ((rd l0 x13_1) != (rd l1 x13_1)) = false := bne_eq_false_iff_eq.mpr c8
      clear c8
      have H' := Aside0.mk H
      clear H
      obtain ⟨ad197, e197, hx197_0, p197, q197⟩ := rI HR0.out x13_1
      cases e197
      obtain ⟨ad198, e198, hx198_0, p198, q198⟩ := rI HR1.out x13_1
      cases e198
      go_wp2
      repeat (go_quiet (fail); try go_wp2)
      go_roundg k1
      case measure => have := HK1.out; omega
      case rel => exact ⟨(wrap64 (x13_1 + 1)), sD, H', ⟨by have := HK1.out; omega⟩, dD⟩
     ·rw [if_neg c8] at H
      have c8b0 : ((rd l0 x13_1) == (rd l1 x13_1)) = false := beq_eq_false_iff_ne.mpr c8
      have c8b1 : ((rd l0 x13_1) != (rd l1 x13_1)) = true := bne_iff_ne.mpr c8
      obtain rfl := Option.some.inj H
      obtain ⟨ad197, e197, hx197_0, p197, q197⟩ := rI HR0.out x13_1
      cases e197
      obtain ⟨ad198, e198, hx198_0, p198, q198⟩ := rI HR1.out x13_1
      cases e198
      go_wp2
      repeat (go_quiet (fail); try go_wp2)
      go_ret
      exact ⟨sD, dD⟩
    ·obtain rfl := Option.some.inj H
     go_wp2
     repeat (go_quiet (fail); try go_wp2)
     go_ret
     exact ⟨sD, dD⟩
 ·rw [if_neg c3] at H
  have c3b0 : ((l0.length : Int) == (l1.length : Int)) = false := beq_eq_false_iff_ne.mpr c3
  have c3b1 : ((l0.length : Int) != (l1.length : Int)) = true := bne_iff_ne.mpr c3
  have c3b2 : (l0.length == l1.length) = false := by first | simpa using c3 | (simp at c3 ⊢; omega)
  obtain rfl := Option.some.inj H
  go_enter Tryz.func63, Tryz.ntmps63
  go_wp2
  repeat (go_quiet (fail); try go_wp2)
  go_ret
  exact ⟨sD, dD⟩
def cmp_isNaN_int.f (a0 : Int) : Option (Bool) := some (a0 != a0)
set_option maxHeartbeats 8000000 in
set_option maxRecDepth 100000 in
theorem cmp_isNaN_int.calls (a0 : Int) (r : Bool) (w : World) (h : cmp_isNaN_int.f a0 = some r) :
    Calls Tryz.prog 103 #[.int .i64 a0] w fun e w' => e = .returned (.bool r) ∧ Drawn0 w w' := by
 have H := h
 clear h
 unfold cmp_isNaN_int.f at H
 obtain rfl := Option.some.inj H
 go_enter Tryz.func103, Tryz.ntmps103
 go_wp2
 go_ret
 exact ⟨sD, dD⟩
def cmp_Less_int.f (a0 : Int) (a1 : Int) : Option (Bool) := (cmp_isNaN_int.f a0).bind fun t199 => (if t199 = true then ((cmp_isNaN_int.f a1).bind fun t200 => (if t200 = true then (some (decide (a0 < a1))) else (some true))) else (some (decide (a0 < a1))))
set_option maxHeartbeats 8000000 in
set_option maxRecDepth 100000 in
theorem cmp_Less_int.calls (a0 : Int) (a1 : Int) (r : Bool) (w : World) (h : cmp_Less_int.f a0 a1 = some r) :
    Calls Tryz.prog 155 #[.int .i64 a0, .int .i64 a1] w fun e w' => e = .returned (.bool r) ∧ Drawn0 w w' := by
 have H := h
 clear h
 unfold cmp_Less_int.f at H
 obtain ⟨t199, A3, H⟩ := bdS H
 try dsimp only at H
 by_cases c4 : t199 = true
 ·subst c4
  rw [if_pos rfl] at H
  obtain ⟨t200, A5, H⟩ := bdS H
  try dsimp only at H
  by_cases c6 : t200 = true
  ·subst c6
   rw [if_pos rfl] at H
   obtain rfl := Option.some.inj H
   go_enter Tryz.func155, Tryz.ntmps155
   go_wp2_with (first | ((with_reducible refine gate_callee (f := 103) rfl ?_); refine goesL_ (some 6) rfl rfl Tryz.func103 (by kernel_rfl) rfl #[.int .i64 a0] rfl aE ?_; (with_reducible refine (cmp_isNaN_int.calls a0 true _ A3.out).mono ?_); rintro e w' ⟨rfl, ⟨nd, rfl⟩⟩; refine ⟨_, rfl, ?_⟩) | (go_at_call 103; (with_reducible refine (cmp_isNaN_int.calls a1 true _ A5.out).mono ?_); rintro e w' ⟨rfl, ⟨nd, rfl⟩⟩))
   go_ret
   exact ⟨sD, dD⟩
  ·replace c6 := Bool.eq_false_iff.mpr c6
   subst c6
   rw [if_neg (by decide)] at H
   obtain rfl := Option.some.inj H
   go_enter Tryz.func155, Tryz.ntmps155
   go_wp2_with (first | ((with_reducible refine gate_callee (f := 103) rfl ?_); refine goesL_ (some 6) rfl rfl Tryz.func103 (by kernel_rfl) rfl #[.int .i64 a0] rfl aE ?_; (with_reducible refine (cmp_isNaN_int.calls a0 true _ A3.out).mono ?_); rintro e w' ⟨rfl, ⟨nd, rfl⟩⟩; refine ⟨_, rfl, ?_⟩) | (go_at_call 103; (with_reducible refine (cmp_isNaN_int.calls a1 false _ A5.out).mono ?_); rintro e w' ⟨rfl, ⟨nd, rfl⟩⟩))
   go_ret
   exact ⟨sD, dD⟩
 ·replace c4 := Bool.eq_false_iff.mpr c4
  subst c4
  rw [if_neg (by decide)] at H
  obtain rfl := Option.some.inj H
  go_enter Tryz.func155, Tryz.ntmps155
  go_wp2_with (first | ((with_reducible refine gate_callee (f := 103) rfl ?_); refine goesL_ (some 6) rfl rfl Tryz.func103 (by kernel_rfl) rfl #[.int .i64 a0] rfl aE ?_; (with_reducible refine (cmp_isNaN_int.calls a0 false _ A3.out).mono ?_); rintro e w' ⟨rfl, ⟨nd, rfl⟩⟩; refine ⟨_, rfl, ?_⟩))
  go_ret
  exact ⟨sD, dD⟩
def bucket_Starts.l0 : Nat → List Int → Int → List Int → Int → Int → Option (List Int)
  | 0, _, _, _, _, _ => none
  | k + 1, x3, x4, x10, x11, x12 => if x12 < x11 then (if 0 ≤ x12 then (if x12 < (x10.length : Int) then (if x12 < (x3.length : Int) then (bucket_Starts.l0 k (x3.set (x12 : Int).toNat x4) (wrap64 (x4 + (rd x10 x12))) x10 x11 (wrap64 (x12 + 1))) else (none)) else (none)) else (none)) else (some x3)
def bucket_Starts.f (k : Nat) (l0 : List Int) : Option (List Int) := if 0 ≤ (l0.length : Int) then (if ((l0.length : Int) : Int).toNat ≤ 35184372088832 then (bucket_Starts.l0 k (List.replicate ((l0.length : Int) : Int).toNat 0) 0 l0 (l0.length : Int) 0) else (none)) else (none)
theorem bucket_Starts.mono_l : ∀ k, (∀ y0 y1 y2 y3 y4, LeO (bucket_Starts.l0 k y0 y1 y2 y3 y4) (bucket_Starts.l0 (k + 1) y0 y1 y2 y3 y4))
  | 0 => fun _ _ _ _ _ r h => by simp [bucket_Starts.l0] at h
  | k + 1 => by
    have ih0 := bucket_Starts.mono_l k
    · intro y0 y1 y2 y3 y4
      unfold bucket_Starts.l0
      exact mB
theorem bucket_Starts.mono : ∀ a0 k, LeO (bucket_Starts.f k a0) (bucket_Starts.f (k + 1) a0) := by
  intro a0 k
  have ih0 := bucket_Starts.mono_l k
  unfold bucket_Starts.f
  exact mB
set_option maxHeartbeats 8000000 in
set_option maxRecDepth 100000 in
theorem bucket_Starts.calls (k : Nat) (A0 : Option Addr) (c0 : Nat) (l0 : List Int) (r : List Int) (w : World) (hr0 : Kd.C (Kd.int .i64) w A0 l0.length l0) (hc0 : l0.length ≤ c0) (h : bucket_Starts.f k l0 = some r) :
    Calls Tryz.prog 93 #[.slice A0 l0.length c0] w fun e w' => ∃ v0_ : Value, e = .returned (v0_) ∧ Kd.R (Kd.int .i64) 3 w' w.heap.size (fun _ => True) v0_ r ∧ Below w.heap.size w w' := by
 have HR0 := Aside0.mk hr0
 have HC0 := Aside0.mk hc0
 clear hr0 hc0
 have HB := Aside0.mk (Below.refl w.heap.size w)
 have H := h
 clear h
 unfold bucket_Starts.f at H
 obtain ⟨c2b0, c2b1, H⟩ := ifE H
 obtain ⟨c3b0, c3b1, H⟩ := ifE H
 generalize hy201 : (List.replicate ((l0.length : Int) : Int).toNat 0 : List Int) = y201 at H
 try simp only [Option.bind_some] at H
 have Ny201 := Aside0.mk hy201.symm
 clear hy201
 have H' := Aside0.mk H
 clear H
 go_enter Tryz.func93, Tryz.ntmps93
 go_wp2_with (first | ((with_reducible refine gate_dst (N := 9) rfl ?_); refine Kd.R_make (Kd.int .i64) _ 3 rfl (N := 9) rfl 29 _ _ rfl (l0.length : Int) rfl rfl Tryz.underlying29 (.int .i64 0) 8 info3 rfl (by decide) (by omega) 0 (ok := fun _ => True) (okp := fun _ => True) rfl (fun _ hk => hk) trivial dT (Nat.le_trans (Nat.mul_le_mul_right _ (dT : (l0.length : Int).toNat ≤ 35184372088832)) (by omega)) (Below.refl _ _) (Nat.le_refl _) ?_; intro v202 w4 ho5 hb hg_ hnew_; clear hg_ hnew_; (first | rw [← Ny201.out] at ho5 | (simp only [Int.reduceToNat] at ho5; rw [← Ny201.out] at ho5)); have n0_ := Aside0.mk (Kd.R_lower ho5 (below_size uB)); have n1_ := Aside0.mk (below_step uB hb); clear HB; have HO203 := n0_; have HB := n1_; clear n0_ n1_; clear hb ho5))
 go_loopg [4, 12] k (fun kq v4 v12 w' => ∃ (x3_1 : List Int) (x4_1 : Int) (x12_1 : Int), v4 = .int .i64 x4_1 ∧ v12 = .int .i64 x12_1 ∧ Aside0 (bucket_Starts.l0 kq x3_1 x4_1 l0 (l0.length : Int) x12_1 = some r) ∧ Aside0 (kq ≤ k) ∧ Aside0 (Kd.R (Kd.int .i64) 3 w' w.heap.size (fun _ => True) v202 x3_1) ∧ Aside0 (Below w.heap.size w w'))
 case atStart => exact ⟨(y201), (0), (0), sD, sD, H', ⟨Nat.le_refl _⟩, ⟨uR HO203.out⟩, ⟨uB⟩⟩
 case round =>
  clear H'
  try clear c2
  try clear c2b0
  try clear c2b1
  try clear p2
  try clear c3
  try clear c3b0
  try clear c3b1
  obtain ⟨x3_1, x4_1, x12_1, rfl, rfl, HA, HK1, HO_3, HB⟩ := hrel
  cases gk with
  | zero => exact absurd HA.out (by simp [bucket_Starts.l0])
  | succ k1 =>
   have H := HA.out
   clear HA
   simp only [bucket_Starts.l0] at H
   rcases ifC H with ⟨c6b0, H⟩ | ⟨c6b0, H⟩
   ·obtain ⟨c7b0, H⟩ := ifD H
    obtain ⟨c8b0, c9b0, H⟩ := ifD2 H
    generalize hy205 : (x3_1.set (x12_1 : Int).toNat x4_1 : List Int) = y205 at H
    try simp only [Option.bind_some] at H
    have Ny205 := Aside0.mk hy205.symm
    clear hy205
    have H' := Aside0.mk H
    clear H
    obtain ⟨ad204, e204, hx204_0, p204, q204⟩ := rIO HB.out HR0.out x12_1
    cases e204
    have p10 : 0 ≤ (x12_1 : Int) := dT
    have q10 : (x12_1 : Int) < ((x3_1.length : Int) : Int) := dT
    obtain ⟨go10, co10, eo10, gb10, gl10, cl10, HG10⟩ := Kd.R_form HO_3.out (by omega)
    (first | cases eo10 | (injection eo10 with ea_ en_ ec_; (first | subst ea_ | (injection ea_ with ea_; subst ea_)); subst ec_; clear en_))
    have GB10 := Aside0.mk gb10
    have GG10 := Aside0.mk HG10
    clear gb10 gl10 HG10
    obtain ⟨hx10_0, hf10_0⟩ := Kd.R_celln 0 HO_3.out (x12_1 : Int) p10 q10
    replace p10 := eq_true p10
    replace q10 := eq_true q10
    have HP11 := Kd.R_putg HO_3.out (x12_1 : Int) x4_1
    go_wp2_with (first | ((with_reducible refine gate_store (t := 3) (p := 20) rfl ?_); refine store_event (t := 3) (p := 20) (v := ?vo_w12) (w1 := (wr.setCell ⟨go10, (x12_1 : Int).toNat, none⟩ (.int .i64 x4_1))) ?hg ?ho ?hn ?hr ?_; (case ho => rfl); (case hg => rfl); (case hn => rfl); (case hr => first | (go_simp; done) | (go_simp; rfl)); intro w12 hw; have hg : wr.grownBy w12 (some go10) := (by rw [hw]; exact HP11.2); have hp_ : Kd.R (Kd.int .i64) 3 w12 w.heap.size (fun _ => True) (.slice (some ⟨go10, 0, none⟩) x3_1.length co10) y205 := (by rw [hw, Ny205.out]; exact HP11.1); clear HP11; have n0_ := Aside0.mk (hp_); have n1_ := Aside0.mk ((by rw [hw]; exact below_set (HB.out) GB10.out : Below w.heap.size w w12)); clear HO_3; clear HB; have HO_3 := n0_; have HB := n1_; clear n0_ n1_; clear hg hw hp_))
    go_roundg k1
    case measure => have := HK1.out; omega
    case rel => exact ⟨(y205), (wrap64 (x4_1 + (rd l0 x12_1))), (wrap64 (x12_1 + 1)), sD, sD, H', ⟨by have := HK1.out; omega⟩, ⟨uR HO_3.out⟩, ⟨uB⟩⟩
   ·obtain rfl := Option.some.inj H
    go_wp2
    go_ret
    exact ⟨_, eR, uR HO_3.out, uB⟩
def induce_Sort.f (k : Nat) (l0 : List Int) (a1 : Int) (l2 : List Int) : Option (List Int × Bool) :=
  (bucket_Counts.f k l0 a1).bind fun co => (kinds_First.f k l0).bind fun fs => (slices_Equal_int_int.f k (Go.Proofs.YtbbpplnnegdenaaGreat.Srt.srt l2) fs).bind fun eq => (kinds_Small.f k l0).bind fun sm => (bucket_Starts.f k co.1).bind fun st =>
    if co.2 = true then (if eq = true then (if l2.length ≤ 1000000 then (if l0.length = 0 then some (([] : List Int), true) else (if l0.length ≤ 1000000 then (if st.length = co.1.length then (if 0 < co.1.length then (if co.1.length < 4611686018427387904 then (if sm.length < 4611686018427387904 then
      (Go.Proofs.YtbbpplnnegdenaaGreat.St.sortL l0 l2 co.1 sm st).bind fun r => some (r, true) else none) else none) else none) else none) else none)) else none) else none) else none
theorem induce_Sort.mono : ∀ a0 a1 a2 k, LeO (induce_Sort.f k a0 a1 a2) (induce_Sort.f (k + 1) a0 a1 a2) := by
  intro a0 a1 a2 k
  unfold induce_Sort.f
  refine LeO.bind (bucket_Counts.mono _ _ _) (fun co => ?_)
  refine LeO.bind (kinds_First.mono _ _) (fun fs => ?_)
  refine LeO.bind (slices_Equal_int_int.mono _ _ _) (fun eq => ?_)
  refine LeO.bind (kinds_Small.mono _ _) (fun sm => ?_)
  refine LeO.bind (bucket_Starts.mono _ _) (fun st => ?_)
  exact LeO.refl _
theorem induce_Sort.calls (k : Nat) (A0 : Option Addr) (c0 : Nat) (l0 : List Int) (a1 : Int) (A2 : Option Addr) (c2 : Nat) (l2 : List Int) (r1 : List Int) (r2 : Bool) (w : World) (hr0 : Kd.C (Kd.int .i64) w A0 l0.length l0) (hc0 : l0.length ≤ c0) (hr2 : Kd.C (Kd.int .i64) w A2 l2.length l2) (hc2 : l2.length ≤ c2) (h : induce_Sort.f k l0 a1 l2 = some (r1, r2)) :
    Calls Tryz.prog 105 #[.slice A0 l0.length c0, .int .i64 a1, .slice A2 l2.length c2] w fun e w' => ∃ v0_ : Value, e = .returned (.tuple #[v0_, .bool r2]) ∧ Kd.R (Kd.int .i64) 3 w' w.heap.size (fun _ => True) v0_ r1 ∧ Below w.heap.size w w' := by
 unfold induce_Sort.f at h
 cases h1 : bucket_Counts.f k l0 a1 with
 | none => rw [h1] at h; simp at h
 | some co =>
 obtain ⟨co, ok⟩ := co
 rw [h1, Option.bind_some] at h
 cases h2 : kinds_First.f k l0 with
 | none => rw [h2] at h; simp at h
 | some fs =>
 rw [h2, Option.bind_some] at h
 rw [Go.Proofs.YtbbpplnnegdenaaGreat.Srt.srt_eq] at h
 generalize hri : l2.mergeSort (fun x y => decide (x ≤ y)) = ri at h
 cases h3 : slices_Equal_int_int.f k ri fs with
 | none => rw [h3] at h; simp at h
 | some eq =>
 rw [h3, Option.bind_some] at h
 cases h4 : kinds_Small.f k l0 with
 | none => rw [h4] at h; simp at h
 | some sm =>
 rw [h4, Option.bind_some] at h
 cases h5 : bucket_Starts.f k (co, ok).1 with
 | none => rw [h5] at h; simp at h
 | some st =>
 rw [h5, Option.bind_some] at h
 dsimp only at h h5
 by_cases c1 : ok = true
 case neg => rw [if_neg c1] at h; exact absurd h (by simp)
 rw [if_pos c1] at h
 subst c1
 by_cases c2' : eq = true
 case neg => rw [if_neg c2'] at h; exact absurd h (by simp)
 rw [if_pos c2'] at h
 subst c2'
 by_cases c3 : l2.length ≤ 1000000
 case neg => rw [if_neg c3] at h; exact absurd h (by simp)
 rw [if_pos c3] at h
 have q1 := fun W hW => bucket_Counts.calls k A0 c0 l0 a1 co true W hW hc0 h1
 have q2 := fun W hW => kinds_First.calls k A0 c0 l0 fs W hW hc0 h2
 have q3 := fun W A B c d e1 e2 hA hB => slices_Equal_int_int.calls k A c ri B d fs true W hA e1 hB e2 h3
 by_cases c4 : l0.length = 0
 ·rw [if_pos c4] at h
  cases h
  exact (callsIn_wide (n := 6)).1 (Go.Proofs.YtbbpplnnegdenaaGreat.St.sort_empty 6 (by omega) hr0 hr2 c3 c4 hri q1 q2 q3)
 ·rw [if_neg c4] at h
  by_cases c5 : l0.length ≤ 1000000
  case neg => rw [if_neg c5] at h; exact absurd h (by simp)
  rw [if_pos c5] at h
  by_cases c6 : st.length = co.length
  case neg => rw [if_neg c6] at h; exact absurd h (by simp)
  rw [if_pos c6] at h
  by_cases c7 : 0 < co.length
  case neg => rw [if_neg c7] at h; exact absurd h (by simp)
  rw [if_pos c7] at h
  by_cases c8 : co.length < 4611686018427387904
  case neg => rw [if_neg c8] at h; exact absurd h (by simp)
  rw [if_pos c8] at h
  by_cases c9 : sm.length < 4611686018427387904
  case neg => rw [if_neg c9] at h; exact absurd h (by simp)
  rw [if_pos c9] at h
  cases h6 : Go.Proofs.YtbbpplnnegdenaaGreat.St.sortL l0 l2 co sm st with
  | none => rw [h6] at h; simp at h
  | some r =>
  rw [h6, Option.bind_some] at h
  cases h
  exact Go.Proofs.YtbbpplnnegdenaaGreat.St.sort_calls hr0 hr2 c3 (by omega) c5 c6 c7 c8 c9 h6 hri q1 q2 q3 (fun W hW => kinds_Small.calls k A0 c0 l0 sm W hW hc0 h4) (fun W A c e1 hA => bucket_Starts.calls k A c co st W hA e1 h5)
def sais_named.f (k : Nat) (l0 : List Int) (l1 : List Int) (l2 : List Int) : Option (List Int × Int) :=
  if l0.length ≤ 1000000 then (if l1.length ≤ 1000000 then (if l2.length ≤ 1000000 then
    (Go.Proofs.YtbbpplnnegdenaaGreat.Nm.nextL l0.length l1 l1.length 0 (List.replicate l0.length 0)).bind fun nx => (Go.Proofs.YtbbpplnnegdenaaGreat.Nm.namesL (slices_Equal_int_int.f k) l0 nx l2 l2.length 0 (List.replicate l0.length 0) 0 (-1)).bind fun x =>
      (Go.Proofs.YtbbpplnnegdenaaGreat.Nm.outL x.1 l1 l1.length 0 []).bind fun o => some (o, wrap64 (x.2 + 1)) else none) else none) else none
theorem sais_named.mono : ∀ a0 a1 a2 k, LeO (sais_named.f k a0 a1 a2) (sais_named.f (k + 1) a0 a1 a2) := by
  intro a0 a1 a2 k
  unfold sais_named.f
  refine LeO.ite (LeO.ite (LeO.ite ?_ (LeO.none _)) (LeO.none _)) (LeO.none _)
  refine LeO.bind (LeO.refl _) (fun nx => ?_)
  refine LeO.bind ?_ (fun x => LeO.refl _)
  have hd : ∀ last j, LeO (Go.Proofs.YtbbpplnnegdenaaGreat.Nm.differL (slices_Equal_int_int.f k) a0 nx last j) (Go.Proofs.YtbbpplnnegdenaaGreat.Nm.differL (slices_Equal_int_int.f (k + 1)) a0 nx last j) := by
    intro last j
    unfold Go.Proofs.YtbbpplnnegdenaaGreat.Nm.differL
    refine LeO.ite (LeO.ite (LeO.refl _) (LeO.ite (LeO.ite (LeO.refl _) ?_) (LeO.refl _))) (LeO.refl _)
    exact LeO.bind (LeO.refl _) (fun p => LeO.bind (LeO.refl _) (fun q => LeO.bind (slices_Equal_int_int.mono _ _ _) (fun b => LeO.refl _)))
  have hm : ∀ d i nm n last, LeO (Go.Proofs.YtbbpplnnegdenaaGreat.Nm.namesL (slices_Equal_int_int.f k) a0 nx a2 d i nm n last) (Go.Proofs.YtbbpplnnegdenaaGreat.Nm.namesL (slices_Equal_int_int.f (k + 1)) a0 nx a2 d i nm n last) := by
    intro d
    induction d with
    | zero => intro i nm n last; exact LeO.refl _
    | succ d ih =>
      intro i nm n last
      unfold Go.Proofs.YtbbpplnnegdenaaGreat.Nm.namesL
      refine LeO.ite (LeO.ite (ih _ _ _ _) ?_) (LeO.refl _)
      exact LeO.bind (hd _ _) (fun b => LeO.ite (ih _ _ _ _) (LeO.refl _))
  exact hm _ _ _ _ _
theorem sais_named.calls (k : Nat) (A0 : Option Addr) (c0 : Nat) (l0 : List Int) (A1 : Option Addr) (c1 : Nat) (l1 : List Int) (A2 : Option Addr) (c2 : Nat) (l2 : List Int) (r1 : List Int) (r2 : Int) (w : World) (hr0 : Kd.C (Kd.int .i64) w A0 l0.length l0) (hc0 : l0.length ≤ c0) (hr1 : Kd.C (Kd.int .i64) w A1 l1.length l1) (hc1 : l1.length ≤ c1) (hr2 : Kd.C (Kd.int .i64) w A2 l2.length l2) (hc2 : l2.length ≤ c2) (h : sais_named.f k l0 l1 l2 = some (r1, r2)) :
    Calls Tryz.prog 106 #[.slice A0 l0.length c0, .slice A1 l1.length c1, .slice A2 l2.length c2] w fun e w' => ∃ v0_ : Value, e = .returned (.tuple #[v0_, .int .i64 r2]) ∧ Kd.R (Kd.int .i64) 3 w' w.heap.size (fun _ => True) v0_ r1 ∧ Below w.heap.size w w' := by
 unfold sais_named.f at h
 by_cases c3 : l0.length ≤ 1000000
 case neg => rw [if_neg c3] at h; exact absurd h (by simp)
 rw [if_pos c3] at h
 by_cases c4 : l1.length ≤ 1000000
 case neg => rw [if_neg c4] at h; exact absurd h (by simp)
 rw [if_pos c4] at h
 by_cases c5 : l2.length ≤ 1000000
 case neg => rw [if_neg c5] at h; exact absurd h (by simp)
 rw [if_pos c5] at h
 cases h1 : Go.Proofs.YtbbpplnnegdenaaGreat.Nm.nextL l0.length l1 l1.length 0 (List.replicate l0.length 0) with
 | none => rw [h1] at h; simp at h
 | some nx =>
 rw [h1, Option.bind_some] at h
 cases h2 : Go.Proofs.YtbbpplnnegdenaaGreat.Nm.namesL (slices_Equal_int_int.f k) l0 nx l2 l2.length 0 (List.replicate l0.length 0) 0 (-1) with
 | none => rw [h2] at h; simp at h
 | some x =>
 obtain ⟨nm, n0⟩ := x
 rw [h2, Option.bind_some] at h
 cases h3 : Go.Proofs.YtbbpplnnegdenaaGreat.Nm.outL nm l1 l1.length 0 [] with
 | none => rw [h3] at h; simp at h
 | some o =>
 rw [h3, Option.bind_some] at h
 cases h
 exact Go.Proofs.YtbbpplnnegdenaaGreat.Nm.named_calls hr0 hc0 hr1 hr2 c3 c4 c5 (fun W A B c d p q b e1 e2 hA hB he => slices_Equal_int_int.calls k A c p B d q b W hA e1 hB e2 he) h1 h2 h3
end Go.Proofs.YtbbpplnnegdenaaGreat.PTopPipe
end
section
namespace Go.Proofs.YtbbpplnnegdenaaGreat.PTopPipe
open Go.RowKit Go.Proofs.YtbbpplnnegdenaaGreatW.PrintWords Go.Proofs.YtbbpplnnegdenaaGreatW.PrintLast Go.Proofs.YtbbpplnnegdenaaGreatW.PrintMore
attribute [local go_sem] max2_int min2_int max_two min_two max_three min_three max_four min_four
set_option linter.unusedVariables false
set_option linter.unusedSimpArgs false
mutual
def sais_sorted.l0 : Nat → List Int → Int → List Int → List Int → List Int → Int → Int → Option (List Int)
  | 0, _, _, _, _, _, _, _ => none
  | k + 1, x0, x1, x5, x10, x35, x36, x37 => if x37 < x36 then (if 0 ≤ x37 then (if x37 < (x35.length : Int) then (if 0 ≤ (rd x35 x37) then (if (rd x35 x37) < (x5.length : Int) then (if x10.length < 17592186044416 then (sais_sorted.l0 k x0 x1 x5 (x10 ++ [rd x5 (rd x35 x37)]) x35 x36 (wrap64 (x37 + 1))) else (none)) else (none)) else (none)) else (none)) else (none)) else ((induce_Sort.f k x0 x1 x10).bind fun bt248 => (some bt248.1))
def sais_sorted.f : Nat → List Int → Int → Option (List Int)
  | 0, _, _ => none
  | k + 1, l0, a1 => (kinds_First.f k l0).bind fun t229 => ((induce_Sort.f k l0 a1 t229).bind fun bt232 => (if (t229.length : Int) < 2 then (some bt232.1) else ((sais_named.f k l0 t229 bt232.1).bind fun bt236 => ((sais_sorted.f k bt236.1 bt236.2).bind fun t240 => (sais_sorted.l0 k l0 a1 t229 ([] : List Int) t240 (t240.length : Int) 0)))))
end
theorem sais_sorted.mono_l : ∀ k, (∀ y0 y1, LeO (sais_sorted.f k y0 y1) (sais_sorted.f (k + 1) y0 y1)) ∧ (∀ y0 y1 y2 y3 y4 y5 y6, LeO (sais_sorted.l0 k y0 y1 y2 y3 y4 y5 y6) (sais_sorted.l0 (k + 1) y0 y1 y2 y3 y4 y5 y6))
  | 0 => ⟨fun _ _ r h => by simp [sais_sorted.f] at h, fun _ _ _ _ _ _ _ r h => by simp [sais_sorted.l0] at h⟩
  | k + 1 => by
    obtain ⟨ih0, ih1⟩ := sais_sorted.mono_l k
    refine ⟨?_, ?_⟩
    · intro y0 y1
      unfold sais_sorted.f
      have m0 := @induce_Sort.mono
      have m1 := @kinds_First.mono
      have m2 := @sais_named.mono
      exact mB
    · intro y0 y1 y2 y3 y4 y5 y6
      unfold sais_sorted.l0
      have m0 := @induce_Sort.mono
      have m1 := @kinds_First.mono
      have m2 := @sais_named.mono
      exact mB
theorem sais_sorted.mono : ∀ a0 a1 k, LeO (sais_sorted.f k a0 a1) (sais_sorted.f (k + 1) a0 a1) := by
  intro a0 a1 k
  obtain ⟨ih0, ih1⟩ := sais_sorted.mono_l k
  exact ih0 a0 a1
set_option maxHeartbeats 8000000 in
set_option maxRecDepth 100000 in
theorem sais_sorted.calls (k : Nat) : ∀ (A0 : Option Addr) (c0 : Nat) (l0 : List Int) (a1 : Int) (r : List Int) (w : World) (hr0 : Kd.C (Kd.int .i64) w A0 l0.length l0) (hc0 : l0.length ≤ c0) (h : sais_sorted.f k l0 a1 = some r),
    Calls Tryz.prog 92 #[.slice A0 l0.length c0, .int .i64 a1] w fun e w' => ∃ v0_ : Value, e = .returned (v0_) ∧ Kd.R (Kd.int .i64) 3 w' w.heap.size (fun _ => True) v0_ r ∧ Below w.heap.size w w' := by
 induction k using Nat.strongRecOn with
 | _ k ih =>
 intro A0 c0 l0 a1 r w hr0 hc0 h
 cases k with
 | zero => exact absurd h (by simp [sais_sorted.f])
 | succ k =>
 simp only [sais_sorted.f] at h
 have HR0 := Aside0.mk hr0
 have HC0 := Aside0.mk hc0
 clear hr0 hc0
 have HB := Aside0.mk (Below.refl w.heap.size w)
 have H : ((kinds_First.f k l0).bind fun t229 => ((induce_Sort.f k l0 a1 t229).bind fun bt232 => (if (t229.length : Int) < 2 then (some bt232.1) else ((sais_named.f k l0 t229 bt232.1).bind fun bt236 => ((sais_sorted.f k bt236.1 bt236.2).bind fun t240 => (sais_sorted.l0 k l0 a1 t229 ([] : List Int) t240 (t240.length : Int) 0)))))) = some r := h
 clear h
 obtain ⟨t229, A3, H⟩ := bdS H
 try dsimp only at H
 obtain ⟨⟨t232, t233⟩, A4, H⟩ := bdS H
 try dsimp only at H
 by_cases c5 : (t229.length : Int) < 2
 ·rw [if_pos c5] at H
  have c5b0 : decide ((t229.length : Int) < 2) = true := decide_eq_true c5
  have c5b1 : decide (t229.length < 2) = true := decide_eq_true (by omega)
  clear c5
  obtain rfl := Option.some.inj H
  go_enter Tryz.func92, Tryz.ntmps92
  go_wp2_with (first | ((with_reducible refine gate_callee (f := 104) rfl ?_); refine goesL_ (some 14) rfl rfl Tryz.func104 (by kernel_rfl) rfl #[.slice A0 l0.length c0] rfl aE ?_; (with_reducible refine (kinds_First.calls k _ _ l0 t229 _ ?side1 ?side2 A3.out).mono ?_); (case side1 => exact uC HR0.out); (case side2 => exact HC0.out); rintro e w6 ⟨v230, rfl, ho0, hb⟩; refine ⟨_, rfl, ?_⟩; have n0_ := Aside0.mk (Kd.R_lower ho0 (below_size uB)); have n1_ := Aside0.mk (below_step uB hb); clear HB; have HO231 := n0_; have HB := n1_; clear n0_ n1_; (try clear hb); (try clear hb2); (try clear hk); (try clear hi); (try clear ho0); obtain ⟨Ao7, co7, eo7⟩ := Kd.R_slice HO231.out; subst eo7) | ((with_reducible refine gate_callee (f := 105) rfl ?_); refine goesL_ (some 19) rfl rfl Tryz.func105 (by kernel_rfl) rfl #[.slice A0 l0.length c0, .int .i64 a1, .slice Ao7 t229.length co7] rfl aE ?_; (with_reducible refine (induce_Sort.calls k _ _ l0 a1 _ _ t229 t232 t233 _ ?side1 ?side2 ?side3 ?side4 A4.out).mono ?_); (case side1 => exact uC (Kd.C_below HR0.out HB.out)); (case side2 => exact HC0.out); (case side3 => exact uC (Kd.R_reads' HO231.out).2.2); (case side4 => exact (Kd.R_reads' HO231.out).2.1); rintro e w8 ⟨v234, rfl, ho0, hb⟩; refine ⟨_, rfl, ?_⟩; have n0_ := Aside0.mk (Kd.R_elder' (uR HO231.out) (Kd.R_base ho0) hb); have n1_ := Aside0.mk (Kd.R_lower (Kd.R_new' ho0 (Kd.R_lt (uR HO231.out))) (below_size uB)); have n2_ := Aside0.mk (below_step uB hb); clear HO231; clear HB; have HO231 := n0_; have HO235 := n1_; have HB := n2_; clear n0_ n1_ n2_; (try clear hb); (try clear hb2); (try clear hk); (try clear hi); (try clear ho0)))
  go_ret
  exact ⟨_, eR, by (with_reducible repeat (first | apply Kd.R_alloc | apply Kd.R_drewN | apply Kd.R_drew)); exact Kd.R_mono HO235.out (fun _ hk => trivial), uB⟩
 ·rw [if_neg c5] at H
  have c5b0 : decide ((t229.length : Int) < 2) = false := decide_eq_false c5
  have c5b1 : decide (t229.length < 2) = false := decide_eq_false (by omega)
  clear c5
  obtain ⟨⟨t236, t237⟩, A9, H⟩ := bdS H
  try dsimp only at H
  obtain ⟨t240, A10, H⟩ := bdS H
  try dsimp only at H
  have H' := Aside0.mk H
  clear H
  go_enter Tryz.func92, Tryz.ntmps92
  go_wp2_with (first | ((with_reducible refine gate_callee (f := 104) rfl ?_); refine goesL_ (some 14) rfl rfl Tryz.func104 (by kernel_rfl) rfl #[.slice A0 l0.length c0] rfl aE ?_; (with_reducible refine (kinds_First.calls k _ _ l0 t229 _ ?side1 ?side2 A3.out).mono ?_); (case side1 => exact uC HR0.out); (case side2 => exact HC0.out); rintro e w11 ⟨v230, rfl, ho0, hb⟩; refine ⟨_, rfl, ?_⟩; have n0_ := Aside0.mk (Kd.R_lower ho0 (below_size uB)); have n1_ := Aside0.mk (below_step uB hb); clear HB; have HO231 := n0_; have HB := n1_; clear n0_ n1_; (try clear hb); (try clear hb2); (try clear hk); (try clear hi); (try clear ho0); obtain ⟨Ao12, co12, eo12⟩ := Kd.R_slice HO231.out; subst eo12) | ((with_reducible refine gate_callee (f := 105) rfl ?_); refine goesL_ (some 19) rfl rfl Tryz.func105 (by kernel_rfl) rfl #[.slice A0 l0.length c0, .int .i64 a1, .slice Ao12 t229.length co12] rfl aE ?_; (with_reducible refine (induce_Sort.calls k _ _ l0 a1 _ _ t229 t232 t233 _ ?side1 ?side2 ?side3 ?side4 A4.out).mono ?_); (case side1 => exact uC (Kd.C_below HR0.out HB.out)); (case side2 => exact HC0.out); (case side3 => exact uC (Kd.R_reads' HO231.out).2.2); (case side4 => exact (Kd.R_reads' HO231.out).2.1); rintro e w13 ⟨v234, rfl, ho0, hb⟩; refine ⟨_, rfl, ?_⟩; have n0_ := Aside0.mk (Kd.R_elder' (uR HO231.out) (Kd.R_base ho0) hb); have n1_ := Aside0.mk (Kd.R_lower (Kd.R_new' ho0 (Kd.R_lt (uR HO231.out))) (below_size uB)); have n2_ := Aside0.mk (below_step uB hb); clear HO231; clear HB; have HO231 := n0_; have HO235 := n1_; have HB := n2_; clear n0_ n1_ n2_; (try clear hb); (try clear hb2); (try clear hk); (try clear hi); (try clear ho0); obtain ⟨Ao14, co14, eo14⟩ := Kd.R_slice HO235.out; subst eo14) | ((with_reducible refine gate_callee (f := 106) rfl ?_); refine goesL_ (some 30) rfl rfl Tryz.func106 (by kernel_rfl) rfl #[.slice A0 l0.length c0, .slice Ao12 t229.length co12, .slice Ao14 t232.length co14] rfl aE ?_; (with_reducible refine (sais_named.calls k _ _ l0 _ _ t229 _ _ t232 t236 t237 _ ?side1 ?side2 ?side3 ?side4 ?side5 ?side6 A9.out).mono ?_); (case side1 => exact uC (Kd.C_below HR0.out HB.out)); (case side2 => exact HC0.out); (case side3 => exact uC (Kd.R_reads' HO231.out).2.2); (case side4 => exact (Kd.R_reads' HO231.out).2.1); (case side5 => exact uC (Kd.R_reads' HO235.out).2.2); (case side6 => exact (Kd.R_reads' HO235.out).2.1); rintro e w15 ⟨v238, rfl, ho0, hb⟩; refine ⟨_, rfl, ?_⟩; have n0_ := Aside0.mk (Kd.R_elder' (uR HO231.out) (Kd.R_base ho0) hb); have n1_ := Aside0.mk (Kd.R_elder' (uR HO235.out) (Kd.R_base ho0) hb); have n2_ := Aside0.mk (Kd.R_lower (Kd.R_new' (Kd.R_new' ho0 (Kd.R_lt (uR HO231.out))) (Kd.R_lt (uR HO235.out))) (below_size uB)); have n3_ := Aside0.mk (below_step uB hb); clear HO231; clear HO235; clear HB; have HO231 := n0_; have HO235 := n1_; have HO239 := n2_; have HB := n3_; clear n0_ n1_ n2_ n3_; (try clear hb); (try clear hb2); (try clear hk); (try clear hi); (try clear ho0); obtain ⟨Ao16, co16, eo16⟩ := Kd.R_slice HO239.out; subst eo16) | ((with_reducible refine gate_callee (f := 92) rfl ?_); refine goesL_ (some 35) rfl rfl Tryz.func92 (by kernel_rfl) rfl #[.slice Ao16 t236.length co16, .int .i64 t237] rfl aE ?_; (with_reducible refine (ih k (by omega) _ _ t236 t237 t240 _ ?side1 ?side2 A10.out).mono ?_); (case side1 => exact uC (Kd.R_reads' HO239.out).2.2); (case side2 => exact (Kd.R_reads' HO239.out).2.1); rintro e w17 ⟨v241, rfl, ho0, hb⟩; refine ⟨_, rfl, ?_⟩; have n0_ := Aside0.mk (Kd.R_elder' (uR HO231.out) (Kd.R_base ho0) hb); have n1_ := Aside0.mk (Kd.R_elder' (uR HO235.out) (Kd.R_base ho0) hb); have n2_ := Aside0.mk (Kd.R_elder' (uR HO239.out) (Kd.R_base ho0) hb); have n3_ := Aside0.mk (Kd.R_lower (Kd.R_new' (Kd.R_new' (Kd.R_new' ho0 (Kd.R_lt (uR HO231.out))) (Kd.R_lt (uR HO235.out))) (Kd.R_lt (uR HO239.out))) (below_size uB)); have n4_ := Aside0.mk (below_step uB hb); clear HO231; clear HO235; clear HO239; clear HB; have HO231 := n0_; have HO235 := n1_; have HO239 := n2_; have HO242 := n3_; have HB := n4_; clear n0_ n1_ n2_ n3_ n4_; (try clear hb); (try clear hb2); (try clear hk); (try clear hi); (try clear ho0); obtain ⟨Ao18, co18, eo18⟩ := Kd.R_slice HO242.out; subst eo18))
  go_loopg [10, 37] k (fun kq v10 v37 w' => ∃ (x10_1 : List Int) (x37_1 : Int), v37 = .int .i64 x37_1 ∧ Aside0 (sais_sorted.l0 kq l0 a1 t229 x10_1 t240 (t240.length : Int) x37_1 = some r) ∧ Aside0 (kq ≤ k) ∧ Aside0 (Kd.R (Kd.int .i64) 3 w' w.heap.size (fun k_ => some k_ ≠ (v10 : Value).ownBlock ∧ some k_ ≠ ((.slice Ao18 t240.length co18) : Value).ownBlock) (.slice Ao12 t229.length co12) t229) ∧ Aside0 (Kd.R (Kd.int .i64) 3 w' w.heap.size (fun k_ => some k_ ≠ ((.slice Ao12 t229.length co12) : Value).ownBlock ∧ some k_ ≠ ((.slice Ao18 t240.length co18) : Value).ownBlock) v10 x10_1) ∧ Aside0 (Kd.R (Kd.int .i64) 3 w' w.heap.size (fun k_ => some k_ ≠ ((.slice Ao12 t229.length co12) : Value).ownBlock ∧ some k_ ≠ (v10 : Value).ownBlock) (.slice Ao18 t240.length co18) t240) ∧ Aside0 (Below w.heap.size w w'))
  case atStart => exact ⟨(([] : List Int)), (0), sD, H', ⟨Nat.le_refl _⟩, ⟨by (with_reducible repeat (first | apply Kd.R_alloc | apply Kd.R_drewN | apply Kd.R_drew)); exact Kd.R_mono HO231.out (fun _ hk => ⟨(by simp [Value.ownBlock]), hk.2⟩)⟩, ⟨nL⟩, ⟨by (with_reducible repeat (first | apply Kd.R_alloc | apply Kd.R_drewN | apply Kd.R_drew)); exact Kd.R_mono HO242.out (fun _ hk => ⟨hk.1.1.2, (by simp [Value.ownBlock])⟩)⟩, ⟨uB⟩⟩
  case round =>
   clear H'
   try clear c1
   try clear p2
   try clear c5
   try clear c5b0
   try clear c5b1
   try clear c9
   try clear c10
   obtain ⟨x10_1, x37_1, rfl, HA, HK1, HO_5, HO_10, HO_35, HB⟩ := hrel
   cases gk with
   | zero => exact absurd HA.out (by simp [sais_sorted.l0])
   | succ k1 =>
    have H := HA.out
    clear HA
    simp only [sais_sorted.l0] at H
    rcases ifC H with ⟨c19b0, H⟩ | ⟨c19b0, H⟩
    ·obtain ⟨c20b0, c21b0, H⟩ := ifD2 H
     obtain ⟨c22b0, c23b0, H⟩ := ifD2 H
     obtain ⟨c24, H⟩ := ifP H
     have LMc24 := Aside0.mk c24
     clear c24
     generalize hy245 : (x10_1 ++ [rd t229 (rd t240 x37_1)] : List Int) = y245 at H
     try simp only [Option.bind_some] at H
     have Ny245 := Aside0.mk hy245.symm
     clear hy245
     have H' := Aside0.mk H
     clear H
     obtain ⟨ad243, e243, hx243_0, p243, q243⟩ := rI (Kd.R_reads' HO_35.out).2.2 x37_1
     cases e243
     obtain ⟨ad244, e244, hx244_0, p244, q244⟩ := rI (Kd.R_reads' HO_5.out).2.2 (rd t240 x37_1)
     cases e244
     go_wp2_with (first | ((with_reducible refine gate_builtin (b := .append) (xs := #[.tmp 41, .tmp 46]) rfl ?_); at_builtin; refine Kd.R_append (Kd.int .i64) (w0 := w) w.heap.size rfl (.tmp 41) (.tmp 46) 29 3 (.int .i64 0) 8 rfl Tryz.underlying29 info3 rfl (by decide) (by omega) u10 x10_1 (rd t229 (rd t240 x37_1)) [.int .i64 (rd t229 (rd t240 x37_1))] (fun k_ => some k_ ≠ (.slice (some ad244) t229.length co12 : Value).ownBlock ∧ some k_ ≠ (.slice (some ad243) t240.length co18 : Value).ownBlock) (fun _ => False) rfl rfl ?aP (fun _ hk => hk.elim) ?aF ?aO ?aB ?aS ?aL ?_; (case aP => exact rfl); (case aB => exact uB); (case aF => exact (fun k_ hk => ⟨Kd.fresh' (Kd.R_lt (uR HO_5.out)) k_ hk, Kd.fresh' (Kd.R_lt (uR HO_35.out)) k_ hk⟩)); (case aO => exact (uR HO_10.out)); (case aS => exact (below_size uB)); (case aL => have := LMc24.out; omega); intro v246 w25 ho hb hg hat; rw [← Ny245.out] at ho; have n0_ := Aside0.mk (Kd.R_after (ok := (fun k_ => some k_ ≠ (.slice (some ad243) t240.length co18 : Value).ownBlock)) (by (with_reducible repeat (first | apply Kd.R_alloc | apply Kd.R_drewN | apply Kd.R_drew)); exact Kd.R_mono HO_5.out (fun _ hk => ⟨hk.2, hk.1⟩)) hg hat); have n1_ := Aside0.mk (Kd.R_after (ok := (fun k_ => some k_ ≠ (.slice (some ad244) t229.length co12 : Value).ownBlock)) (uR HO_35.out) hg hat); have n2_ := Aside0.mk (hb); have n3_ := Aside0.mk (ho); clear HO_5; clear HO_35; clear HB; clear HO_10; have HO_5 := n0_; have HO_35 := n1_; have HB := n2_; have HO247 := n3_; clear n0_ n1_ n2_ n3_; clear ho hb hg hat))
     go_roundg k1
     case measure => have := HK1.out; omega
     case rel => exact ⟨(y245), (wrap64 (x37_1 + 1)), sD, H', ⟨by have := HK1.out; omega⟩, ⟨by (with_reducible repeat (first | apply Kd.R_alloc | apply Kd.R_drewN | apply Kd.R_drew)); exact Kd.R_mono HO_5.out (fun _ hk => ⟨hk.2, hk.1⟩)⟩, ⟨uR HO247.out⟩, ⟨uR HO_35.out⟩, ⟨uB⟩⟩
    ·obtain ⟨⟨t248, t249⟩, A26, H⟩ := bdS H
     try dsimp only at H
     obtain rfl := Option.some.inj H
     obtain ⟨Ao27, co27, eo27⟩ := Kd.R_slice HO_10.out
     subst eo27
     go_wp2_with (first | ((with_reducible refine gate_callee (f := 105) rfl ?_); refine goesL_ (some 53) rfl rfl Tryz.func105 (by kernel_rfl) rfl #[.slice A0 l0.length c0, .int .i64 a1, .slice Ao27 x10_1.length co27] rfl aE ?_; (with_reducible refine (induce_Sort.calls k1 _ _ l0 a1 _ _ x10_1 t248 t249 _ ?side1 ?side2 ?side3 ?side4 A26.out).mono ?_); (case side1 => exact uC (Kd.C_below HR0.out HB.out)); (case side2 => exact HC0.out); (case side3 => exact uC (Kd.R_reads' HO_10.out).2.2); (case side4 => exact (Kd.R_reads' HO_10.out).2.1); rintro e w28 ⟨v250, rfl, ho0, hb⟩; refine ⟨_, rfl, ?_⟩; have n0_ := Aside0.mk (Kd.R_elder' (uR HO_5.out) (Kd.R_base ho0) hb); have n1_ := Aside0.mk (Kd.R_elder' (uR HO_10.out) (Kd.R_base ho0) hb); have n2_ := Aside0.mk (Kd.R_elder' (uR HO_35.out) (Kd.R_base ho0) hb); have n3_ := Aside0.mk (Kd.R_lower (Kd.R_new' (Kd.R_new' (Kd.R_new' ho0 (Kd.R_lt (uR HO_5.out))) (Kd.R_lt (uR HO_10.out))) (Kd.R_lt (uR HO_35.out))) (below_size uB)); have n4_ := Aside0.mk (below_step uB hb); clear HO_5; clear HO_10; clear HO_35; clear HB; have HO_5 := n0_; have HO_10 := n1_; have HO_35 := n2_; have HO251 := n3_; have HB := n4_; clear n0_ n1_ n2_ n3_ n4_; (try clear hb); (try clear hb2); (try clear hk); (try clear hi); (try clear ho0)))
     go_ret
     exact ⟨_, eR, by (with_reducible repeat (first | apply Kd.R_alloc | apply Kd.R_drewN | apply Kd.R_drew)); exact Kd.R_mono HO251.out (fun _ hk => trivial), uB⟩
def sais_Ints.f (k : Nat) (l0 : List Int) (a1 : Int) : Option (List Int × Int) := if (l0.length : Int) > 100000 then (some (([] : List Int), 2)) else ((bucket_Counts.f k l0 a1).bind fun bt252 => (if bt252.2 = true then ((sais_sorted.f k l0 a1).bind fun t256 => (some (t256, 0))) else (some (([] : List Int), 1))))
theorem sais_Ints.mono : ∀ a0 a1 k, LeO (sais_Ints.f k a0 a1) (sais_Ints.f (k + 1) a0 a1) := by
  intro a0 a1 k
  unfold sais_Ints.f
  have m0 := @bucket_Counts.mono
  have m1 := @sais_sorted.mono
  exact mB
set_option maxHeartbeats 8000000 in
set_option maxRecDepth 100000 in
theorem sais_Ints.calls (k : Nat) (A0 : Option Addr) (c0 : Nat) (l0 : List Int) (a1 : Int) (r1 : List Int) (r2 : Int) (w : World) (hr0 : Kd.C (Kd.int .i64) w A0 l0.length l0) (hc0 : l0.length ≤ c0) (h : sais_Ints.f k l0 a1 = some (r1, r2)) :
    Calls Tryz.prog 69 #[.slice A0 l0.length c0, .int .i64 a1] w fun e w' => ∃ v0_ : Value, e = .returned (.tuple #[v0_, .int .i64 r2]) ∧ Kd.R (Kd.int .i64) 3 w' w.heap.size (fun _ => True) v0_ r1 ∧ Below w.heap.size w w' := by
 have HR0 := Aside0.mk hr0
 have HC0 := Aside0.mk hc0
 clear hr0 hc0
 have HB := Aside0.mk (Below.refl w.heap.size w)
 have H := h
 clear h
 unfold sais_Ints.f at H
 by_cases c3 : (l0.length : Int) > 100000
 ·rw [if_pos c3] at H
  have c3b0 : decide (100000 < (l0.length : Int)) = true := decide_eq_true c3
  have c3b1 : decide (100000 < l0.length) = true := decide_eq_true (by omega)
  clear c3
  simp only [Option.some.injEq, Prod.mk.injEq] at H
  obtain ⟨rfl, rfl⟩ := H
  go_enter Tryz.func69, Tryz.ntmps69
  go_wp2
  go_ret2
  exact ⟨_, eR, nL, uB⟩
 ·rw [if_neg c3] at H
  have c3b0 : decide (100000 < (l0.length : Int)) = false := decide_eq_false c3
  have c3b1 : decide (100000 < l0.length) = false := decide_eq_false (by omega)
  clear c3
  obtain ⟨⟨t252, t253⟩, A4, H⟩ := bdS H
  try dsimp only at H
  by_cases c5 : t253 = true
  ·subst c5
   rw [if_pos rfl] at H
   obtain ⟨t256, A6, H⟩ := bdS H
   try dsimp only at H
   simp only [Option.some.injEq, Prod.mk.injEq] at H
   obtain ⟨rfl, rfl⟩ := H
   go_enter Tryz.func69, Tryz.ntmps69
   go_wp2_with (first | ((with_reducible refine gate_callee (f := 91) rfl ?_); refine goesL_ (some 14) rfl rfl Tryz.func91 (by kernel_rfl) rfl #[.slice A0 l0.length c0, .int .i64 a1] rfl aE ?_; (with_reducible refine (bucket_Counts.calls k _ _ l0 a1 t252 true _ ?side1 ?side2 A4.out).mono ?_); (case side1 => exact uC HR0.out); (case side2 => exact HC0.out); rintro e w7 ⟨v254, rfl, ho0, hb⟩; refine ⟨_, rfl, ?_⟩; have n0_ := Aside0.mk (Kd.R_lower ho0 (below_size uB)); have n1_ := Aside0.mk (below_step uB hb); clear HB; have HO255 := n0_; have HB := n1_; clear n0_ n1_; (try clear hb); (try clear hb2); (try clear hk); (try clear hi); (try clear ho0)) | ((with_reducible refine gate_callee (f := 92) rfl ?_); refine goesL_ (some 21) rfl rfl Tryz.func92 (by kernel_rfl) rfl #[.slice A0 l0.length c0, .int .i64 a1] rfl aE ?_; (with_reducible refine (sais_sorted.calls k _ _ l0 a1 t256 _ ?side1 ?side2 A6.out).mono ?_); (case side1 => exact uC (Kd.C_below HR0.out HB.out)); (case side2 => exact HC0.out); rintro e w8 ⟨v257, rfl, ho0, hb⟩; refine ⟨_, rfl, ?_⟩; have n0_ := Aside0.mk (Kd.R_elder' (uR HO255.out) (Kd.R_base ho0) hb); have n1_ := Aside0.mk (Kd.R_lower (Kd.R_new' ho0 (Kd.R_lt (uR HO255.out))) (below_size uB)); have n2_ := Aside0.mk (below_step uB hb); clear HO255; clear HB; have HO255 := n0_; have HO258 := n1_; have HB := n2_; clear n0_ n1_ n2_; (try clear hb); (try clear hb2); (try clear hk); (try clear hi); (try clear ho0)))
   go_ret2
   exact ⟨_, eR, by (with_reducible repeat (first | apply Kd.R_alloc | apply Kd.R_drewN | apply Kd.R_drew)); exact Kd.R_mono HO258.out (fun _ hk => trivial), uB⟩
  ·replace c5 := Bool.eq_false_iff.mpr c5
   subst c5
   rw [if_neg (by decide)] at H
   simp only [Option.some.injEq, Prod.mk.injEq] at H
   obtain ⟨rfl, rfl⟩ := H
   go_enter Tryz.func69, Tryz.ntmps69
   go_wp2_with (first | ((with_reducible refine gate_callee (f := 91) rfl ?_); refine goesL_ (some 14) rfl rfl Tryz.func91 (by kernel_rfl) rfl #[.slice A0 l0.length c0, .int .i64 a1] rfl aE ?_; (with_reducible refine (bucket_Counts.calls k _ _ l0 a1 t252 false _ ?side1 ?side2 A4.out).mono ?_); (case side1 => exact uC HR0.out); (case side2 => exact HC0.out); rintro e w9 ⟨v254, rfl, ho0, hb⟩; refine ⟨_, rfl, ?_⟩; have n0_ := Aside0.mk (Kd.R_lower ho0 (below_size uB)); have n1_ := Aside0.mk (below_step uB hb); clear HB; have HO255 := n0_; have HB := n1_; clear n0_ n1_; (try clear hb); (try clear hb2); (try clear hk); (try clear hi); (try clear ho0)))
   go_ret2
   exact ⟨_, eR, nL, uB⟩
def sais_Bytes.l0 : Nat → List Int → List Int → Int → Int → Option (List Int × Int)
  | 0, _, _, _, _ => none
  | k + 1, x4, x10, x11, x12 => if x12 < x11 then (if 0 ≤ x12 then (if x12 < (x10.length : Int) then (if x4.length < 17592186044416 then (sais_Bytes.l0 k (x4 ++ [wrap64 (rd x10 x12)]) x10 x11 (wrap64 (x12 + 1))) else (none)) else (none)) else (none)) else ((sais_Ints.f k x4 256).bind fun bt263 => (some (bt263.1, bt263.2)))
def sais_Bytes.f (k : Nat) (l0 : List Int) : Option (List Int × Int) := if (l0.length : Int) ≤ 100000 then (sais_Bytes.l0 k ([] : List Int) l0 (l0.length : Int) 0) else (some (([] : List Int), 2))
theorem sais_Bytes.mono_l : ∀ k, (∀ y0 y1 y2 y3, LeO (sais_Bytes.l0 k y0 y1 y2 y3) (sais_Bytes.l0 (k + 1) y0 y1 y2 y3))
  | 0 => fun _ _ _ _ r h => by simp [sais_Bytes.l0] at h
  | k + 1 => by
    have ih0 := sais_Bytes.mono_l k
    · intro y0 y1 y2 y3
      unfold sais_Bytes.l0
      have m0 := @sais_Ints.mono
      exact mB
theorem sais_Bytes.mono : ∀ a0 k, LeO (sais_Bytes.f k a0) (sais_Bytes.f (k + 1) a0) := by
  intro a0 k
  have ih0 := sais_Bytes.mono_l k
  unfold sais_Bytes.f
  have m0 := @sais_Ints.mono
  exact mB
set_option maxHeartbeats 8000000 in
set_option maxRecDepth 100000 in
theorem sais_Bytes.calls (k : Nat) (A0 : Option Addr) (c0 : Nat) (l0 : List Int) (r1 : List Int) (r2 : Int) (w : World) (hr0 : Kd.C (Kd.int .u8) w A0 l0.length l0) (hc0 : l0.length ≤ c0) (h : sais_Bytes.f k l0 = some (r1, r2)) :
    Calls Tryz.prog 38 #[.slice A0 l0.length c0] w fun e w' => ∃ v0_ : Value, e = .returned (.tuple #[v0_, .int .i64 r2]) ∧ Kd.R (Kd.int .i64) 3 w' w.heap.size (fun _ => True) v0_ r1 ∧ Below w.heap.size w w' := by
 have HR0 := Aside0.mk hr0
 have HC0 := Aside0.mk hc0
 clear hr0 hc0
 have HB := Aside0.mk (Below.refl w.heap.size w)
 have H := h
 clear h
 unfold sais_Bytes.f at H
 by_cases c2 : (l0.length : Int) ≤ 100000
 ·rw [if_pos c2] at H
  have c2b0 : decide ((l0.length : Int) ≤ 100000) = true := decide_eq_true c2
  have c2b1 : decide (l0.length ≤ 100000) = true := decide_eq_true (by omega)
  clear c2
  have H' := Aside0.mk H
  clear H
  go_enter Tryz.func38, Tryz.ntmps38
  go_wp2
  go_loopg [4, 12] k (fun kq v4 v12 w' => ∃ (x4_1 : List Int) (x12_1 : Int), v12 = .int .i64 x12_1 ∧ Aside0 (sais_Bytes.l0 kq x4_1 l0 (l0.length : Int) x12_1 = some (r1, r2)) ∧ Aside0 (kq ≤ k) ∧ Aside0 (Kd.R (Kd.int .i64) 3 w' w.heap.size (fun _ => True) v4 x4_1) ∧ Aside0 (Below w.heap.size w w'))
  case atStart => exact ⟨(([] : List Int)), (0), sD, H', ⟨Nat.le_refl _⟩, ⟨nL⟩, ⟨uB⟩⟩
  case round =>
   clear H'
   try clear c2
   try clear c2b0
   try clear c2b1
   try clear p2
   obtain ⟨x4_1, x12_1, rfl, HA, HK1, HO_4, HB⟩ := hrel
   cases gk with
   | zero => exact absurd HA.out (by simp [sais_Bytes.l0])
   | succ k1 =>
    have H := HA.out
    clear HA
    simp only [sais_Bytes.l0] at H
    rcases ifC H with ⟨c3b0, H⟩ | ⟨c3b0, H⟩
    ·obtain ⟨c4b0, c5b0, H⟩ := ifD2 H
     obtain ⟨c6, H⟩ := ifP H
     have LMc6 := Aside0.mk c6
     clear c6
     generalize hy260 : (x4_1 ++ [wrap64 (rd l0 x12_1)] : List Int) = y260 at H
     try simp only [Option.bind_some] at H
     have Ny260 := Aside0.mk hy260.symm
     clear hy260
     have H' := Aside0.mk H
     clear H
     obtain ⟨ad259, e259, hx259_0, p259, q259⟩ := rIO HB.out HR0.out x12_1
     cases e259
     go_wp2_with (first | ((with_reducible refine gate_builtin (b := .append) (xs := #[.tmp 16, .tmp 19]) rfl ?_); at_builtin; refine Kd.R_append (Kd.int .i64) (w0 := w) w.heap.size rfl (.tmp 16) (.tmp 19) 29 3 (.int .i64 0) 8 rfl Tryz.underlying29 info3 rfl (by decide) (by omega) u4 x4_1 (wrap64 (rd l0 x12_1)) [.int .i64 (wrap64 (rd l0 x12_1))] (fun _ => True) (fun _ => False) rfl rfl ?aP (fun _ hk => hk.elim) ?aF ?aO ?aB ?aS ?aL ?_; (case aP => exact rfl); (case aB => exact uB); (case aF => exact (fun _ _ => trivial)); (case aO => exact (uR HO_4.out)); (case aS => exact (below_size uB)); (case aL => have := LMc6.out; omega); intro v261 w7 ho hb hg hat; rw [← Ny260.out] at ho; have n0_ := Aside0.mk (hb); have n1_ := Aside0.mk (ho); clear HB; clear HO_4; have HB := n0_; have HO262 := n1_; clear n0_ n1_; clear ho hb hg hat))
     go_roundg k1
     case measure => have := HK1.out; omega
     case rel => exact ⟨(y260), (wrap64 (x12_1 + 1)), sD, H', ⟨by have := HK1.out; omega⟩, ⟨uR HO262.out⟩, ⟨uB⟩⟩
    ·obtain ⟨⟨t263, t264⟩, A8, H⟩ := bdS H
     try dsimp only at H
     simp only [Option.some.injEq, Prod.mk.injEq] at H
     obtain ⟨rfl, rfl⟩ := H
     obtain ⟨Ao9, co9, eo9⟩ := Kd.R_slice HO_4.out
     subst eo9
     go_wp2_with (first | ((with_reducible refine gate_callee (f := 69) rfl ?_); refine goesL_ (some 23) rfl rfl Tryz.func69 (by kernel_rfl) rfl #[.slice Ao9 x4_1.length co9, .int .i64 256] rfl aE ?_; (with_reducible refine (sais_Ints.calls k1 _ _ x4_1 256 t263 t264 _ ?side1 ?side2 A8.out).mono ?_); (case side1 => exact uC (Kd.R_reads' HO_4.out).2.2); (case side2 => exact (Kd.R_reads' HO_4.out).2.1); rintro e w10 ⟨v265, rfl, ho0, hb⟩; refine ⟨_, rfl, ?_⟩; have n0_ := Aside0.mk (Kd.R_elder' (uR HO_4.out) (Kd.R_base ho0) hb); have n1_ := Aside0.mk (Kd.R_lower (Kd.R_new' ho0 (Kd.R_lt (uR HO_4.out))) (below_size uB)); have n2_ := Aside0.mk (below_step uB hb); clear HO_4; clear HB; have HO_4 := n0_; have HO266 := n1_; have HB := n2_; clear n0_ n1_ n2_; (try clear hb); (try clear hb2); (try clear hk); (try clear hi); (try clear ho0)))
     go_ret2
     exact ⟨_, eR, by (with_reducible repeat (first | apply Kd.R_alloc | apply Kd.R_drewN | apply Kd.R_drew)); exact Kd.R_mono HO266.out (fun _ hk => trivial), uB⟩
 ·rw [if_neg c2] at H
  have c2b0 : decide ((l0.length : Int) ≤ 100000) = false := decide_eq_false c2
  have c2b1 : decide (l0.length ≤ 100000) = false := decide_eq_false (by omega)
  clear c2
  simp only [Option.some.injEq, Prod.mk.injEq] at H
  obtain ⟨rfl, rfl⟩ := H
  go_enter Tryz.func38, Tryz.ntmps38
  go_wp2
  go_ret2
  exact ⟨_, eR, nL, uB⟩
mutual
def bucket_Pass.l0 : Nat → List Int → List Int → List Int → List Int → Int → Int → Option (List Int × Bool)
  | 0, _, _, _, _, _, _ => none
  | k + 1, x0, x1, x10, x27, x28, x29 => if x29 < x28 then (if 0 ≤ x29 then (if x29 < (x27.length : Int) then (if (rd x27 x29) < 0 then (some (([] : List Int), false)) else (if (rd x27 x29) ≥ (x1.length : Int) then (some (([] : List Int), false)) else (if 0 ≤ (rd x27 x29) then (if (rd x27 x29) < (x1.length : Int) then (if 0 ≤ (rd x1 (rd x27 x29)) then (if (rd x1 (rd x27 x29)) < (x10.length : Int) then (bucket_Pass.l0 k x0 x1 (x10.set ((rd x1 (rd x27 x29)) : Int).toNat (wrap64 ((rd x10 (rd x1 (rd x27 x29))) + 1))) x27 x28 (wrap64 (x29 + 1))) else (none)) else (none)) else (none)) else (none)))) else (none)) else (none)) else ((bucket_Starts.f k x10).bind fun t278 => (if 0 ≤ (x0.length : Int) then (if ((x0.length : Int) : Int).toNat ≤ 35184372088832 then (bucket_Pass.l1 k x1 t278 (List.replicate ((x0.length : Int) : Int).toNat 0) x0 (x0.length : Int) 0) else (none)) else (none)))
def bucket_Pass.l1 : Nat → List Int → List Int → List Int → List Int → Int → Int → Option (List Int × Bool)
  | 0, _, _, _, _, _, _ => none
  | k + 1, x1, x13, x14, x56, x57, x58 => if x58 < x57 then (if 0 ≤ x58 then (if x58 < (x56.length : Int) then (if 0 ≤ (rd x56 x58) then (if (rd x56 x58) < (x1.length : Int) then (if 0 ≤ (rd x1 (rd x56 x58)) then (if (rd x1 (rd x56 x58)) < (x13.length : Int) then (if 0 ≤ (rd x13 (rd x1 (rd x56 x58))) then (if (rd x13 (rd x1 (rd x56 x58))) < (x14.length : Int) then (bucket_Pass.l1 k x1 (x13.set ((rd x1 (rd x56 x58)) : Int).toNat (wrap64 ((rd x13 (rd x1 (rd x56 x58))) + 1))) (x14.set ((rd x13 (rd x1 (rd x56 x58))) : Int).toNat (rd x56 x58)) x56 x57 (wrap64 (x58 + 1))) else (none)) else (none)) else (none)) else (none)) else (none)) else (none)) else (none)) else (none)) else (some (x14, true))
end
def bucket_Pass.f (k : Nat) (l0 : List Int) (l1 : List Int) (a2 : Int) : Option (List Int × Bool) := (bucket_Counts.f k l1 a2).bind fun bt267 => (if bt267.2 = true then (if 0 ≤ a2 then (if (a2 : Int).toNat ≤ 35184372088832 then (bucket_Pass.l0 k l0 l1 (List.replicate (a2 : Int).toNat 0) l0 (l0.length : Int) 0) else (none)) else (none)) else (some (([] : List Int), false)))
theorem bucket_Pass.mono_l : ∀ k, (∀ y0 y1 y2 y3 y4 y5, LeO (bucket_Pass.l0 k y0 y1 y2 y3 y4 y5) (bucket_Pass.l0 (k + 1) y0 y1 y2 y3 y4 y5)) ∧ (∀ y0 y1 y2 y3 y4 y5, LeO (bucket_Pass.l1 k y0 y1 y2 y3 y4 y5) (bucket_Pass.l1 (k + 1) y0 y1 y2 y3 y4 y5))
  | 0 => ⟨fun _ _ _ _ _ _ r h => by simp [bucket_Pass.l0] at h, fun _ _ _ _ _ _ r h => by simp [bucket_Pass.l1] at h⟩
  | k + 1 => by
    obtain ⟨ih0, ih1⟩ := bucket_Pass.mono_l k
    refine ⟨?_, ?_⟩
    · intro y0 y1 y2 y3 y4 y5
      unfold bucket_Pass.l0
      have m0 := @bucket_Counts.mono
      have m1 := @bucket_Starts.mono
      exact mB
    · intro y0 y1 y2 y3 y4 y5
      unfold bucket_Pass.l1
      have m0 := @bucket_Counts.mono
      have m1 := @bucket_Starts.mono
      exact mB
theorem bucket_Pass.mono : ∀ a0 a1 a2 k, LeO (bucket_Pass.f k a0 a1 a2) (bucket_Pass.f (k + 1) a0 a1 a2) := by
  intro a0 a1 a2 k
  obtain ⟨ih0, ih1⟩ := bucket_Pass.mono_l k
  unfold bucket_Pass.f
  have m0 := @bucket_Counts.mono
  have m1 := @bucket_Starts.mono
  exact mB
set_option maxHeartbeats 8000000 in
set_option maxRecDepth 100000 in
theorem bucket_Pass.calls (k : Nat) (A0 : Option Addr) (c0 : Nat) (l0 : List Int) (A1 : Option Addr) (c1 : Nat) (l1 : List Int) (a2 : Int) (r1 : List Int) (r2 : Bool) (w : World) (hr0 : Kd.C (Kd.int .i64) w A0 l0.length l0) (hc0 : l0.length ≤ c0) (hr1 : Kd.C (Kd.int .i64) w A1 l1.length l1) (hc1 : l1.length ≤ c1) (h : bucket_Pass.f k l0 l1 a2 = some (r1, r2)) :
    Calls Tryz.prog 71 #[.slice A0 l0.length c0, .slice A1 l1.length c1, .int .i64 a2] w fun e w' => ∃ v0_ : Value, e = .returned (.tuple #[v0_, .bool r2]) ∧ Kd.R (Kd.int .i64) 3 w' w.heap.size (fun _ => True) v0_ r1 ∧ Below w.heap.size w w' := by
 have HR0 := Aside0.mk hr0
 have HC0 := Aside0.mk hc0
 clear hr0 hc0
 have HR1 := Aside0.mk hr1
 have HC1 := Aside0.mk hc1
 clear hr1 hc1
 have HB := Aside0.mk (Below.refl w.heap.size w)
 have H := h
 clear h
 unfold bucket_Pass.f at H
 obtain ⟨⟨t267, t268⟩, A4, H⟩ := bdS H
 try dsimp only at H
 by_cases c5 : t268 = true
 ·subst c5
  rw [if_pos rfl] at H
  obtain ⟨c6b0, c6b1, H⟩ := ifE H
  obtain ⟨c7b0, c7b1, H⟩ := ifE H
  generalize hy271 : (List.replicate (a2 : Int).toNat 0 : List Int) = y271 at H
  try simp only [Option.bind_some] at H
  have Ny271 := Aside0.mk hy271.symm
  clear hy271
  have H' := Aside0.mk H
  clear H
  go_enter Tryz.func71, Tryz.ntmps71
  go_wp2_with (first | ((with_reducible refine gate_callee (f := 91) rfl ?_); refine goesL_ (some 20) rfl rfl Tryz.func91 (by kernel_rfl) rfl #[.slice A1 l1.length c1, .int .i64 a2] rfl aE ?_; (with_reducible refine (bucket_Counts.calls k _ _ l1 a2 t267 true _ ?side1 ?side2 A4.out).mono ?_); (case side1 => exact uC HR1.out); (case side2 => exact HC1.out); rintro e w8 ⟨v269, rfl, ho0, hb⟩; refine ⟨_, rfl, ?_⟩; have n0_ := Aside0.mk (Kd.R_lower ho0 (below_size uB)); have n1_ := Aside0.mk (below_step uB hb); clear HB; have HO270 := n0_; have HB := n1_; clear n0_ n1_; (try clear hb); (try clear hb2); (try clear hk); (try clear hi); (try clear ho0)) | ((with_reducible refine gate_dst (N := 26) rfl ?_); (try (refine gate_guard (by rfl) ?_; dsimp only)); refine Kd.R_make (Kd.int .i64) _ 3 rfl (N := 26) rfl 29 _ _ rfl a2 rfl rfl Tryz.underlying29 (.int .i64 0) 8 info3 rfl (by decide) (by omega) 0 (ok := fun _ => True) (okp := fun _ => True) rfl (fun _ hk => hk) trivial dT (Nat.le_trans (Nat.mul_le_mul_right _ (dT : a2.toNat ≤ 35184372088832)) (by omega)) (Below.refl _ _) (Nat.le_refl _) ?_; intro v272 w9 ho10 hb hg_ hnew_; clear hg_ hnew_; (first | rw [← Ny271.out] at ho10 | (simp only [Int.reduceToNat] at ho10; rw [← Ny271.out] at ho10)); have n0_ := Aside0.mk (Kd.R_elder' (uR HO270.out) (Kd.R_base ho10) hb); have n1_ := Aside0.mk (Kd.R_lower (Kd.R_new' ho10 (Kd.R_lt (uR HO270.out))) (below_size uB)); have n2_ := Aside0.mk (below_step uB hb); clear HO270; clear HB; have HO270 := n0_; have HO273 := n1_; have HB := n2_; clear n0_ n1_ n2_; clear hb ho10))
  go_loopg [29] k (fun kq v29 w' => ∃ (x10_1 : List Int) (x29_1 : Int), v29 = .int .i64 x29_1 ∧ Aside0 (bucket_Pass.l0 kq l0 l1 x10_1 l0 (l0.length : Int) x29_1 = some (r1, r2)) ∧ Aside0 (kq ≤ k) ∧ Aside0 (Kd.R (Kd.int .i64) 3 w' w.heap.size (fun _ => True) v272 x10_1) ∧ Aside0 (Below w.heap.size w w'))
  case atStart => exact ⟨(y271), (0), sD, H', ⟨Nat.le_refl _⟩, ⟨by (with_reducible repeat (first | apply Kd.R_alloc | apply Kd.R_drewN | apply Kd.R_drew)); exact Kd.R_mono HO273.out (fun _ hk => trivial)⟩, ⟨uB⟩⟩
  case round =>
   clear H'
   try clear c1
   try clear p2
   try clear c5
   try clear c6
   try clear c6b0
   try clear c6b1
   try clear c7
   try clear c7b0
   try clear c7b1
   try clear c9
   obtain ⟨x10_1, x29_1, rfl, HA, HK1, HO_10, HB⟩ := hrel
   cases gk with
   | zero => exact absurd HA.out (by simp [bucket_Pass.l0])
   | succ k1 =>
    have H := HA.out
    clear HA
    simp only [bucket_Pass.l0] at H
    rcases ifC H with ⟨c11b0, H⟩ | ⟨c11b0, H⟩
    ·obtain ⟨c12b0, c13b0, H⟩ := ifD2 H
     rcases ifC H with ⟨c14b0, H⟩ | ⟨c14b0, H⟩
     ·simp only [Option.some.injEq, Prod.mk.injEq] at H
      obtain ⟨rfl, rfl⟩ := H
      obtain ⟨ad274, e274, hx274_0, p274, q274⟩ := rIO HB.out HR0.out x29_1
      cases e274
      go_wp2
      go_ret2
      exact ⟨_, eR, nL, uB⟩
     ·rcases ifG H with ⟨c15b0, H⟩ | ⟨c15b0, H⟩
      ·simp only [Option.some.injEq, Prod.mk.injEq] at H
       obtain ⟨rfl, rfl⟩ := H
       obtain ⟨ad274, e274, hx274_0, p274, q274⟩ := rIO HB.out HR0.out x29_1
       cases e274
       go_wp2
       go_ret2
       exact ⟨_, eR, nL, uB⟩
      ·obtain ⟨c16b0, c17b0, H⟩ := ifD2 H
       obtain ⟨c18b0, c19b0, H⟩ := ifD2 H
       generalize hy277 : (x10_1.set ((rd l1 (rd l0 x29_1)) : Int).toNat (wrap64 ((rd x10_1 (rd l1 (rd l0 x29_1))) + 1)) : List Int) = y277 at H
       try simp only [Option.bind_some] at H
       have Ny277 := Aside0.mk hy277.symm
       clear hy277
       have H' := Aside0.mk H
       clear H
       obtain ⟨ad274, e274, hx274_0, p274, q274⟩ := rIO HB.out HR0.out x29_1
       cases e274
       obtain ⟨ad275, e275, hx275_0, p275, q275⟩ := rIO HB.out HR1.out (rd l0 x29_1)
       cases e275
       obtain ⟨Ao21, co21, eo21⟩ := Kd.R_slice HO_10.out
       subst eo21
       obtain ⟨ad276, e276, hx276_0, p276, q276⟩ := rI (Kd.R_reads' HO_10.out).2.2 (rd l1 (rd l0 x29_1))
       cases e276
       have p20 : 0 ≤ ((rd l1 (rd l0 x29_1)) : Int) := dT
       have q20 : ((rd l1 (rd l0 x29_1)) : Int) < ((x10_1.length : Int) : Int) := dT
       obtain ⟨go20, co20, eo20, gb20, gl20, cl20, HG20⟩ := Kd.R_form HO_10.out (by omega)
       (first | cases eo20 | (injection eo20 with ea_ en_ ec_; (first | subst ea_ | (injection ea_ with ea_; subst ea_)); subst ec_; clear en_))
       have GB20 := Aside0.mk gb20
       have GG20 := Aside0.mk HG20
       clear gb20 gl20 HG20
       (first | simp only [add_plain] at hx276_0 | skip)
       obtain ⟨hx20_0, hf20_0⟩ := Kd.R_celln 0 HO_10.out ((rd l1 (rd l0 x29_1)) : Int) p20 q20
       replace p20 := eq_true p20
       replace q20 := eq_true q20
       have HP22 := Kd.R_putg HO_10.out ((rd l1 (rd l0 x29_1)) : Int) (wrap64 ((rd x10_1 (rd l1 (rd l0 x29_1))) + 1))
       go_wp2_with (first | ((with_reducible refine gate_store (t := 3) (p := 49) rfl ?_); refine store_event (t := 3) (p := 49) (v := ?vo_w23) (w1 := (wr.setCell ⟨go20, ((rd l1 (rd l0 x29_1)) : Int).toNat, none⟩ (.int .i64 (wrap64 ((rd x10_1 (rd l1 (rd l0 x29_1))) + 1))))) ?hg ?ho ?hn ?hr ?_; (case ho => rfl); (case hg => rfl); (case hn => rfl); (case hr => first | (go_simp; done) | (go_simp; rfl)); intro w23 hw; have hg : wr.grownBy w23 (some go20) := (by rw [hw]; exact HP22.2); have hp_ : Kd.R (Kd.int .i64) 3 w23 w.heap.size (fun _ => True) (.slice (some ⟨go20, 0, none⟩) x10_1.length co21) y277 := (by rw [hw, Ny277.out]; exact HP22.1); clear HP22; have n0_ := Aside0.mk (hp_); have n1_ := Aside0.mk ((by rw [hw]; exact below_set (HB.out) GB20.out : Below w.heap.size w w23)); clear HO_10; clear HB; have HO_10 := n0_; have HB := n1_; clear n0_ n1_; clear hg hw hp_))
       go_roundg k1
       case measure => have := HK1.out; omega
       case rel => exact ⟨(y277), (wrap64 (x29_1 + 1)), sD, H', ⟨by have := HK1.out; omega⟩, ⟨uR HO_10.out⟩, ⟨uB⟩⟩
    ·obtain ⟨t278, A24, H⟩ := bdS H
     try dsimp only at H
     obtain ⟨c25b0, c25b1, H⟩ := ifE H
     obtain ⟨c26b0, c26b1, H⟩ := ifE H
     generalize hy281 : (List.replicate ((l0.length : Int) : Int).toNat 0 : List Int) = y281 at H
     try simp only [Option.bind_some] at H
     have Ny281 := Aside0.mk hy281.symm
     clear hy281
     have H' := Aside0.mk H
     clear H
     obtain ⟨Ao27, co27, eo27⟩ := Kd.R_slice HO_10.out
     subst eo27
     go_wp2_with (first | ((with_reducible refine gate_callee (f := 93) rfl ?_); refine goesL_ (some 52) rfl rfl Tryz.func93 (by kernel_rfl) rfl #[.slice Ao27 x10_1.length co27] rfl aE ?_; (with_reducible refine (bucket_Starts.calls k1 _ _ x10_1 t278 _ ?side1 ?side2 A24.out).mono ?_); (case side1 => exact uC (Kd.R_reads' HO_10.out).2.2); (case side2 => exact (Kd.R_reads' HO_10.out).2.1); rintro e w28 ⟨v279, rfl, ho0, hb⟩; refine ⟨_, rfl, ?_⟩; have n0_ := Aside0.mk (Kd.R_elder' (uR HO_10.out) (Kd.R_base ho0) hb); have n1_ := Aside0.mk (Kd.R_lower (Kd.R_new' ho0 (Kd.R_lt (uR HO_10.out))) (below_size uB)); have n2_ := Aside0.mk (below_step uB hb); clear HO_10; clear HB; have HO_10 := n0_; have HO280 := n1_; have HB := n2_; clear n0_ n1_ n2_; (try clear hb); (try clear hb2); (try clear hk); (try clear hi); (try clear ho0)) | ((with_reducible refine gate_dst (N := 55) rfl ?_); (try (refine gate_guard (by rfl) ?_; dsimp only)); refine Kd.R_make (Kd.int .i64) _ 3 rfl (N := 55) rfl 29 _ _ rfl (l0.length : Int) rfl rfl Tryz.underlying29 (.int .i64 0) 8 info3 rfl (by decide) (by omega) 0 (ok := fun _ => True) (okp := fun _ => True) rfl (fun _ hk => hk) trivial dT (Nat.le_trans (Nat.mul_le_mul_right _ (dT : (l0.length : Int).toNat ≤ 35184372088832)) (by omega)) (Below.refl _ _) (Nat.le_refl _) ?_; intro v282 w29 ho30 hb hg_ hnew_; clear hg_ hnew_; (first | rw [← Ny281.out] at ho30 | (simp only [Int.reduceToNat] at ho30; rw [← Ny281.out] at ho30)); have n0_ := Aside0.mk (Kd.R_elder' (uR HO_10.out) (Kd.R_base ho30) hb); have n1_ := Aside0.mk (Kd.R_elder' (uR HO280.out) (Kd.R_base ho30) hb); have n2_ := Aside0.mk (Kd.R_lower (Kd.R_new' (Kd.R_new' ho30 (Kd.R_lt (uR HO_10.out))) (Kd.R_lt (uR HO280.out))) (below_size uB)); have n3_ := Aside0.mk (below_step uB hb); clear HO_10; clear HO280; clear HB; have HO_10 := n0_; have HO280 := n1_; have HO283 := n2_; have HB := n3_; clear n0_ n1_ n2_ n3_; clear hb ho30))
     go_loopg [58] k1 (fun kq v58 w' => ∃ (x13_2 : List Int) (x14_2 : List Int) (x58_2 : Int), v58 = .int .i64 x58_2 ∧ Aside0 (bucket_Pass.l1 kq l1 x13_2 x14_2 l0 (l0.length : Int) x58_2 = some (r1, r2)) ∧ Aside0 (kq ≤ k1) ∧ Aside0 (Kd.R (Kd.int .i64) 3 w' w.heap.size (fun k_ => some k_ ≠ (v282 : Value).ownBlock) v279 x13_2) ∧ Aside0 (Kd.R (Kd.int .i64) 3 w' w.heap.size (fun k_ => some k_ ≠ (v279 : Value).ownBlock) v282 x14_2) ∧ Aside0 (Below w.heap.size w w'))
     case atStart => exact ⟨(t278), (y281), (0), sD, H', ⟨Nat.le_refl _⟩, ⟨by (with_reducible repeat (first | apply Kd.R_alloc | apply Kd.R_drewN | apply Kd.R_drew)); exact Kd.R_mono HO280.out (fun _ hk => hk.2)⟩, ⟨by (with_reducible repeat (first | apply Kd.R_alloc | apply Kd.R_drewN | apply Kd.R_drew)); exact Kd.R_mono HO283.out (fun _ hk => hk.2)⟩, ⟨uB⟩⟩
     case round =>
      clear H'
      try clear c1
      try clear c2
      try clear p2
      try clear q2
      try clear hx2
      try clear c5
      try clear c6
      try clear c6b0
      try clear c6b1
      try clear p6
      try clear c7
      try clear c7b0
      try clear c7b1
      try clear c9
      try clear c11
      try clear c11b0
      try clear c12
      try clear c12b0
      try clear c13
      try clear c13b0
      try clear c14
      try clear c14b0
      try clear c15
      try clear c15b0
      try clear c16
      try clear c16b0
      try clear c17
      try clear c17b0
      try clear c18
      try clear c18b0
      try clear c19
      try clear c19b0
      try clear p20
      try clear q20
      try clear hx20
      try clear hf20
      try clear c25
      try clear c25b0
      try clear c25b1
      try clear c26
      try clear c26b0
      try clear c26b1
      try clear p27
      try clear q27
      try clear hx27
      try clear hx20_0
      try clear hx274_0
      try clear hx275_0
      try clear hx276_0
      try clear p2
      try clear p20
      try clear p274
      try clear p275
      try clear p276
      try clear q20
      try clear q274
      try clear q275
      try clear q276
      obtain ⟨x13_2, x14_2, x58_2, rfl, HA, HK2, HO_13, HO_14, HB⟩ := hrel
      cases gk with
      | zero => exact absurd HA.out (by simp [bucket_Pass.l1])
      | succ k2 =>
       have H := HA.out
       clear HA
       simp only [bucket_Pass.l1] at H
       rcases ifC H with ⟨c31b0, H⟩ | ⟨c31b0, H⟩
       ·obtain ⟨c32b0, c33b0, H⟩ := ifD2 H
        obtain ⟨c34b0, c35b0, H⟩ := ifD2 H
        obtain ⟨c36b0, c37b0, H⟩ := ifD2 H
        obtain ⟨c38b0, c39b0, H⟩ := ifD2 H
        generalize hy287 : (x14_2.set ((rd x13_2 (rd l1 (rd l0 x58_2))) : Int).toNat (rd l0 x58_2) : List Int) = y287 at H
        try simp only [Option.bind_some] at H
        have Ny287 := Aside0.mk hy287.symm
        clear hy287
        generalize hy290 : (x13_2.set ((rd l1 (rd l0 x58_2)) : Int).toNat (wrap64 ((rd x13_2 (rd l1 (rd l0 x58_2))) + 1)) : List Int) = y290 at H
        try simp only [Option.bind_some] at H
        have Ny290 := Aside0.mk hy290.symm
        clear hy290
        have H' := Aside0.mk H
        clear H
        obtain ⟨ad284, e284, hx284_0, p284, q284⟩ := rIO HB.out HR0.out x58_2
        cases e284
        obtain ⟨ad285, e285, hx285_0, p285, q285⟩ := rIO HB.out HR1.out (rd l0 x58_2)
        cases e285
        obtain ⟨Ao42, co42, eo42⟩ := Kd.R_slice HO_13.out
        subst eo42
        obtain ⟨ad286, e286, hx286_0, p286, q286⟩ := rI (Kd.R_reads' HO_13.out).2.2 (rd l1 (rd l0 x58_2))
        cases e286
        have p40 : 0 ≤ ((rd x13_2 (rd l1 (rd l0 x58_2))) : Int) := dT
        have q40 : ((rd x13_2 (rd l1 (rd l0 x58_2))) : Int) < ((x14_2.length : Int) : Int) := dT
        obtain ⟨go40, co40, eo40, gb40, gl40, cl40, HG40⟩ := Kd.R_form HO_14.out (by omega)
        (first | cases eo40 | (injection eo40 with ea_ en_ ec_; (first | subst ea_ | (injection ea_ with ea_; subst ea_)); subst ec_; clear en_))
        have GB40 := Aside0.mk gb40
        have GG40 := Aside0.mk HG40
        clear gb40 gl40 HG40
        obtain ⟨hx40_0, hf40_0⟩ := Kd.R_celln 0 HO_14.out ((rd x13_2 (rd l1 (rd l0 x58_2))) : Int) p40 q40
        replace p40 := eq_true p40
        replace q40 := eq_true q40
        have HP43 := Kd.R_putg HO_14.out ((rd x13_2 (rd l1 (rd l0 x58_2))) : Int) (rd l0 x58_2)
        go_wp2_with (first | ((with_reducible refine gate_store (t := 3) (p := 71) rfl ?_); refine store_event (t := 3) (p := 71) (v := ?vo_w44) (w1 := (wr.setCell ⟨go40, ((rd x13_2 (rd l1 (rd l0 x58_2))) : Int).toNat, none⟩ (.int .i64 (rd l0 x58_2)))) ?hg ?ho ?hn ?hr ?_; (case ho => rfl); (case hg => rfl); (case hn => rfl); (case hr => first | (go_simp; done) | (go_simp; rfl)); intro w44 hw; have hg : wr.grownBy w44 (some go40) := (by rw [hw]; exact HP43.2); have hp_ : Kd.R (Kd.int .i64) 3 w44 w.heap.size (fun k_ => some k_ ≠ (.slice (some ad286) x13_2.length co42 : Value).ownBlock) (.slice (some ⟨go40, 0, none⟩) x14_2.length co40) y287 := (by rw [hw, Ny287.out]; exact HP43.1); clear HP43; have n0_ := Aside0.mk (Kd.R_after (v := (.slice (some ⟨go40, 0, none⟩) x14_2.length co40)) (v1 := (.slice (some ⟨go40, 0, none⟩) x14_2.length co40)) (ok := (fun _ => True)) (by (with_reducible repeat (first | apply Kd.R_alloc | apply Kd.R_drewN | apply Kd.R_drew)); exact Kd.R_mono HO_13.out (fun _ hk => ⟨trivial, hk⟩)) hg (.inl rfl)); have n1_ := Aside0.mk (hp_); have n2_ := Aside0.mk ((by rw [hw]; exact below_set (HB.out) GB40.out : Below w.heap.size w w44)); clear HO_13; clear HO_14; clear HB; have HO_13 := n0_; have HO_14 := n1_; have HB := n2_; clear n0_ n1_ n2_; clear hg hw hp_; have p288 : 0 ≤ ((rd l0 x58_2) : Int) := dT; have q288 : (rd l0 x58_2) < (l1.length : Int) := dT; obtain ⟨ad288, e288, hx288_0⟩ := Kd.at_int HR1.out (rd l0 x58_2) p288 q288; obtain rfl : ad285 = ad288 := (by injection e288); replace hx288_0 := (HB.out.cell (World.block_lt_of_cell? w _ hx288_0)).trans hx288_0; replace p288 := eq_true p288; replace q288 := eq_true q288; have p289 : 0 ≤ ((rd l1 (rd l0 x58_2)) : Int) := dT; have q289 : (rd l1 (rd l0 x58_2)) < (x13_2.length : Int) := dT; obtain ⟨ad289, e289, hx289_0⟩ := Kd.at_int (Kd.R_reads' HO_13.out).2.2 (rd l1 (rd l0 x58_2)) p289 q289; obtain rfl : ad286 = ad289 := (by injection e289); replace p289 := eq_true p289; replace q289 := eq_true q289; have p41 : 0 ≤ ((rd l1 (rd l0 x58_2)) : Int) := dT; have q41 : ((rd l1 (rd l0 x58_2)) : Int) < ((x13_2.length : Int) : Int) := dT; obtain ⟨go41, co41, eo41, gb41, gl41, cl41, HG41⟩ := Kd.R_form HO_13.out (by omega); (first | cases eo41 | (injection eo41 with ea_ en_ ec_; (first | subst ea_ | (injection ea_ with ea_; subst ea_)); subst ec_; clear en_)); have GB41 := Aside0.mk gb41; have GG41 := Aside0.mk HG41; clear gb41 gl41 HG41; (first | simp only [add_plain] at hx286_0 | skip); (first | simp only [add_plain] at hx289_0 | skip); obtain ⟨hx41_0, hf41_0⟩ := Kd.R_celln 0 HO_13.out ((rd l1 (rd l0 x58_2)) : Int) p41 q41; replace p41 := eq_true p41; replace q41 := eq_true q41; have n_ := Aside0.mk (Kd.R_mono (ok' := (fun k_ => some k_ ≠ (.slice (some ⟨go40, 0, none⟩) x14_2.length co40 : Value).ownBlock)) HO_13.out (fun k_ hk => hk.2)); clear HO_13; have HO_13 := n_; clear n_; obtain ⟨hy45_, hz45_⟩ := Kd.R_celln 0 HO_13.out ((rd l1 (rd l0 x58_2)) : Int) dT dT; have HP45 := Kd.R_putg HO_13.out ((rd l1 (rd l0 x58_2)) : Int) (wrap64 ((rd x13_2 (rd l1 (rd l0 x58_2))) + 1))) | ((with_reducible refine gate_store (t := 3) (p := 80) rfl ?_); refine store_event (t := 3) (p := 80) (v := ?vo_w46) (w1 := (w44.setCell ⟨go41, ((rd l1 (rd l0 x58_2)) : Int).toNat, none⟩ (.int .i64 (wrap64 ((rd x13_2 (rd l1 (rd l0 x58_2))) + 1))))) ?hg ?ho ?hn ?hr ?_; (case ho => rfl); (case hg => rfl); (case hn => rfl); (case hr => first | (go_simp; done) | (go_simp; rfl)); intro w46 hw; have hg : w44.grownBy w46 (some go41) := (by rw [hw]; exact HP45.2); have hp_ : Kd.R (Kd.int .i64) 3 w46 w.heap.size (fun k_ => some k_ ≠ (.slice (some ⟨go40, 0, none⟩) x14_2.length co40 : Value).ownBlock) (.slice (some ⟨go41, 0, none⟩) x13_2.length co42) y290 := (by rw [hw, Ny290.out]; exact HP45.1); clear HP45; have n0_ := Aside0.mk (hp_); have n1_ := Aside0.mk (Kd.R_after (v := (.slice (some ⟨go41, 0, none⟩) x13_2.length co42)) (v1 := (.slice (some ⟨go41, 0, none⟩) x13_2.length co42)) (ok := (fun _ => True)) (by (with_reducible repeat (first | apply Kd.R_alloc | apply Kd.R_drewN | apply Kd.R_drew)); exact Kd.R_mono HO_14.out (fun _ hk => ⟨trivial, hk⟩)) hg (.inl rfl)); have n2_ := Aside0.mk ((by rw [hw]; exact below_set (HB.out) GB41.out : Below w.heap.size w w46)); clear HO_13; clear HO_14; clear HB; have HO_13 := n0_; have HO_14 := n1_; have HB := n2_; clear n0_ n1_ n2_; clear hg hw hp_))
        go_roundg k2
        case measure => have := HK1.out; have := HK2.out; omega
        case rel => exact ⟨(y290), (y287), (wrap64 (x58_2 + 1)), sD, H', ⟨by have := HK1.out; have := HK2.out; omega⟩, ⟨uR HO_13.out⟩, ⟨by (with_reducible repeat (first | apply Kd.R_alloc | apply Kd.R_drewN | apply Kd.R_drew)); exact Kd.R_mono HO_14.out (fun _ hk => hk.2)⟩, ⟨uB⟩⟩
       ·simp only [Option.some.injEq, Prod.mk.injEq] at H
        obtain ⟨rfl, rfl⟩ := H
        go_wp2
        go_ret2
        exact ⟨_, eR, by (with_reducible repeat (first | apply Kd.R_alloc | apply Kd.R_drewN | apply Kd.R_drew)); exact Kd.R_mono HO_14.out (fun _ hk => trivial), uB⟩
 ·replace c5 := Bool.eq_false_iff.mpr c5
  subst c5
  rw [if_neg (by decide)] at H
  simp only [Option.some.injEq, Prod.mk.injEq] at H
  obtain ⟨rfl, rfl⟩ := H
  go_enter Tryz.func71, Tryz.ntmps71
  go_wp2_with (first | ((with_reducible refine gate_callee (f := 91) rfl ?_); refine goesL_ (some 20) rfl rfl Tryz.func91 (by kernel_rfl) rfl #[.slice A1 l1.length c1, .int .i64 a2] rfl aE ?_; (with_reducible refine (bucket_Counts.calls k _ _ l1 a2 t267 false _ ?side1 ?side2 A4.out).mono ?_); (case side1 => exact uC HR1.out); (case side2 => exact HC1.out); rintro e w47 ⟨v269, rfl, ho0, hb⟩; refine ⟨_, rfl, ?_⟩; have n0_ := Aside0.mk (Kd.R_lower ho0 (below_size uB)); have n1_ := Aside0.mk (below_step uB hb); clear HB; have HO270 := n0_; have HB := n1_; clear n0_ n1_; (try clear hb); (try clear hb2); (try clear hk); (try clear hi); (try clear ho0)))
  go_ret2
  exact ⟨_, eR, nL, uB⟩
end Go.Proofs.YtbbpplnnegdenaaGreat.PTopPipe
end
