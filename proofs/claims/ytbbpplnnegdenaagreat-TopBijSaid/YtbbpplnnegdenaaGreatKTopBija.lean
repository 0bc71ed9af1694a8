/- Words, functions, walks and plain mathematics for TopBij, part 1: laid together by a program of this session (pack.py). -/
import Derived.Below
import Derived.Deep.Draws
import Derived.Deep.AppendLies
import Derived.Maps.AppendAt
import Derived.OwnWalk
import Derived.Laws.BytesArg
import Derived.Laws.MakeOwn
import Derived.Laws.OwnMore
import Derived.Deep.OwnRows
import Derived.Tactics
import Derived.Lib.ConvBytes
import Derived.Laws.Slices
import Derived.WalkKit
import Derived.KernelRfl
import Derived.RowKit3
import Derived.Deep.LoopGhost
import Derived.Deep.QuietTactic
import Derived.BigQuiet
import Derived.WideLaws
import Derived.Deep.DeepCutAuto
import Derived.Deep.CutBlock
import Derived.Deep.RegionHeld3
import Derived.Laws.Rows
import Derived.Lib.AppendStr
import Derived.ArgAppend
import Derived.Laws.IdiomCopy
import Derived.RowKit
import Derived.OrdersHeld
import Derived.Laws.BitsLemmas
import Derived.Test.YtbbpplnnegdenaaGreatProg
import Derived.RangeFuncNested
import Derived.Lib.Hide
import Derived.RegionTactic
import Derived.BigRegion
import Derived.ChangeAlike
import Derived.StillTailTactics
import Derived.Outline
import Derived.LoopTactic
import Derived.SizedLaws
import Derived.ChangeSlices
set_option linter.unusedVariables false
set_option linter.unusedSimpArgs false
set_option maxHeartbeats 8000000
set_option maxRecDepth 100000
section
namespace Go.Proofs.YtbbpplnnegdenaaGreatW.PrintWords
open Go.RowKit
structure Aside0 (p : Prop) : Prop where mk :: (out : p)
structure Drawn0 (w w' : World) : Prop where mk :: (out : ∃ n, w' = w.drewN n)
theorem Drawn0.refl (w : World) : Drawn0 w w := ⟨⟨0, rfl⟩⟩
theorem Drawn0.step {w w' : World} (h : Drawn0 w w') (n : Nat) : Drawn0 w (w'.drewN n) := by
 obtain ⟨m, rfl⟩ := h
 exact ⟨⟨m + n, World.drewN_drewN ..⟩⟩
theorem Drawn0.grown {w w' : World} (h : Drawn0 w w') : Grown w w' := by
 obtain ⟨n, rfl⟩ := h
 induction n with
 | zero => exact Grown.refl _
 | succ n ih => rw [← World.drew_drewN]; exact Grown.drew ih
theorem Drawn0.below {w w' : World} (h : Drawn0 w w') : Below w.heap.size w w' := by
 obtain ⟨n, rfl⟩ := h
 induction n with
 | zero => exact Below.refl _ _
 | succ n ih => rw [← World.drew_drewN]; exact ih.drew
def rd (xs : List Int) (i : Int) : Int := xs.getD i.toNat 0
theorem below_alloc {w W : World} (h : Below w.heap.size w W) (o : Obj) : Below w.heap.size w (W.alloc o) := h.alloc h.size o
theorem below_drew {B : Nat} {w W : World} (h : Below B w W) : Below B w W.drew := ⟨h.os, h.tape, h.output, h.size, h.block⟩
theorem pw_below_drewN {B : Nat} {w W : World} (h : Below B w W) (n : Nat) : Below B w (W.drewN n) := ⟨h.os, h.tape, h.output, h.size, h.block⟩
theorem below_then {B : Nat} {w w1 w2 : World} (h : Below B w w1) (hB : B ≤ w1.heap.size) (k : Below w1.heap.size w1 w2) : Below B w w2 :=
 h.trans ⟨k.os, k.tape, k.output, k.size, fun i hi => k.block i (Nat.lt_of_lt_of_le hi hB)⟩
theorem grown_of_below {w w1 : World} (h : Below w.heap.size w w1) (row : Option Nat) : w.grownBy w1 row := ⟨h.os, h.tape, h.output, h.size, fun i hi _ => h.block i hi⟩
theorem pw_cell_below {w w1 : World} (h : Below w.heap.size w w1) {a : Addr} {v : Value} (hc : w.cell? a = some v) : w1.cell? a = some v := (h.cell (World.block_lt_of_cell? w a hc)).trans hc
theorem add_plain (g j : Nat) : (⟨g, 0, none⟩ : Addr).add j = ⟨g, j, none⟩ := by unfold Addr.add; split <;> simp_all
def ReadsInt (w : World) (k : IntKind) (A : Option Addr) (n : Nat) (xs : List Int) : Prop :=
 xs.length = n ∧ n ≤ 9223372036854775807 ∧ (0 < n → ∃ ad, A = some ad ∧ ∀ j, j < n → w.cell? (ad.add j) = some (.int k (xs.getD j 0)))
theorem ReadsInt.at_ {w : World} {k : IntKind} {A : Option Addr} {n : Nat} {xs : List Int} (h : ReadsInt w k A n xs) (i : Int) (h0 : 0 ≤ i) (h1 : i < n) : ∃ ad, A = some ad ∧ w.cell? (ad.add i.toNat) = some (.int k (rd xs i)) := by
 obtain ⟨ad, e, hc⟩ := h.2.2 (by omega)
 exact ⟨ad, e, hc _ (by omega)⟩
theorem ReadsInt.below {w w1 : World} {k : IntKind} {A : Option Addr} {n : Nat} {xs : List Int} (h : ReadsInt w k A n xs) (hb : Below w.heap.size w w1) : ReadsInt w1 k A n xs :=
 ⟨h.1, h.2.1, fun hn => by
  obtain ⟨ad, e, hc⟩ := h.2.2 hn
  exact ⟨ad, e, fun j hj => pw_cell_below hb (hc j hj)⟩⟩
theorem own_nil (W : World) (base : Nat) (e : TypeId) (size : Nat) : W.ownsRow base e size (.slice none 0 0) 0 [] := ⟨by simp, .inl ⟨rfl, rfl⟩⟩
theorem own_base {w : World} {base : Nat} {e : TypeId} {size n : Nat} {v : Value} {xs : List Value} (h : w.ownsRow base e size v n xs) (k : Nat) (hk : v.ownBlock = some k) : base ≤ k := by
 rcases h.2 with ⟨rfl, _⟩ | ⟨g, cap, cur, rfl, hb, _⟩
 ·simp [Value.ownBlock] at hk
 ·have : g = k := by simpa [Value.ownBlock] using hk
  omega
theorem own_lt {w : World} {base : Nat} {e : TypeId} {size n : Nat} {v : Value} {xs : List Value} (h : w.ownsRow base e size v n xs) (k : Nat) (hk : v.ownBlock = some k) : k < w.heap.size := by
 rcases h.2 with ⟨rfl, _⟩ | ⟨g, cap, cur, rfl, hb, hh, _⟩
 ·simp [Value.ownBlock] at hk
 ·have : g = k := by simpa [Value.ownBlock] using hk
  subst this
  exact (Array.getElem?_eq_some_iff.1 hh).1
theorem pw_own_below {w w1 : World} {base : Nat} {e : TypeId} {size n : Nat} {v : Value} {xs : List Value} (h : w.ownsRow base e size v n xs) (hb : Below w.heap.size w w1) : w1.ownsRow base e size v n xs :=
 h.kept (grown_of_below hb none) (by cases v.ownBlock <;> simp)
theorem own_slice {w : World} {base n : Nat} {e : TypeId} {size : Nat} {v : Value} {xs : List Value} (h : w.ownsRow base e size v n xs) : ∃ A c, v = .slice A n c := by
 rcases h.2 with ⟨rfl, rfl⟩ | ⟨g, cap, cur, rfl, _⟩
 ·exact ⟨none, 0, rfl⟩
 ·exact ⟨_, cap, rfl⟩
def bytesOf (s : ByteArray) : List Int := s.data.toList.map fun b => (b.toNat : Int)
theorem ReadsInt.take_ {w : World} {k : IntKind} {A : Option Addr} {n : Nat} {xs : List Int} (h : ReadsInt w k A n xs) (i : Nat) (hi : i ≤ n) : ReadsInt w k A i (xs.take i) := by
 refine ⟨by rw [List.length_take, h.1]; omega, by have := h.2.1; omega, fun hp => ?_⟩
 obtain ⟨ad, e, hc⟩ := h.2.2 (by omega)
 refine ⟨ad, e, fun j hj => ?_⟩
 rw [hc j (by omega)]
 simp [List.getD_eq_getElem?_getD, hj]
theorem ReadsInt.drop_ {w : World} {k : IntKind} {A : Option Addr} {n c : Nat} {xs : List Int} (h : ReadsInt w k A n xs) (i : Nat) (hi : i ≤ n) (hc : n ≤ c) : ReadsInt w k (if c = i then A else A.map (·.add i)) (n - i) (xs.drop i) := by
 refine ⟨by rw [List.length_drop, h.1], by have := h.2.1; omega, fun hp => ?_⟩
 obtain ⟨ad, rfl, hcell⟩ := h.2.2 (by omega)
 rw [if_neg (by omega)]
 refine ⟨ad.add i, rfl, fun j hj => ?_⟩
 have ha : (ad.add i).add j = ad.add (i + j) := by
  unfold Addr.add
  by_cases h1 : i = 0 <;> by_cases h2 : j = 0 <;> simp [h1, h2, Nat.add_assoc]
 rw [ha, hcell (i + j) (by omega)]
 simp [List.getD_eq_getElem?_getD, List.getElem?_drop]
def LeO {α : Type} (a b : Option α) : Prop := ∀ r, a = some r → b = some r
theorem LeO.refl {α : Type} (a : Option α) : LeO a a := fun _ h => h
theorem LeO.none {α : Type} (b : Option α) : LeO Option.none b := fun _ h => by cases h
theorem LeO.trans {α : Type} {a b c : Option α} (h : LeO a b) (k : LeO b c) : LeO a c := fun r hr => k r (h r hr)
theorem LeO.ite {α : Type} {c : Prop} [Decidable c] {a a' b b' : Option α} (h : LeO a a') (k : LeO b b') : LeO (if c then a else b) (if c then a' else b') := by
 split
 ·exact h
 ·exact k
theorem LeO.bind {α β : Type} {a a' : Option α} {f f' : α → Option β} (h : LeO a a') (k : ∀ x, LeO (f x) (f' x)) : LeO (a.bind f) (a'.bind f') := by
 intro r hr
 obtain ⟨x, hx, hf⟩ := Option.bind_eq_some_iff.1 hr
 exact Option.bind_eq_some_iff.2 ⟨x, h x hx, k x r hf⟩
theorem LeO.map {α β : Type} {a a' : Option α} (f : α → β) (h : LeO a a') : LeO (a.map f) (a'.map f) := by
 intro r hr
 obtain ⟨x, hx, hf⟩ := Option.map_eq_some_iff.1 hr
 exact Option.map_eq_some_iff.2 ⟨x, h x hx, hf⟩
theorem more_rounds {α : Type} {g : Nat → Option α} (h : ∀ k, LeO (g k) (g (k + 1))) (k : Nat) : ∀ j, LeO (g k) (g (k + j))
 | 0 => LeO.refl _
 | j + 1 => (more_rounds h k j).trans (h (k + j))
theorem at_rounds {α : Type} {g : Nat → Option α} (h : ∀ k, LeO (g k) (g (k + 1))) {k k' : Nat} (hk : k ≤ k') {r : α} (hr : g k = some r) : g k' = some r := by
 have := more_rounds h k (k' - k) r hr
 rwa [Nat.add_sub_cancel' hk] at this
def Reps {α : Type} (R : α → List Value → Prop) (size : Nat) (ps : List α) (cs : List Value) : Prop :=
 cs.length = ps.length * size ∧ ∀ j p, ps[j]? = some p → R p ((cs.drop (j * size)).take size)
theorem Reps.none {α : Type} (R : α → List Value → Prop) (size : Nat) : Reps R size [] [] := ⟨by simp, fun j p h => by simp at h⟩
theorem Reps.snoc {α : Type} {R : α → List Value → Prop} {size : Nat} {ps : List α} {cs c : List Value} {p : α} (h : Reps R size ps cs) (hp : R p c) (hc : c.length = size) : Reps R size (ps ++ [p]) (cs ++ c) := by
 refine ⟨by rw [List.length_append, h.1, hc, List.length_append, List.length_singleton, Nat.add_mul, Nat.one_mul], fun j q hq => ?_⟩
 rcases Nat.lt_or_ge j ps.length with hj | hj
 ·rw [List.getElem?_append_left hj] at hq
  have h1 : j * size + size ≤ cs.length := by rw [h.1, ← Nat.succ_mul]; exact Nat.mul_le_mul_right _ hj
  have h2 := h.2 j q hq
  rw [List.drop_append_of_le_length (by omega), List.take_append_of_le_length (by rw [List.length_drop]; omega)]
  exact h2
 ·have hj' : j = ps.length := by
   have := (List.getElem?_eq_some_iff.1 hq).1
   rw [List.length_append, List.length_singleton] at this
   omega
  subst hj'
  have hq' : p = q := by simpa using hq
  subst hq'
  rw [← h.1, List.drop_left, ← hc, List.take_length]
  exact hp
theorem Reps.imp_ {α : Type} {R R' : α → List Value → Prop} {size : Nat} {ps : List α} {cs : List Value} (h : Reps R size ps cs) (hR : ∀ p c, R p c → R' p c) : Reps R' size ps cs := ⟨h.1, fun j p hj => hR _ _ (h.2 j p hj)⟩
def ReadsRow {α : Type} (R : α → List Value → Prop) (size : Nat) (w : World) (A : Option Addr) (n : Nat) (ps : List α) : Prop :=
 ps.length = n ∧ n ≤ 9223372036854775807 ∧ (0 < n → ∃ ad, A = some ad ∧ ∀ j p, ps[j]? = some p → ∃ c, c.length = size ∧ R p c ∧ ∀ i u, c[i]? = some u → w.cell? (ad.add (j * size + i)) = some u)
theorem ReadsRow.get_ {α : Type} {R : α → List Value → Prop} {size : Nat} {w : World} {A : Option Addr} {n : Nat} {ps : List α} (h : ReadsRow R size w A n ps) (d : α) (i : Int) (h0 : 0 ≤ i) (h1 : i < n) :
  ∃ ad c, A = some ad ∧ c.length = size ∧ R (ps.getD i.toNat d) c ∧ ∀ j u, c[j]? = some u → w.cell? (ad.add (i.toNat * size + j)) = some u := by
 obtain ⟨ad, e, hc⟩ := h.2.2 (by omega)
 have hl : i.toNat < ps.length := by have := h.1; omega
 obtain ⟨c, hs, hr, hcell⟩ := hc i.toNat _ (List.getElem?_eq_getElem hl)
 refine ⟨ad, c, e, hs, ?_, hcell⟩
 rw [List.getD_eq_getElem?_getD, List.getElem?_eq_getElem hl]
 exact hr
theorem ReadsRow.imp_ {α : Type} {R R' : α → List Value → Prop} {size : Nat} {w w1 : World} {A : Option Addr} {n : Nat} {ps : List α} (h : ReadsRow R size w A n ps) (hb : Below w.heap.size w w1) (hR : ∀ p c, R p c → R' p c) : ReadsRow R' size w1 A n ps :=
 ⟨h.1, h.2.1, fun hn => by
  obtain ⟨ad, e, hc⟩ := h.2.2 hn
  refine ⟨ad, e, fun j p hj => ?_⟩
  obtain ⟨c, hs, hr, hcell⟩ := hc j p hj
  exact ⟨c, hs, hR _ _ hr, fun i u hu => pw_cell_below hb (hcell i u hu)⟩⟩
theorem own_reads_row {α : Type} {R : α → List Value → Prop} {w : World} {base n size : Nat} {e : TypeId} {v : Value} {ps : List α} {cs : List Value} (h : w.ownsRow base e size v n cs) (hR : Reps R size ps cs) (hn : ps.length = n) :
  ∃ A c, v = .slice A n c ∧ ReadsRow R size w A n ps := by
 rcases Nat.eq_zero_or_pos n with h0 | h0
 ·rcases h.2 with ⟨rfl, rfl⟩ | ⟨g, cap, cur, rfl, _⟩
  ·exact ⟨none, 0, rfl, hn, by omega, fun hp => absurd hp (by omega)⟩
  ·exact ⟨_, cap, rfl, hn, by omega, fun hp => absurd hp (by omega)⟩
 ·obtain ⟨g, cap, rfl, _, _⟩ := h.form h0
  have hm : n ≤ 9223372036854775807 := by
   rcases h.2 with ⟨_, h1⟩ | ⟨g', cap', cur, he, _, _, h1, h2, _⟩
   ·omega
   ·simp only [maxLen] at h2
    omega
  refine ⟨_, cap, rfl, hn, hm, fun _ => ⟨_, rfl, fun j p hj => ⟨(cs.drop (j * size)).take size, ?_, hR.2 j p hj, fun i u hu => ?_⟩⟩⟩
  ·have hjl := (List.getElem?_eq_some_iff.1 hj).1
   have h1 : j * size + size ≤ cs.length := by rw [hR.1, ← Nat.succ_mul]; exact Nat.mul_le_mul_right _ hjl
   rw [List.length_take, List.length_drop]
   omega
  ·refine h.cells (g := g) rfl _ u ?_
   rw [List.getElem?_take] at hu
   split at hu
   ·rw [List.getElem?_drop] at hu
    exact hu
   ·cases hu
section
variable {P : Program} {ops : Array Oper} {rest : List Oper} {o : Oper} {a : Act} {Q : Exit → Act → World → Prop}
theorem print_append_cells {w0 W : World} (base : Nat) (hgd : o.guard = none) (s x : Operand) (t e : TypeId) (z : Value) (size bytes : Nat)
  (ho : o.op = .call { callee := .builtin .append, args := #[s, x], argTypes := #[t, t] })
  (ht : P.underlying t = some (.slice e)) (hinfo : (P.info? e).map (fun i => (i.zero, i.size, i.bytes)) = some (some z, size, bytes)) (hz : z.cells.size = size) (hs0 : 0 < size) (hb0 : 0 < bytes)
  (v : Value) (n : Nat) (xs ys : List Value) (hs : a.eval s = v) (hx : a.eval x = .slice (some ⟨W.heap.size, 0, none⟩) 1 1) (hys : ys.length = size) (h1 : ∀ u ∈ ys, u.oneCell' = true)
  (HO : W.ownsRow base e size v n xs) (HB : Below base w0 W) (hbase : base ≤ W.heap.size) (hl : (n + 1) * bytes ≤ 140737488355328)
  (h : ∀ v1 w1, w1.ownsRow base e size v1 (n + 1) (xs ++ ys) → Below base w0 w1 → W.grownBy w1 v.ownBlock → (v1.ownBlock = v.ownBlock ∨ ∃ b, v1.ownBlock = some b ∧ W.heap.size ≤ b) → wpList P ops Q rest (a.put o.dst v1) w1) :
  wpList P ops Q (o :: rest) a (W.alloc (.cells ys.toArray e)) := by
 obtain ⟨i0, hi, hzz⟩ := Option.map_eq_some_iff.1 hinfo
 simp only [Prod.mk.injEq] at hzz
 obtain ⟨hz0, hz1, hz2⟩ := hzz
 have hlen : n + 1 ≤ 140737488355328 := Nat.le_trans (Nat.le_mul_of_pos_right _ hb0) hl
 refine wpList_append_own_at (W.alloc (.cells ys.toArray e)) hgd s x t ho base e i0 z size bytes ht hi hz0 hz1 hz2 hz hs0 v n xs hs (HO.alloc _) ⟨W.heap.size, 0, none⟩ 1 1 ys hx (by rw [hys]; simp)
  (by simpa using World.news_of_block (cs := ys.toArray) (t := e) (fr := (0, 0)) (heap_alloc_new W (.cells ys.toArray e))) h1 (by simp only [maxLen]; omega) hl (by simp; omega) ?_
 intro v1 w1 hown hg _ hat
 refine h v1 w1 hown ((HB.alloc hbase _).grown hg (by simp; omega) (own_base HO)) (World.grownBy.trans (World.grownBy_alloc W _ _) hg) ?_
 rcases hat with hat | hat
 ·exact .inl hat
 ·exact .inr ⟨_, hat, by simp⟩
end
theorem own_ne {w : World} {base : Nat} {e t : TypeId} {size n g : Nat} {v : Value} {xs : List Value} {cs : Array Value} (h : w.ownsRow base e size v n xs) (hg : w.heap[g]? = some (.cells cs t (0, 0))) (hne : e ≠ t) : some g ≠ v.ownBlock := by
 rcases h.2 with ⟨rfl, _⟩ | ⟨g', cap, cur, rfl, _, hh, _⟩
 ·simp [Value.ownBlock]
 ·intro he
  have : g = g' := by simpa [Value.ownBlock] using he
  subst this
  rw [hg] at hh
  injection hh with hh
  injection hh with _ ht
  exact hne ht.symm
theorem blk_far {w : World} {g : Nat} {t : TypeId} {cs : Array Value} (h : w.heap[g]? = some (.cells cs t (0, 0))) {p : Addr} (hp : g ≠ p.block) (u : Value) : (w.setCell p u).heap[g]? = some (.cells cs t (0, 0)) := (Below.heap_setCell w p u g hp).trans h
theorem blk_lt {w : World} {g : Nat} {o : Obj} (h : w.heap[g]? = some o) : g < w.heap.size := (Array.getElem?_eq_some_iff.1 h).1
theorem blk_cell {w : World} {g : Nat} {t : TypeId} {cs : Array Value} (h : w.heap[g]? = some (.cells cs t (0, 0))) (i : Nat) : w.cell? ⟨g, i, none⟩ = cs[i]? := cell_of_row w g i cs t (0, 0) h
theorem blk_frozen {w : World} {g : Nat} {t : TypeId} {cs : Array Value} (h : w.heap[g]? = some (.cells cs t (0, 0))) (i : Nat) : w.frozen? ⟨g, i, none⟩ = false := by simp [World.frozen?, h]
def KeepBut (w w' : World) (g : Nat) (row : Option Nat) : Prop := w.heap.size ≤ w'.heap.size ∧ ∀ i, i < w.heap.size → i ≠ g → some i ≠ row → w'.heap[i]? = w.heap[i]?
theorem KeepBut.refl (w : World) (g : Nat) (row : Option Nat) : KeepBut w w g row := ⟨Nat.le_refl _, fun _ _ _ _ => rfl⟩
theorem KeepBut.of_below {w w1 : World} (h : Below w.heap.size w w1) (g : Nat) (row : Option Nat) : KeepBut w w1 g row := ⟨h.size, fun i hi _ _ => h.block i hi⟩
theorem KeepBut.trans {w w1 w2 : World} {g : Nat} {row row1 : Option Nat} (h : KeepBut w w1 g row) (k : KeepBut w1 w2 g row1) (hr : row1 = row ∨ ∃ b, row1 = some b ∧ w.heap.size ≤ b) : KeepBut w w2 g row :=
 ⟨Nat.le_trans h.1 k.1, fun i hi hg hn => by
  refine (k.2 i (Nat.lt_of_lt_of_le hi h.1) hg ?_).trans (h.2 i hi hg hn)
  rcases hr with rfl | ⟨b, rfl, hb⟩
  ·exact hn
  ·intro e
   injection e with e
   omega⟩
theorem KeepBut.blk {w w1 : World} {g g' : Nat} {row : Option Nat} {o : Obj} (h : KeepBut w w1 g row) (hb : w.heap[g']? = some o) (hg : g' ≠ g) (hr : some g' ≠ row) : w1.heap[g']? = some o := (h.2 g' (blk_lt hb) hg hr).trans hb
theorem KeepBut.own {w w1 : World} {g : Nat} {row : Option Nat} {base : Nat} {e : TypeId} {size n : Nat} {v : Value} {xs : List Value} (h : KeepBut w w1 g row) (ho : w.ownsRow base e size v n xs) (hg : v.ownBlock ≠ some g) (hr : v.ownBlock = none ∨ v.ownBlock ≠ row) : w1.ownsRow base e size v n xs := by
 obtain ⟨h1, h2⟩ := ho
 refine ⟨h1, ?_⟩
 rcases h2 with h2 | ⟨b, cap, cur, rfl, hb, hh, r⟩
 ·exact .inl h2
 ·refine .inr ⟨b, cap, cur, rfl, hb, h.blk hh ?_ ?_, r⟩
  ·intro e
   exact hg (by rw [← e]; rfl)
  ·rcases hr with hr | hr
   ·simp [Value.ownBlock] at hr
   ·exact hr
def Ev {α : Type} (g : Nat → Option α) (r : α) : Prop := ∃ K, ∀ k, K ≤ k → g k = some r
theorem Ev.of {α : Type} {g : Nat → Option α} {r : α} (hg : ∀ k, LeO (g k) (g (k + 1))) {k : Nat} (h : g k = some r) : Ev g r := ⟨k, fun _ hk => at_rounds hg hk h⟩
theorem Ev.now {α : Type} (r : α) : Ev (fun _ => some r) r := ⟨0, fun _ _ => rfl⟩
theorem Ev.bind {α β : Type} {g : Nat → Option α} {f : Nat → α → Option β} {a : α} {r : β} (h : Ev g a) (k : Ev (fun n => f n a) r) : Ev (fun n => (g n).bind (f n)) r := by
 obtain ⟨K, h⟩ := h
 obtain ⟨K', k⟩ := k
 refine ⟨max K K', fun n hn => ?_⟩
 have h1 := h n (by omega)
 have h2 := k n (by omega)
 simp only [h1, Option.bind_some]
 exact h2
theorem Ev.step {α : Type} {g f : Nat → Option α} {r : α} (h : ∀ k, g (k + 1) = f k) (k : Ev f r) : Ev g r := by
 obtain ⟨K, k⟩ := k
 refine ⟨K + 1, fun n hn => ?_⟩
 obtain ⟨m, rfl⟩ : ∃ m, n = m + 1 := ⟨n - 1, by omega⟩
 rw [h]
 exact k m (by omega)
theorem Ev.congr {α : Type} {g f : Nat → Option α} {r : α} (h : ∀ k, g k = f k) (k : Ev f r) : Ev g r := by
 obtain ⟨K, k⟩ := k
 exact ⟨K, fun n hn => (h n).trans (k n hn)⟩
section
variable {P : Program} {ops : Array Oper} {o : Oper} {a : Act} {Q : Exit → Act → World → Prop} {K : Act → World → Prop}
theorem step_append_cells {w0 W : World} (base : Nat) (hw : Region.wanted o (yielded ops a.tmps) = true) (s x : Operand) (t e : TypeId) (z : Value) (size bytes : Nat)
  (ho : o.op = .call { callee := .builtin .append, args := #[s, x], argTypes := #[t, t] })
  (ht : P.underlying t = some (.slice e)) (hinfo : (P.info? e).map (fun i => (i.zero, i.size, i.bytes)) = some (some z, size, bytes)) (hz : z.cells.size = size) (hs0 : 0 < size) (hb0 : 0 < bytes)
  (v : Value) (n : Nat) (xs ys : List Value) (hs : a.eval s = v) (hx : a.eval x = .slice (some ⟨W.heap.size, 0, none⟩) 1 1) (hys : ys.length = size) (h1 : ∀ u ∈ ys, u.oneCell' = true)
  (HO : W.ownsRow base e size v n xs) (HB : Below base w0 W) (hbase : base ≤ W.heap.size) (hl : (n + 1) * bytes ≤ 140737488355328)
  (h : ∀ v1 w1, w1.ownsRow base e size v1 (n + 1) (xs ++ ys) → Below base w0 w1 → W.grownBy w1 v.ownBlock → (v1.ownBlock = v.ownBlock ∨ ∃ b, v1.ownBlock = some b ∧ W.heap.size ≤ b) → K (a.put o.dst v1) w1) :
  if Region.wanted o (yielded ops a.tmps) = true then Oper.wp P o a (W.alloc (.cells ys.toArray e)) K Q else K (a.put o.dst undef) (W.alloc (.cells ys.toArray e)) := by
 obtain ⟨i0, hi, hzz⟩ := Option.map_eq_some_iff.1 hinfo
 simp only [Prod.mk.injEq] at hzz
 obtain ⟨hz0, hz1, hz2⟩ := hzz
 have hlen : n + 1 ≤ 140737488355328 := Nat.le_trans (Nat.le_mul_of_pos_right _ hb0) hl
 rw [if_pos hw]
 obtain ⟨v1, w1, hr, hown, hg, _, hat⟩ := run_append_own_at (P := P) (W.alloc (.cells ys.toArray e)) base t o.type e i0 z size bytes ht hi hz0 hz1 hz2 hz hs0 v n xs (HO.alloc _) ⟨W.heap.size, 0, none⟩ 1 1 ys (by rw [hys]; simp)
  (by simpa using World.news_of_block (cs := ys.toArray) (t := e) (fr := (0, 0)) (heap_alloc_new W (.cells ys.toArray e))) h1 (by simp only [maxLen]; omega) hl (by simp; omega)
 unfold Oper.wp execOp
 simp only [ho, resolve, invoke, builtin, Sem.run_bind, Sem.run_pure, Result.andThen_ok, List.map_toArray, List.map_cons, List.map_nil, hs, hx, hr]
 refine h v1 w1 hown ((HB.alloc hbase _).grown hg (by simp; omega) (own_base HO)) (World.grownBy.trans (World.grownBy_alloc W _ _) hg) ?_
 rcases hat with hat | hat
 ·exact .inl hat
 ·exact .inr ⟨_, hat, by simp⟩
end
theorem own_weaken {w : World} {base base' : Nat} {e : TypeId} {size n : Nat} {v : Value} {xs : List Value} (h : w.ownsRow base e size v n xs) (hb : base' ≤ base) : w.ownsRow base' e size v n xs := by
 obtain ⟨h1, h2⟩ := h
 refine ⟨h1, ?_⟩
 rcases h2 with h2 | ⟨g, cap, cur, rfl, hg, r⟩
 ·exact .inl h2
 ·exact .inr ⟨g, cap, cur, rfl, Nat.le_trans hb hg, r⟩
section
variable {α : Type} {enc : α → Value} {d : α}
def encs (enc : α → Value) (xs : List α) : List Value := xs.map enc
def rdOf (d : α) (xs : List α) (i : Int) : α := xs.getD i.toNat d
theorem encs_length (xs : List α) : (encs enc xs).length = xs.length := by simp [encs]
theorem encs_get (xs : List α) (j : Nat) (h : j < xs.length) : (encs enc xs)[j]? = some (enc (xs.getD j d)) := by
 simp [encs, List.getElem?_eq_getElem h, List.getD_eq_getElem?_getD]
def ReadsOf (enc : α → Value) (d : α) (w : World) (A : Option Addr) (n : Nat) (xs : List α) : Prop :=
 xs.length = n ∧ n ≤ 9223372036854775807 ∧ (0 < n → ∃ ad, A = some ad ∧ ∀ j, j < n → w.cell? (ad.add j) = some (enc (xs.getD j d)))
theorem ReadsOf.at_ {w : World} {A : Option Addr} {n : Nat} {xs : List α} (h : ReadsOf enc d w A n xs) (i : Int) (h0 : 0 ≤ i) (h1 : i < n) : ∃ ad, A = some ad ∧ w.cell? (ad.add i.toNat) = some (enc (rdOf d xs i)) := by
 obtain ⟨ad, e, hc⟩ := h.2.2 (by omega)
 exact ⟨ad, e, hc _ (by omega)⟩
theorem ReadsOf.below {w w1 : World} {A : Option Addr} {n : Nat} {xs : List α} (h : ReadsOf enc d w A n xs) (hb : Below w.heap.size w w1) : ReadsOf enc d w1 A n xs :=
 ⟨h.1, h.2.1, fun hn => by
  obtain ⟨ad, e, hc⟩ := h.2.2 hn
  exact ⟨ad, e, fun j hj => pw_cell_below hb (hc j hj)⟩⟩
theorem ReadsOf.take_ {w : World} {A : Option Addr} {n : Nat} {xs : List α} (h : ReadsOf enc d w A n xs) (i : Nat) (hi : i ≤ n) : ReadsOf enc d w A i (xs.take i) := by
 refine ⟨by rw [List.length_take, h.1]; omega, by have := h.2.1; omega, fun hp => ?_⟩
 obtain ⟨ad, e, hc⟩ := h.2.2 (by omega)
 refine ⟨ad, e, fun j hj => ?_⟩
 rw [hc j (by omega)]
 simp [List.getD_eq_getElem?_getD, hj]
theorem ReadsOf.drop_ {w : World} {A : Option Addr} {n c : Nat} {xs : List α} (h : ReadsOf enc d w A n xs) (i : Nat) (hi : i ≤ n) (hc : n ≤ c) : ReadsOf enc d w (if c = i then A else A.map (·.add i)) (n - i) (xs.drop i) := by
 refine ⟨by rw [List.length_drop, h.1], by have := h.2.1; omega, fun hp => ?_⟩
 obtain ⟨ad, rfl, hcell⟩ := h.2.2 (by omega)
 rw [if_neg (by omega)]
 refine ⟨ad.add i, rfl, fun j hj => ?_⟩
 have ha : (ad.add i).add j = ad.add (i + j) := by
  unfold Addr.add
  by_cases h1 : i = 0 <;> by_cases h2 : j = 0 <;> simp [h1, h2, Nat.add_assoc]
 rw [ha, hcell (i + j) (by omega)]
 simp [List.getD_eq_getElem?_getD, List.getElem?_drop]
theorem print_cut_of {P : Program} (enc : α → Value) (d : α) (t e : TypeId) (kl : IntKind) {i : TypeInfo} (ht : P.underlying t = some (.slice e)) (hi : P.info? e = some i) (hsz : i.size = 1) (A : Option Addr) (n c m : Nat) (hm : m ≤ n) :
  ∃ A' : Option Addr, (∀ W : World, (Instr.slice t (.slice A n c) (some (.int kl (m : Int))) none none).run P W = .ok (.slice A' (n - m) (c - m)) W) ∧
    ∀ (w : World) (xs : List α), n ≤ c → ReadsOf enc d w A n xs → ReadsOf enc d w A' (n - m) (xs.drop m) := by
 refine ⟨if c = m then A else A.map (·.add m), fun W => ?_, fun w xs hc h => h.drop_ m hm hc⟩
 have hel : P.elem t = e := by simp [Program.elem, ht]
 have hu : P.underlying t = some (.slice (P.elem t)) := by rw [hel]; exact ht
 rw [run_slice_l W t A n c hu kl (m : Int) (Int.natCast_nonneg _) (by omega), hel]
 simp [sizeOf, typeInfo, hi, hsz, sliced, Result.andThen]
theorem own_at_of {W : World} {base g n cap : Nat} {e : TypeId} {xs : List α} (h : W.ownsRow base e 1 (.slice (some ⟨g, 0, none⟩) n cap) n (encs enc xs)) (i : Int) (h0 : 0 ≤ i) (h1 : i < n) :
  W.cell? ⟨g, i.toNat, none⟩ = some (enc (rdOf d xs i)) ∧ W.frozen? ⟨g, i.toNat, none⟩ = false := by
 have hl : xs.length = n := by have := h.1; simp [encs] at this; exact this
 constructor
 ·have hc := h.cells (g := g) rfl i.toNat _ (encs_get (d := d) xs i.toNat (by omega))
  rwa [add_plain] at hc
 ·rcases h.2 with ⟨h', _⟩ | ⟨g', cap', cur, h', _, hh, _⟩
  ·cases h'
  ·have : g = g' := by injection h' with h'; injection h' with h'; injection h' with h'
   subst this
   simp [World.frozen?, hh]
theorem own_store_of {W : World} {base g n cap : Nat} {e : TypeId} {xs : List α} (h : W.ownsRow base e 1 (.slice (some ⟨g, 0, none⟩) n cap) n (encs enc xs)) (i : Int) (x : α) :
  (W.setCell ⟨g, i.toNat, none⟩ (enc x)).ownsRow base e 1 (.slice (some ⟨g, 0, none⟩) n cap) n (encs enc (xs.set i.toNat x)) ∧ W.grownBy (W.setCell ⟨g, i.toNat, none⟩ (enc x)) (some g) := by
 have hs := h.stored i.toNat (enc x)
 have he : (encs enc xs).set i.toNat (enc x) = encs enc (xs.set i.toNat x) := by simp [encs, List.map_set]
 rwa [he] at hs
end
theorem own_le {w : World} {base n m c size : Nat} {e : TypeId} {A : Option Addr} {xs : List Value} (h : w.ownsRow base e size (.slice A m c) n xs) : m ≤ c := by
 rcases h.2 with ⟨he, _⟩ | ⟨g, cap, cur, he, _, _, hnc, _⟩
 ·injection he with _ h2 h3
  omega
 ·injection he with _ h2 h3
  omega
def OwnRow {α : Type} (R : α → List Value → Prop) (e : TypeId) (size : Nat) (w : World) (base : Nat) (v : Value) (ps : List α) : Prop :=
 ∃ inner, w.ownsRow base e size v ps.length inner ∧ Reps R size ps inner
section
variable {α : Type} {R R' : α → List Value → Prop} {e : TypeId} {size : Nat} {w w1 : World} {base : Nat} {v : Value} {ps : List α}
theorem OwnRow.none_ (R : α → List Value → Prop) (e : TypeId) (size : Nat) (w : World) (base : Nat) : OwnRow R e size w base (.slice none 0 0) [] := ⟨[], own_nil _ _ _ _, Reps.none _ _⟩
theorem OwnRow.imp_ (h : OwnRow R e size w base v ps) (hR : ∀ p c, R p c → R' p c) : OwnRow R' e size w base v ps := by
 obtain ⟨inner, ho, hr⟩ := h
 exact ⟨inner, ho, hr.imp_ hR⟩
theorem OwnRow.below (h : OwnRow R e size w base v ps) (hb : Below w.heap.size w w1) : OwnRow R e size w1 base v ps := by
 obtain ⟨inner, ho, hr⟩ := h
 exact ⟨inner, pw_own_below ho hb, hr⟩
theorem OwnRow.keep (h : OwnRow R e size w base v ps) {g : Nat} {t : TypeId} {cells : Array Value} (hb : w.heap[g]? = some (.cells cells t (0, 0))) (ht : e ≠ t) (hk : KeepBut w w1 g none) : OwnRow R e size w1 base v ps := by
 obtain ⟨inner, ho, hr⟩ := h
 exact ⟨inner, hk.own ho (Ne.symm (own_ne ho hb ht)) (by cases v.ownBlock <;> simp), hr⟩
theorem OwnRow.reads (h : OwnRow R e size w base v ps) : ∃ A c, v = .slice A ps.length c ∧ ps.length ≤ c ∧ ReadsRow R size w A ps.length ps := by
 obtain ⟨inner, ho, hr⟩ := h
 obtain ⟨A, c, rfl, hrow⟩ := own_reads_row ho hr rfl
 exact ⟨A, c, rfl, own_le ho, hrow⟩
theorem OwnRow.ne_block (h : OwnRow R e size w base v ps) {g : Nat} {t : TypeId} {cells : Array Value} (hb : w.heap[g]? = some (.cells cells t (0, 0))) (ht : e ≠ t) : some g ≠ v.ownBlock := by
 obtain ⟨inner, ho, hr⟩ := h
 exact own_ne ho hb ht
end
section
variable {P : Program} {ops : Array Oper} {rest : List Oper} {o : Oper} {a : Act} {Q : Exit → Act → World → Prop} {α : Type} {R : α → List Value → Prop}
theorem OwnRow.append {w0 W : World} (base : Nat) (hgd : o.guard = none) (s x : Operand) (t e : TypeId) (z : Value) (size bytes : Nat)
  (ho : o.op = .call { callee := .builtin .append, args := #[s, x], argTypes := #[t, t] })
  (ht : P.underlying t = some (.slice e)) (hinfo : (P.info? e).map (fun i => (i.zero, i.size, i.bytes)) = some (some z, size, bytes)) (hz : z.cells.size = size) (hs0 : 0 < size) (hb0 : 0 < bytes)
  (v : Value) (ps : List α) (p : α) (cs : List Value) (hs : a.eval s = v) (hx : a.eval x = .slice (some ⟨W.heap.size, 0, none⟩) 1 1) (hp : R p cs) (hcs : cs.length = size) (h1 : ∀ u ∈ cs, u.oneCell' = true)
  (HO : OwnRow R e size W base v ps) (HB : Below base w0 W) (hbase : base ≤ W.heap.size) (hl : (ps.length + 1) * bytes ≤ 140737488355328)
  (h : ∀ v1 w1, OwnRow R e size w1 base v1 (ps ++ [p]) → Below base w0 w1 → W.grownBy w1 v.ownBlock → (v1.ownBlock = v.ownBlock ∨ ∃ b, v1.ownBlock = some b ∧ W.heap.size ≤ b) → wpList P ops Q rest (a.put o.dst v1) w1) :
  wpList P ops Q (o :: rest) a (W.alloc (.cells cs.toArray e)) := by
 obtain ⟨inner, hown, hr⟩ := HO
 refine print_append_cells base hgd s x t e z size bytes ho ht hinfo hz hs0 hb0 v ps.length inner cs hs hx hcs h1 hown HB hbase hl ?_
 intro v1 w1 hown1 hb1 hg1 hat1
 exact h v1 w1 ⟨inner ++ cs, by rw [List.length_append, List.length_singleton]; exact hown1, hr.snoc hp hcs⟩ hb1 hg1 hat1
end
theorem ReadsRow.inner_ {α : Type} {R : α → List Value → Prop} {size : Nat} {w : World} {ad : Addr} {n : Nat} {ps : List α} (h : ReadsRow R size w (some ad) n ps) :
  ∃ inner, Reps R size ps inner ∧ ∀ j u, inner[j]? = some u → w.cell? (ad.add j) = some u := by
 have key : ∀ m, m ≤ ps.length → ∃ inner, Reps R size (ps.take m) inner ∧ ∀ j u, inner[j]? = some u → w.cell? (ad.add j) = some u := by
  intro m
  induction m with
  | zero => exact fun _ => ⟨[], Reps.none _ _, fun j u hu => by simp at hu⟩
  | succ m ih =>
    intro hm
    obtain ⟨inner, hr, hc⟩ := ih (by omega)
    obtain ⟨ad', he, hcell⟩ := h.2.2 (by have := h.1; omega)
    injection he with he
    subst he
    obtain ⟨c, hcl, hp, hcc⟩ := hcell m _ (List.getElem?_eq_getElem (show m < ps.length by omega))
    refine ⟨inner ++ c, ?_, fun j u hu => ?_⟩
    ·rw [List.take_succ_eq_append_getElem (show m < ps.length by omega)]
     exact hr.snoc hp hcl
    ·have hil : inner.length = m * size := by rw [hr.1, List.length_take, Nat.min_eq_left (by omega)]
     rcases Nat.lt_or_ge j inner.length with hj | hj
     ·rw [List.getElem?_append_left hj] at hu
      exact hc j u hu
     ·rw [List.getElem?_append_right hj] at hu
      have := hcc (j - inner.length) u hu
      rwa [hil, Nat.add_sub_cancel' (by omega)] at this
 obtain ⟨inner, hr, hc⟩ := key ps.length (Nat.le_refl _)
 rw [List.take_length] at hr
 exact ⟨inner, hr, hc⟩
section
variable {α : Type} {P : Program}
theorem print_take_of (enc : α → Value) (d : α) (t e : TypeId) (kl : IntKind) {i : TypeInfo} (ht : P.underlying t = some (.slice e)) (hi : P.info? e = some i) (hsz : i.size = 1) (A : Option Addr) (c : Nat) (xs : List α) (j : Int) (h0 : 0 ≤ j) (hm : j ≤ xs.length) (hc : xs.length ≤ c) :
  (∀ W : World, (Instr.slice t (.slice A xs.length c) none (some (.int kl j)) none).run P W = .ok (.slice A (xs.take j.toNat).length c) W) ∧
   (∀ w : World, ReadsOf enc d w A xs.length xs → ReadsOf enc d w A (xs.take j.toNat).length (xs.take j.toNat)) ∧ (xs.take j.toNat).length ≤ c := by
 have hl : (xs.take j.toNat).length = j.toNat := by rw [List.length_take]; omega
 refine ⟨fun W => ?_, fun w h => by rw [hl]; exact h.take_ j.toNat (by omega), by rw [hl]; omega⟩
 have hel : P.elem t = e := by simp [Program.elem, ht]
 have hu : P.underlying t = some (.slice (P.elem t)) := by rw [hel]; exact ht
 have ha : (A.map fun x => x.add 0) = A := by cases A <;> simp [Addr.add]
 rw [run_slice_h W t A xs.length c hu kl j h0 (by omega), hel, hl]
 simp [sizeOf, typeInfo, hi, hsz, sliced, Result.andThen, ha]
theorem print_drop_of (enc : α → Value) (d : α) (t e : TypeId) (kl : IntKind) {i : TypeInfo} (ht : P.underlying t = some (.slice e)) (hi : P.info? e = some i) (hsz : i.size = 1) (A : Option Addr) (c : Nat) (xs : List α) (j : Int) (h0 : 0 ≤ j) (hm : j ≤ xs.length) (hc : xs.length ≤ c) :
  ∃ A' : Option Addr, (∀ W : World, (Instr.slice t (.slice A xs.length c) (some (.int kl j)) none none).run P W = .ok (.slice A' (xs.drop j.toNat).length (c - j.toNat)) W) ∧
    (∀ w : World, ReadsOf enc d w A xs.length xs → ReadsOf enc d w A' (xs.drop j.toNat).length (xs.drop j.toNat)) ∧ (xs.drop j.toNat).length ≤ c - j.toNat := by
 obtain ⟨m, rfl⟩ := Int.eq_ofNat_of_zero_le h0
 simp only [Int.toNat_natCast]
 have hmn : m ≤ xs.length := by omega
 obtain ⟨A', h1, h2⟩ := print_cut_of (P := P) enc d t e kl ht hi hsz A xs.length c m hmn
 have hl : (xs.drop m).length = xs.length - m := List.length_drop
 exact ⟨A', fun W => by rw [hl]; exact h1 W, fun w h => by rw [hl]; exact h2 w xs hc h, by rw [hl]; omega⟩
end
structure Kd (α : Type) where
 sz : Nat
 E : List Nat
 K : World → α → List Value → Prop
 M : World → Nat → (Nat → Prop) → α → List Value → Prop
 K_len : ∀ {w x cs}, K w x cs → cs.length = sz
 K_one : ∀ {w x cs}, K w x cs → ∀ u ∈ cs, u.oneCell' = true
 K_below : ∀ {w w1 : World} {x cs}, Below w.heap.size w w1 → K w x cs → K w1 x cs
 K_of_M : ∀ {w base ok x cs}, M w base ok x cs → K w x cs
 M_mono : ∀ {w base ok ok' x cs}, (∀ k, ok k → ok' k) → M w base ok x cs → M w base ok' x cs
 M_bound : ∀ {w : World} {base ok x cs}, M w base ok x cs → M w base (fun k => ok k ∧ base ≤ k ∧ k < w.heap.size ∧ ∃ q, q ∈ E ∧ ∃ cells, w.heap[k]? = some (.cells cells q (0, 0))) x cs
 M_move : ∀ {w w1 : World} {base ok x cs}, (∀ k, ok k → w1.heap[k]? = w.heap[k]?) → M w base ok x cs → M w1 base ok x cs
 M_lower : ∀ {w base base' ok x cs}, base' ≤ base → M w base ok x cs → M w base' ok x cs
theorem own_move {w w1 : World} {base : Nat} {e : TypeId} {size n : Nat} {v : Value} {xs : List Value} (h : w.ownsRow base e size v n xs) (hm : ∀ k, v.ownBlock = some k → w1.heap[k]? = w.heap[k]?) : w1.ownsRow base e size v n xs := by
 obtain ⟨h1, h2⟩ := h
 refine ⟨h1, ?_⟩
 rcases h2 with h2 | ⟨g, cap, cur, rfl, hg, hh, r⟩
 ·exact .inl h2
 ·exact .inr ⟨g, cap, cur, rfl, hg, (hm g (by simp [Value.ownBlock])).trans hh, r⟩
theorem own_typed {w : World} {base : Nat} {e : TypeId} {size n : Nat} {v : Value} {xs : List Value} (h : w.ownsRow base e size v n xs) (k : Nat) (hk : v.ownBlock = some k) : ∃ cells, w.heap[k]? = some (.cells cells e (0, 0)) := by
 rcases h.2 with ⟨rfl, _⟩ | ⟨g, cap, cur, rfl, hg, hh, r⟩
 ·simp [Value.ownBlock] at hk
 ·have : g = k := by simpa [Value.ownBlock] using hk
  subst this
  exact ⟨cur, hh⟩
namespace Kd
def C {α : Type} (d : Kd α) (w : World) (A : Option Addr) (n : Nat) (xs : List α) : Prop := ReadsRow (d.K w) d.sz w A n xs
def R {α : Type} (d : Kd α) (e : Nat) (w : World) (base : Nat) (ok : Nat → Prop) (v : Value) (xs : List α) : Prop :=
 (∀ k, v.ownBlock = some k → ok k) ∧ OwnRow (d.M w base (fun k => ok k ∧ some k ≠ v.ownBlock)) e d.sz w base v xs
section
variable {α : Type} {d : Kd α} {e : Nat} {w w1 : World} {base : Nat} {ok ok' : Nat → Prop} {v : Value} {xs : List α}
theorem C_below {A : Option Addr} {n : Nat} (h : d.C w A n xs) (hb : Below w.heap.size w w1) : d.C w1 A n xs := ReadsRow.imp_ h hb (fun _ _ hp => d.K_below hb hp)
theorem R_nil (d : Kd α) (e : Nat) (w : World) (base : Nat) (ok : Nat → Prop) : d.R e w base ok (.slice none 0 0) [] := ⟨fun k hk => by simp [Value.ownBlock] at hk, OwnRow.none_ _ _ _ _ _⟩
theorem R_mono (h : d.R e w base ok v xs) (hok : ∀ k, ok k → ok' k) : d.R e w base ok' v xs := ⟨fun k hk => hok k (h.1 k hk), h.2.imp_ (fun _ _ hp => d.M_mono (fun k hk => ⟨hok k hk.1, hk.2⟩) hp)⟩
theorem R_bound (h : d.R e w base ok v xs) : d.R e w base (fun k => ok k ∧ base ≤ k ∧ k < w.heap.size ∧ ∃ q, q ∈ e :: d.E ∧ ∃ cells, w.heap[k]? = some (.cells cells q (0, 0))) v xs := by
 obtain ⟨h0, inner, ho, hr⟩ := h
 refine ⟨fun k hk => ?_, inner, ho, hr.imp_ (fun _ _ hp => d.M_mono (fun k hk => ?_) (d.M_bound hp))⟩
 ·obtain ⟨cells, hc⟩ := own_typed ho k hk
  exact ⟨h0 k hk, own_base ho k hk, own_lt ho k hk, e, List.mem_cons_self, cells, hc⟩
 ·obtain ⟨⟨h1, h2⟩, h3, h4, q, hq, hc⟩ := hk
  exact ⟨⟨h1, h3, h4, q, List.mem_cons_of_mem _ hq, hc⟩, h2⟩
theorem R_move (h : d.R e w base ok v xs) (hm : ∀ k, ok k → w1.heap[k]? = w.heap[k]?) : d.R e w1 base ok v xs := by
 obtain ⟨h0, inner, ho, hr⟩ := h
 exact ⟨h0, inner, own_move ho (fun k hk => hm k (h0 k hk)), hr.imp_ (fun _ _ hp => d.M_move (fun k hk => hm k hk.1) hp)⟩
theorem R_lower {base' : Nat} (h : d.R e w base ok v xs) (hb : base' ≤ base) : d.R e w base' ok v xs := by
 obtain ⟨h0, inner, ho, hr⟩ := h
 exact ⟨h0, inner, own_weaken ho hb, hr.imp_ (fun _ _ hp => d.M_lower hb hp)⟩
theorem R_step (h : d.R e w base ok v xs) (hm : ∀ k, ok k → k < w.heap.size → w1.heap[k]? = w.heap[k]?) : d.R e w1 base ok v xs :=
 R_mono (R_move (R_bound h) (fun k hk => hm k hk.1 hk.2.2.1)) (fun _ hk => hk.1)
theorem M_step {x : α} {cs : List Value} (h : d.M w base ok x cs) (hm : ∀ k, ok k → k < w.heap.size → w1.heap[k]? = w.heap[k]?) : d.M w1 base ok x cs :=
 d.M_mono (fun _ hk => hk.1) (d.M_move (fun k hk => hm k hk.1 hk.2.2.1) (d.M_bound h))
theorem R_below (h : d.R e w base ok v xs) (hb : Below w.heap.size w w1) : d.R e w1 base ok v xs := R_step h (fun k _ hk => hb.block k hk)
theorem M_below {x : α} {cs : List Value} (h : d.M w base ok x cs) (hb : Below w.heap.size w w1) : d.M w1 base ok x cs := M_step h (fun k _ hk => hb.block k hk)
theorem R_grown (h : d.R e w base ok v xs) {row : Option Nat} (hg : w.grownBy w1 row) (hok : ∀ k, ok k → some k ≠ row) : d.R e w1 base ok v xs := R_step h (fun k ho hk => hg.block k hk (hok k ho))
theorem R_far (h : d.R e w base ok v xs) {p : Addr} (hok : ∀ k, ok k → k ≠ p.block) (u : Value) : d.R e (w.setCell p u) base ok v xs := R_step h (fun k ho _ => Below.heap_setCell w p u k (hok k ho))
theorem R_reads (h : d.R e w base ok v xs) : ∃ A c, v = .slice A xs.length c ∧ xs.length ≤ c ∧ d.C w A xs.length xs := by
 obtain ⟨A, c, he, hl, hr⟩ := OwnRow.reads h.2
 exact ⟨A, c, he, hl, hr.imp_ (Below.refl _ _) (fun _ _ hp => d.K_of_M hp)⟩
theorem R_slice (h : d.R e w base ok v xs) : ∃ A c, v = .slice A xs.length c := by
 obtain ⟨A, c, he, _⟩ := R_reads h
 exact ⟨A, c, he⟩
theorem R_own (h : d.R e w base ok v xs) : ∃ inner, w.ownsRow base e d.sz v xs.length inner := by
 obtain ⟨_, inner, ho, _⟩ := h
 exact ⟨inner, ho⟩
theorem R_ne (h : d.R e w base ok v xs) {g t : Nat} {cells : Array Value} (hb : w.heap[g]? = some (.cells cells t (0, 0))) (ht : e ≠ t) : some g ≠ v.ownBlock := OwnRow.ne_block h.2 hb ht
end
def scalar {α : Type} (enc : α → Value) (h1 : ∀ x, (enc x).oneCell' = true) : Kd α where
 sz := 1
 E := []
 K := fun _ x cs => cs = [enc x]
 M := fun _ _ _ x cs => cs = [enc x]
 K_len := fun h => by rw [h]; rfl
 K_one := fun h u hu => by
  rw [h] at hu
  rw [List.mem_singleton.1 hu]
  exact h1 _
 K_below := fun _ h => h
 K_of_M := fun h => h
 M_mono := fun _ h => h
 M_bound := fun h => h
 M_move := fun _ h => h
 M_lower := fun _ h => h
def int (k : IntKind) : Kd Int := scalar (Value.int k) (fun _ => rfl)
def bool : Kd Bool := scalar Value.bool (fun _ => rfl)
def slice {α : Type} (e : Nat) (d : Kd α) : Kd (List α) where
 sz := 1
 E := e :: d.E
 K := fun w xs cs => ∃ A c, cs = [.slice A xs.length c] ∧ xs.length ≤ c ∧ d.C w A xs.length xs
 M := fun w base ok xs cs => ∃ v, cs = [v] ∧ d.R e w base ok v xs
 K_len := by
  rintro w x cs ⟨A, c, rfl, _⟩
  rfl
 K_one := by
  rintro w x cs ⟨A, c, rfl, _⟩ u hu
  rw [List.mem_singleton.1 hu]
  rfl
 K_below := by
  rintro w w1 x cs hb ⟨A, c, rfl, hl, hr⟩
  exact ⟨A, c, rfl, hl, C_below hr hb⟩
 K_of_M := by
  rintro w base ok x cs ⟨v, rfl, h⟩
  obtain ⟨A, c, rfl, hl, hr⟩ := R_reads h
  exact ⟨A, c, rfl, hl, hr⟩
 M_mono := by
  rintro w base ok ok' x cs hok ⟨v, rfl, h⟩
  exact ⟨v, rfl, R_mono h hok⟩
 M_bound := by
  rintro w base ok x cs ⟨v, rfl, h⟩
  exact ⟨v, rfl, R_bound h⟩
 M_move := by
  rintro w w1 base ok x cs hm ⟨v, rfl, h⟩
  exact ⟨v, rfl, R_move h hm⟩
 M_lower := by
  rintro w base base' ok x cs hb ⟨v, rfl, h⟩
  exact ⟨v, rfl, R_lower h hb⟩
def pair {α β : Type} (a : Kd α) (b : Kd β) : Kd (α × β) where
 sz := a.sz + b.sz
 E := a.E ++ b.E
 K := fun w x cs => ∃ c0 c1, cs = c0 ++ c1 ∧ a.K w x.1 c0 ∧ b.K w x.2 c1
 M := fun w base ok x cs => ∃ c0 c1, cs = c0 ++ c1 ∧ a.M w base ok x.1 c0 ∧ b.M w base ok x.2 c1
 K_len := by
  rintro w x cs ⟨c0, c1, rfl, h0, h1⟩
  rw [List.length_append, a.K_len h0, b.K_len h1]
 K_one := by
  rintro w x cs ⟨c0, c1, rfl, h0, h1⟩ u hu
  rcases List.mem_append.1 hu with hu | hu
  ·exact a.K_one h0 u hu
  ·exact b.K_one h1 u hu
 K_below := by
  rintro w w1 x cs hb ⟨c0, c1, rfl, h0, h1⟩
  exact ⟨c0, c1, rfl, a.K_below hb h0, b.K_below hb h1⟩
 K_of_M := by
  rintro w base ok x cs ⟨c0, c1, rfl, h0, h1⟩
  exact ⟨c0, c1, rfl, a.K_of_M h0, b.K_of_M h1⟩
 M_mono := by
  rintro w base ok ok' x cs hok ⟨c0, c1, rfl, h0, h1⟩
  exact ⟨c0, c1, rfl, a.M_mono hok h0, b.M_mono hok h1⟩
 M_bound := by
  rintro w base ok x cs ⟨c0, c1, rfl, h0, h1⟩
  refine ⟨c0, c1, rfl, a.M_mono ?_ (a.M_bound h0), b.M_mono ?_ (b.M_bound h1)⟩
  ·rintro k ⟨h2, h3, h4, q, hq, hc⟩
   exact ⟨h2, h3, h4, q, List.mem_append_left _ hq, hc⟩
  ·rintro k ⟨h2, h3, h4, q, hq, hc⟩
   exact ⟨h2, h3, h4, q, List.mem_append_right _ hq, hc⟩
 M_move := by
  rintro w w1 base ok x cs hm ⟨c0, c1, rfl, h0, h1⟩
  exact ⟨c0, c1, rfl, a.M_move hm h0, b.M_move hm h1⟩
 M_lower := by
  rintro w base base' ok x cs hb ⟨c0, c1, rfl, h0, h1⟩
  exact ⟨c0, c1, rfl, a.M_lower hb h0, b.M_lower hb h1⟩
def bot {α : Type} (sz : Nat) (E : List Nat) : Kd α where
 sz := sz
 E := E
 K := fun _ _ _ => False
 M := fun _ _ _ _ _ => False
 K_len := fun h => h.elim
 K_one := fun h => h.elim
 K_below := fun _ h => h
 K_of_M := fun h => h
 M_mono := fun _ h => h
 M_bound := fun h => h
 M_move := fun _ h => h
 M_lower := fun _ h => h
def upto {α : Type} (F : Kd α → Kd α) (sz : Nat) (E : List Nat) : Nat → Kd α
 | 0 => bot sz E
 | n + 1 => F (upto F sz E n)
theorem C_get {α : Type} {d : Kd α} {w : World} {A : Option Addr} {n : Nat} {xs : List α} (h : d.C w A n xs) (z : α) (i : Int) (h0 : 0 ≤ i) (h1 : i < n) :
  ∃ ad c, A = some ad ∧ c.length = d.sz ∧ d.K w (xs.getD i.toNat z) c ∧ ∀ j u, c[j]? = some u → w.cell? (ad.add (i.toNat * d.sz + j)) = some u := ReadsRow.get_ h z i h0 h1
theorem R_appended {α : Type} {d : Kd α} {e base : Nat} {ok okp : Nat → Prop} {W w1 : World} {v v1 : Value} {xs : List α} {p : α} {inner cs : List Value} (h0 : ∀ k, v.ownBlock = some k → ok k) (hr : Reps (d.M W base (fun k => ok k ∧ some k ≠ v.ownBlock)) d.sz xs inner) (hp : d.M W base okp p cs) (hokp : ∀ k, okp k → ok k ∧ some k ≠ v.ownBlock) (hfresh : ∀ k, W.heap.size ≤ k → ok k)
  (hown : w1.ownsRow base e d.sz v1 (xs.length + 1) (inner ++ cs)) (hg : W.grownBy w1 v.ownBlock) (hat : v1.ownBlock = v.ownBlock ∨ ∃ b, v1.ownBlock = some b ∧ W.heap.size ≤ b) : d.R e w1 base ok v1 (xs ++ [p]) := by
 have hne : ∀ k, some k ≠ v.ownBlock → k < W.heap.size → some k ≠ v1.ownBlock := by
  intro k hk hlt
  rcases hat with hat | ⟨b, hb, hle⟩
  ·rw [hat]; exact hk
  ·rw [hb]
   intro he
   injection he with he
   omega
 have step : ∀ {q : α} {c : List Value} {o : Nat → Prop}, d.M W base o q c → (∀ k, o k → ok k ∧ some k ≠ v.ownBlock) → d.M w1 base (fun k => ok k ∧ some k ≠ v1.ownBlock) q c := by
  intro q c o hq ho
  have h1 := d.M_move (w1 := w1) (fun k hk => hg.block k hk.2.2.1 (ho k hk.1).2) (d.M_bound hq)
  exact d.M_mono (fun k hk => ⟨(ho k hk.1).1, hne k (ho k hk.1).2 hk.2.2.1⟩) h1
 refine ⟨fun k hk => ?_, inner ++ cs, by rw [List.length_append, List.length_singleton]; exact hown, ?_⟩
 ·rcases hat with hat | ⟨b, hb, hle⟩
  ·exact h0 k (hat ▸ hk)
  ·rw [hb] at hk
   injection hk with hk
   exact hfresh k (by omega)
 ·exact (hr.imp_ (fun _ _ hq => step hq (fun _ hk => hk))).snoc (step hp hokp) (d.K_len (d.K_of_M hp))
section
variable {P : Program} {ops : Array Oper} {rest : List Oper} {o : Oper} {a : Act} {Q : Exit → Act → World → Prop} {α : Type}
theorem R_append (d : Kd α) {w0 W : World} (base : Nat) (hgd : o.guard = none) (s x : Operand) (t e : TypeId) (z : Value) (bytes : Nat)
  (ho : o.op = .call { callee := .builtin .append, args := #[s, x], argTypes := #[t, t] })
  (ht : P.underlying t = some (.slice e)) (hinfo : (P.info? e).map (fun i => (i.zero, i.size, i.bytes)) = some (some z, d.sz, bytes)) (hz : z.cells.size = d.sz) (hs0 : 0 < d.sz) (hb0 : 0 < bytes)
  (v : Value) (xs : List α) (p : α) (cs : List Value) (ok okp : Nat → Prop) (hs : a.eval s = v) (hx : a.eval x = .slice (some ⟨W.heap.size, 0, none⟩) 1 1) (hp : d.M W base okp p cs) (hokp : ∀ k, okp k → ok k ∧ some k ≠ v.ownBlock) (hfresh : ∀ k, W.heap.size ≤ k → ok k)
  (HO : d.R e W base ok v xs) (HB : Below base w0 W) (hbase : base ≤ W.heap.size) (hl : (xs.length + 1) * bytes ≤ 140737488355328)
  (h : ∀ v1 w1, d.R e w1 base ok v1 (xs ++ [p]) → Below base w0 w1 → W.grownBy w1 v.ownBlock → (v1.ownBlock = v.ownBlock ∨ ∃ b, v1.ownBlock = some b ∧ W.heap.size ≤ b) → wpList P ops Q rest (a.put o.dst v1) w1) :
  wpList P ops Q (o :: rest) a (W.alloc (.cells cs.toArray e)) := by
 obtain ⟨h0, inner, hown, hr⟩ := HO
 refine print_append_cells base hgd s x t e z d.sz bytes ho ht hinfo hz hs0 hb0 v xs.length inner cs hs hx (d.K_len (d.K_of_M hp)) (d.K_one (d.K_of_M hp)) hown HB hbase hl ?_
 intro v1 w1 hown1 hb1 hg1 hat1
 exact h v1 w1 (R_appended h0 hr hp hokp hfresh hown1 hg1 hat1) hb1 hg1 hat1
end
section
variable {P : Program} {ops : Array Oper} {o : Oper} {a : Act} {Q : Exit → Act → World → Prop} {Kc : Act → World → Prop} {α : Type}
theorem R_append_step (d : Kd α) {w0 W : World} (base : Nat) (hw : Region.wanted o (yielded ops a.tmps) = true) (s x : Operand) (t e : TypeId) (z : Value) (bytes : Nat)
  (ho : o.op = .call { callee := .builtin .append, args := #[s, x], argTypes := #[t, t] })
  (ht : P.underlying t = some (.slice e)) (hinfo : (P.info? e).map (fun i => (i.zero, i.size, i.bytes)) = some (some z, d.sz, bytes)) (hz : z.cells.size = d.sz) (hs0 : 0 < d.sz) (hb0 : 0 < bytes)
  (v : Value) (xs : List α) (p : α) (cs : List Value) (ok okp : Nat → Prop) (hs : a.eval s = v) (hx : a.eval x = .slice (some ⟨W.heap.size, 0, none⟩) 1 1) (hp : d.M W base okp p cs) (hokp : ∀ k, okp k → ok k ∧ some k ≠ v.ownBlock) (hfresh : ∀ k, W.heap.size ≤ k → ok k)
  (HO : d.R e W base ok v xs) (HB : Below base w0 W) (hbase : base ≤ W.heap.size) (hl : (xs.length + 1) * bytes ≤ 140737488355328)
  (h : ∀ v1 w1, d.R e w1 base ok v1 (xs ++ [p]) → Below base w0 w1 → W.grownBy w1 v.ownBlock → (v1.ownBlock = v.ownBlock ∨ ∃ b, v1.ownBlock = some b ∧ W.heap.size ≤ b) → Kc (a.put o.dst v1) w1) :
  if Region.wanted o (yielded ops a.tmps) = true then Oper.wp P o a (W.alloc (.cells cs.toArray e)) Kc Q else Kc (a.put o.dst undef) (W.alloc (.cells cs.toArray e)) := by
 obtain ⟨h0, inner, hown, hr⟩ := HO
 refine step_append_cells base hw s x t e z d.sz bytes ho ht hinfo hz hs0 hb0 v xs.length inner cs hs hx (d.K_len (d.K_of_M hp)) (d.K_one (d.K_of_M hp)) hown HB hbase hl ?_
 intro v1 w1 hown1 hb1 hg1 hat1
 exact h v1 w1 (R_appended h0 hr hp hokp hfresh hown1 hg1 hat1) hb1 hg1 hat1
end
theorem reps_scalar {α : Type} {enc : α → Value} (xs : List α) : Reps (fun (x : α) (cs : List Value) => cs = [enc x]) 1 xs (encs enc xs) := by
 refine ⟨by simp [encs], fun j p hj => ?_⟩
 obtain ⟨hl, hp⟩ := List.getElem?_eq_some_iff.1 hj
 have hl' : j < (encs enc xs).length := by rw [encs_length]; exact hl
 rw [Nat.mul_one, List.drop_eq_getElem_cons hl']
 simp [encs, hp]
theorem R_of_own {α : Type} {enc : α → Value} {h1 : ∀ x, (enc x).oneCell' = true} {e : Nat} {w : World} {base : Nat} {ok : Nat → Prop} {v : Value} {xs : List α} (ho : w.ownsRow base e 1 v xs.length (encs enc xs)) (hok : ∀ k, v.ownBlock = some k → ok k) : (scalar enc h1).R e w base ok v xs := ⟨hok, encs enc xs, ho, reps_scalar xs⟩
theorem own_of_R {α : Type} {enc : α → Value} {h1 : ∀ x, (enc x).oneCell' = true} {e : Nat} {w : World} {base : Nat} {ok : Nat → Prop} {v : Value} {xs : List α} (h : (scalar enc h1).R e w base ok v xs) : w.ownsRow base e 1 v xs.length (encs enc xs) := by
 obtain ⟨_, inner, ho, hr⟩ := h
 have : inner = encs enc xs := by
  apply List.ext_getElem?
  intro j
  rcases Nat.lt_or_ge j xs.length with hj | hj
  ·have h2 := hr.2 j _ (List.getElem?_eq_getElem hj)
   have hl : j < inner.length := by have := hr.1; simp [scalar] at this; omega
   have h3 : (inner.drop (j * 1)).take 1 = [enc xs[j]] := h2
   rw [Nat.mul_one, List.drop_eq_getElem_cons hl] at h3
   have h4 : inner[j] = enc xs[j] := by
    have h5 := congrArg List.head? h3
    rw [List.take_succ_cons] at h5
    exact Option.some.inj h5
   rw [List.getElem?_eq_getElem hl, h4]
   simp [encs, List.getElem?_eq_getElem hj]
  ·have h3 : inner.length = xs.length := by have := hr.1; simp [scalar] at this; omega
   rw [List.getElem?_eq_none (by omega), List.getElem?_eq_none (by rw [encs_length]; omega)]
 rw [← this]
 exact ho
theorem C_of_reads {α : Type} {enc : α → Value} {d : α} {h1 : ∀ x, (enc x).oneCell' = true} {w : World} {A : Option Addr} {n : Nat} {xs : List α} (h : ReadsOf enc d w A n xs) : (scalar enc h1).C w A n xs := by
 refine ⟨h.1, h.2.1, fun hn => ?_⟩
 obtain ⟨ad, e, hc⟩ := h.2.2 hn
 refine ⟨ad, e, fun j p hj => ⟨[enc p], rfl, rfl, fun i u hu => ?_⟩⟩
 obtain ⟨hl, hp⟩ := List.getElem?_eq_some_iff.1 hj
 have h2 := hc j (by have := h.1; omega)
 rw [List.getD_eq_getElem?_getD, hj] at h2
 cases i with
 | zero =>
   have : enc p = u := by simpa using hu
   subst this
   simpa [scalar] using h2
 | succ i => simp at hu
theorem reads_of_C {α : Type} {enc : α → Value} {d : α} {h1 : ∀ x, (enc x).oneCell' = true} {w : World} {A : Option Addr} {n : Nat} {xs : List α} (h : (scalar enc h1).C w A n xs) : ReadsOf enc d w A n xs := by
 refine ⟨h.1, h.2.1, fun hn => ?_⟩
 obtain ⟨ad, e, hc⟩ := h.2.2 hn
 refine ⟨ad, e, fun j hj => ?_⟩
 have hl : j < xs.length := by have := h.1; omega
 obtain ⟨c, _, hK, hcell⟩ := hc j _ (List.getElem?_eq_getElem hl)
 have hK' : c = [enc xs[j]] := hK
 subst hK'
 have := hcell 0 _ rfl
 simpa [scalar, List.getD_eq_getElem?_getD, List.getElem?_eq_getElem hl] using this
end Kd
namespace Kd
theorem R_after {α : Type} {d : Kd α} {e base : Nat} {ok : Nat → Prop} {W w1 : World} {u v v1 : Value} {xs : List α} (h : d.R e W base (fun k => ok k ∧ some k ≠ v.ownBlock) u xs) (hg : W.grownBy w1 v.ownBlock) (hat : v1.ownBlock = v.ownBlock ∨ ∃ b, v1.ownBlock = some b ∧ W.heap.size ≤ b) : d.R e w1 base (fun k => ok k ∧ some k ≠ v1.ownBlock) u xs := by
 refine R_mono (R_move (R_bound h) (fun k hk => hg.block k hk.2.2.1 hk.1.2)) (fun k hk => ⟨hk.1.1, ?_⟩)
 rcases hat with hat | ⟨b, hb, hle⟩
 ·rw [hat]; exact hk.1.2
 ·rw [hb]
  intro he
  injection he with he
  have := hk.2.2.1
  omega
end Kd
namespace Kd
section
variable {α β : Type} {d : Kd α} {d' : Kd β} {e e' : Nat} {w w1 W : World} {base b b' : Nat} {ok ok' okv oku : Nat → Prop} {v u : Value} {xs : List α} {ys : List β}
theorem R_alloc (h : d.R e w base ok v xs) (o : Obj) : d.R e (w.alloc o) base ok v xs := R_below h (below_alloc (Below.refl _ _) o)
theorem R_drew (h : d.R e w base ok v xs) : d.R e w.drew base ok v xs := R_below h (below_drew (Below.refl _ _))
theorem R_drewN (h : d.R e w base ok v xs) (m : Nat) : d.R e (w.drewN m) base ok v xs := R_below h (pw_below_drewN (Below.refl _ _) m)
theorem C_alloc {A : Option Addr} {n : Nat} (h : d.C w A n xs) (o : Obj) : d.C (w.alloc o) A n xs := C_below h (below_alloc (Below.refl _ _) o)
theorem C_drew {A : Option Addr} {n : Nat} (h : d.C w A n xs) : d.C w.drew A n xs := C_below h (below_drew (Below.refl _ _))
theorem C_drewN {A : Option Addr} {n : Nat} (h : d.C w A n xs) (m : Nat) : d.C (w.drewN m) A n xs := C_below h (pw_below_drewN (Below.refl _ _) m)
theorem C_nil (d : Kd α) (w : World) : d.C w none ([] : List α).length [] := ⟨rfl, by simp, fun h => absurd h (Nat.lt_irrefl 0)⟩
theorem R_reads' {A : Option Addr} {n c : Nat} (h : d.R e w base ok (.slice A n c) xs) : n = xs.length ∧ n ≤ c ∧ d.C w A xs.length xs := by
 obtain ⟨A', c', he, hl, hr⟩ := R_reads h
 injection he with h1 h2 h3
 subst h1
 exact ⟨h2, by omega, hr⟩
theorem R_lt (h : d.R e w base ok v xs) : ∀ k, v.ownBlock = some k → k < w.heap.size := by
 obtain ⟨inner, ho⟩ := R_own h
 exact own_lt ho
theorem R_base (h : d.R e w base ok v xs) : ∀ k, v.ownBlock = some k → base ≤ k := by
 obtain ⟨inner, ho⟩ := R_own h
 exact own_base ho
theorem R_form (h : d.R e w base ok v xs) (hp : 0 < xs.length) : ∃ g cap, v = .slice (some ⟨g, 0, none⟩) xs.length cap ∧ base ≤ g ∧ g < w.heap.size ∧ ∃ cells, w.heap[g]? = some (.cells cells e (0, 0)) := by
 obtain ⟨inner, ho⟩ := R_own h
 obtain ⟨g, cap, he, hb, hl⟩ := ho.form hp
 obtain ⟨cells, hc⟩ := own_typed ho g (by rw [he]; simp [Value.ownBlock])
 exact ⟨g, cap, he, hb, hl, cells, hc⟩
theorem R_over (h : d.R e W b ok u xs) (hv : d'.R e' W b' ok' v ys) (ht : ∀ q, q ∈ e :: d.E → q ≠ e') (hg : W.grownBy w1 v.ownBlock) : d.R e w1 b ok u xs := by
 obtain ⟨inner, ho⟩ := R_own hv
 refine R_mono (R_move (R_bound h) (fun k hk => hg.block k hk.2.2.1 (fun he => ?_))) (fun _ hk => hk.1)
 obtain ⟨_, _, _, q, hq, cells, hc⟩ := hk
 obtain ⟨cells', hc'⟩ := own_typed ho k he.symm
 rw [hc] at hc'
 injection hc' with hc'
 injection hc' with _ hc'
 exact ht q hq hc'
end
section
variable {w W : World} {A : Option Addr} {n : Nat}
theorem at_int {k : IntKind} {xs : List Int} (h : (Kd.int k).C w A n xs) (i : Int) (h0 : 0 ≤ i) (h1 : i < n) : ∃ ad, A = some ad ∧ w.cell? (ad.add i.toNat) = some (.int k (rd xs i)) :=
 ReadsOf.at_ (reads_of_C (enc := Value.int k) (d := (0 : Int)) (h1 := fun _ => rfl) h) i h0 h1
theorem at_bool {xs : List Bool} (h : Kd.bool.C w A n xs) (i : Int) (h0 : 0 ≤ i) (h1 : i < n) : ∃ ad, A = some ad ∧ w.cell? (ad.add i.toNat) = some (.bool (rdOf false xs i)) :=
 ReadsOf.at_ (reads_of_C (enc := Value.bool) (d := false) (h1 := fun _ => rfl) h) i h0 h1
variable {α : Type} {enc : α → Value} {h1 : ∀ x, (enc x).oneCell' = true} {e base g cap : Nat} {ok : Nat → Prop} {xs : List α}
theorem R_cell (d : α) (h : (scalar enc h1).R e W base ok (.slice (some ⟨g, 0, none⟩) xs.length cap) xs) (i : Int) (h0 : 0 ≤ i) (hi : i < xs.length) : W.cell? ⟨g, i.toNat, none⟩ = some (enc (rdOf d xs i)) ∧ W.frozen? ⟨g, i.toNat, none⟩ = false := own_at_of (own_of_R h) i h0 hi
theorem R_put (h : (scalar enc h1).R e W base ok (.slice (some ⟨g, 0, none⟩) xs.length cap) xs) (i : Int) (x : α) : (scalar enc h1).R e (W.setCell ⟨g, i.toNat, none⟩ (enc x)) base ok (.slice (some ⟨g, 0, none⟩) xs.length cap) (xs.set i.toNat x) ∧ W.grownBy (W.setCell ⟨g, i.toNat, none⟩ (enc x)) (some g) := by
 obtain ⟨ho, hg⟩ := own_store_of (own_of_R h) i x
 exact ⟨R_of_own (by rw [List.length_set]; exact ho) h.1, hg⟩
end
section
variable {P : Program} {ops : Array Oper} {rest : List Oper} {o : Oper} {a : Act} {Q : Exit → Act → World → Prop}
theorem event_run {W w1 : World} {v : Value} (hgd : o.guard = none) (hrun : (execOp a.eval o).run P W = .ok (.value v) w1) (h : wpList P ops Q rest (a.put o.dst v) w1) : wpList P ops Q (o :: rest) a W := by
 refine wpList_plain hgd fun K hK => ?_
 unfold Oper.wp
 rw [hrun]
 exact hK _ _ h
variable {α : Type}
theorem R_lit (d : Kd α) {w0 W : World} (base e : Nat) (hgd : o.guard = none) {N : Tmp} (_hd : o.dst = some N) {xs : List α} {inner : List Value} {ok okp : Nat → Prop}
  (hrun : (execOp a.eval o).run P W = .ok (.value (.slice (some ⟨W.heap.size, 0, none⟩) xs.length xs.length)) (W.alloc (.cells inner.toArray e)))
  (hrep : Reps (d.M W base okp) d.sz xs inner) (hok : ∀ k, okp k → ok k) (hfresh : ok W.heap.size) (HB : Below base w0 W) (hbase : base ≤ W.heap.size) (hm : xs.length ≤ 9223372036854775807)
  (h : ∀ v1 w1, d.R e w1 base ok v1 xs → Below base w0 w1 → W.grownBy w1 none → (∃ b, v1.ownBlock = some b ∧ W.heap.size ≤ b) → wpList P ops Q rest (a.put o.dst v1) w1) : wpList P ops Q (o :: rest) a W := by
 refine event_run hgd hrun (h _ _ ⟨fun k hk => ?_, inner, ?_, ?_⟩ (HB.alloc hbase _) (World.grownBy_alloc W _ none) ⟨W.heap.size, by simp [Value.ownBlock], Nat.le_refl _⟩)
 ·have : W.heap.size = k := by simpa [Value.ownBlock] using hk
  subst this
  exact hfresh
 ·have h2 := World.ownsRow_lit (base := base) (e := e) (size := d.sz) W inner.toArray xs.length hbase (by simpa [maxLen] using hm) (by simpa using hrep.1)
  simpa using h2
 ·refine hrep.imp_ (fun p c hp => d.M_mono (fun k hk => ⟨hok k hk.1, fun he => ?_⟩) (M_below (d.M_bound hp) (below_alloc (Below.refl _ _) _)))
  have h3 : k = W.heap.size := by simpa [Value.ownBlock] using he
  have := hk.2.2.1
  omega
theorem reps_made {α : Type} {R : α → List Value → Prop} {z : Value} {size : Nat} {z0 : α} (hz : z.cells.size = size) (hs : 0 < size) (h0 : R z0 z.cells.toList) (m : Nat) : Reps R size (List.replicate m z0) (madeCells z.cells (m * size)).toList := by
 refine ⟨by simp [size_madeCells], fun j p hj => ?_⟩
 obtain ⟨hjl, hp⟩ := List.getElem?_eq_some_iff.1 hj
 have hjm : j < m := by simpa using hjl
 have hp' : z0 = p := by simpa using hp
 subst hp'
 have hle : j * size + size ≤ m * size := by rw [← Nat.succ_mul]; exact Nat.mul_le_mul_right _ hjm
 have : ((madeCells z.cells (m * size)).toList.drop (j * size)).take size = z.cells.toList := by
  apply List.ext_getElem
  ·simp [size_madeCells, hz]
   omega
  ·intro i h1 h2
   have hi : i < size := by rw [Array.length_toList, hz] at h2; exact h2
   have hmod : (j * size + i) % size = i := by
    rw [Nat.mul_comm, Nat.mul_add_mod]
    exact Nat.mod_eq_of_lt hi
   simp [madeCells, hz, hmod]
   rw [getElem!_pos z.cells i (by omega)]
 rw [this]
 exact h0
theorem R_make (d : Kd α) {w0 W : World} (base e : Nat) (hgd : o.guard = none) {N : Tmp} (hd : o.dst = some N) (t : TypeId) (x y : Operand) (ho : o.op = .makeSlice t x y) (n : Int) (hx : a.eval x = .int .i64 n) (hy : a.eval y = .int .i64 n)
  (ht : P.underlying t = some (.slice e)) (z : Value) (bytes : Nat) (hinfo : (P.info? e).map (fun i => (i.zero, i.size, i.bytes)) = some (some z, d.sz, bytes)) (hz : z.cells.size = d.sz) (hs0 : 0 < d.sz) (hb0 : 0 < bytes)
  (z0 : α) {ok okp : Nat → Prop} (hzero : d.M W base okp z0 z.cells.toList) (hok : ∀ k, okp k → ok k) (hfresh : ok W.heap.size) (h0 : 0 ≤ n) (hl : n.toNat * bytes ≤ 281474976710656) (HB : Below base w0 W) (hbase : base ≤ W.heap.size)
  (h : ∀ v1 w1, d.R e w1 base ok v1 (List.replicate n.toNat z0) → Below base w0 w1 → W.grownBy w1 none → (∃ b, v1.ownBlock = some b ∧ W.heap.size ≤ b) → wpList P ops Q rest (a.put o.dst v1) w1) : wpList P ops Q (o :: rest) a W := by
 obtain ⟨m, rfl⟩ := Int.eq_ofNat_of_zero_le h0
 simp only [Int.toNat_natCast] at hl h
 obtain ⟨i0, hi, hzz⟩ := Option.map_eq_some_iff.1 hinfo
 simp only [Prod.mk.injEq] at hzz
 obtain ⟨hz0, hz1, hz2⟩ := hzz
 have hm : m ≤ 281474976710656 := Nat.le_trans (Nat.le_mul_of_pos_right _ hb0) hl
 have hr := run_make (P := P) W t e i0 z ht hi hz0 .i64 .i64 (m : Int) (m : Int) (by omega) (by omega)
  (by
   have h3 : ((i0.bytes * m : Nat) : Int) ≤ 281474976710656 := by rw [hz2, Nat.mul_comm]; omega
   rwa [Int.natCast_mul] at h3) (by omega)
 simp only [Int.toNat_natCast] at hr
 rw [hz1] at hr
 refine R_lit d base e hgd hd (xs := List.replicate m z0) (inner := (madeCells z.cells (m * d.sz)).toList) (okp := okp) (ok := ok) ?_ (reps_made hz hs0 hzero m) hok hfresh HB hbase (by simp; omega) h
 simp [execOp, ho, hx, hy, hr]
end
end Kd
theorem own_take {w : World} {base n m c size : Nat} {e : TypeId} {A : Option Addr} {xs : List Value} (h : w.ownsRow base e size (.slice A n c) n xs) (hm : m ≤ n) : w.ownsRow base e size (.slice A m c) m (xs.take (m * size)) := by
 obtain ⟨h1, h2⟩ := h
 refine ⟨by rw [List.length_take, h1]; exact Nat.min_eq_left (Nat.mul_le_mul_right _ hm), ?_⟩
 rcases h2 with ⟨he, h0⟩ | ⟨g, cap, cur, he, hb, hh, hnc, hcm, hcs, ht⟩
 ·injection he with ha _ hc
  subst ha; subst hc
  exact .inl ⟨by rw [show m = 0 by omega], by omega⟩
 ·injection he with ha _ hc
  subst ha; subst hc
  refine .inr ⟨g, c, cur, rfl, hb, hh, by omega, hcm, hcs, ?_⟩
  rw [← ht, List.take_take, Nat.min_eq_left (Nat.mul_le_mul_right _ hm)]
section
variable {P : Program}
theorem cut_to (t e : TypeId) (kh : IntKind) {i : TypeInfo} (ht : P.underlying t = some (.slice e)) (hi : P.info? e = some i) (A : Option Addr) (n c : Nat) (j : Int) (h0 : 0 ≤ j) (hm : j ≤ n) (hc : n ≤ c) :
  ∀ W : World, (Instr.slice t (.slice A n c) none (some (.int kh j)) none).run P W = .ok (.slice A j.toNat c) W := by
 intro W
 have hel : P.elem t = e := by simp [Program.elem, ht]
 have hu : P.underlying t = some (.slice (P.elem t)) := by rw [hel]; exact ht
 have ha : (A.map fun x => x.add 0) = A := by cases A <;> simp [Addr.add]
 rw [run_slice_h W t A n c hu kh j h0 (by omega), hel]
 simp [sizeOf, typeInfo, hi, sliced, Result.andThen, ha]
theorem cut_from (t e : TypeId) (kl : IntKind) {i : TypeInfo} (ht : P.underlying t = some (.slice e)) (hi : P.info? e = some i) (size : Nat) (hsz : i.size = size) (A : Option Addr) (n c : Nat) (j : Int) (h0 : 0 ≤ j) (hm : j ≤ n) :
  ∀ W : World, (Instr.slice t (.slice A n c) (some (.int kl j)) none none).run P W = .ok (.slice (if c = j.toNat then A else A.map (·.add (j.toNat * size))) (n - j.toNat) (c - j.toNat)) W := by
 intro W
 have hel : P.elem t = e := by simp [Program.elem, ht]
 have hu : P.underlying t = some (.slice (P.elem t)) := by rw [hel]; exact ht
 rw [run_slice_l W t A n c hu kl j h0 hm, hel]
 simp [sizeOf, typeInfo, hi, hsz, sliced, Result.andThen]
end
def QRow (w : World) (base : Nat) (e : TypeId) (size : Nat) (v : Value) (n : Nat) (xs : List Value) : Prop :=
 xs.length = n * size ∧
 ((n = 0 ∧ ∃ A, v = .slice A 0 0 ∧ ∀ a, A = some a → base ≤ a.block ∧ ∃ cur, w.heap[a.block]? = some (.cells cur e (0, 0))) ∨
  ∃ g off cap cur, v = .slice (some ⟨g, off * size, none⟩) n cap ∧ base ≤ g ∧ w.heap[g]? = some (.cells cur e (0, 0)) ∧ n ≤ cap ∧ off + cap ≤ maxLen ∧ cur.size = (off + cap) * size ∧ (cur.toList.drop (off * size)).take (n * size) = xs)
section
variable {w w1 : World} {base n size : Nat} {e : TypeId} {v : Value} {xs : List Value}
theorem q_of_own (h : w.ownsRow base e size v n xs) : QRow w base e size v n xs := by
 obtain ⟨h1, h2⟩ := h
 refine ⟨h1, ?_⟩
 rcases h2 with ⟨rfl, h0⟩ | ⟨g, cap, cur, rfl, hb, hh, hnc, hcm, hcs, ht⟩
 ·exact .inl ⟨h0, none, rfl, fun a ha => by cases ha⟩
 ·exact .inr ⟨g, 0, cap, cur, by rw [Nat.zero_mul], hb, hh, hnc, by rw [Nat.zero_add]; exact hcm, by rw [Nat.zero_add]; exact hcs, by rw [Nat.zero_mul, List.drop_zero]; exact ht⟩
theorem q_move (h : QRow w base e size v n xs) (hm : ∀ k, v.ownBlock = some k → w1.heap[k]? = w.heap[k]?) : QRow w1 base e size v n xs := by
 obtain ⟨h1, h2⟩ := h
 refine ⟨h1, ?_⟩
 rcases h2 with ⟨h0, A, rfl, hA⟩ | ⟨g, off, cap, cur, rfl, hg, hh, r⟩
 ·refine .inl ⟨h0, A, rfl, fun a ha => ?_⟩
  obtain ⟨hb, cur, hc⟩ := hA a ha
  subst ha
  exact ⟨hb, cur, (hm a.block (by simp [Value.ownBlock])).trans hc⟩
 ·exact .inr ⟨g, off, cap, cur, rfl, hg, (hm g (by simp [Value.ownBlock])).trans hh, r⟩
theorem q_typed (h : QRow w base e size v n xs) (k : Nat) (hk : v.ownBlock = some k) : base ≤ k ∧ ∃ cells, w.heap[k]? = some (.cells cells e (0, 0)) := by
 rcases h.2 with ⟨_, A, rfl, hA⟩ | ⟨g, off, cap, cur, rfl, hg, hh, r⟩
 ·cases A with
  | none => simp [Value.ownBlock] at hk
  | some a =>
    have : a.block = k := by simpa [Value.ownBlock] using hk
    subst this
    exact hA a rfl
 ·have : g = k := by simpa [Value.ownBlock] using hk
  subst this
  exact ⟨hg, cur, hh⟩
theorem q_lt (h : QRow w base e size v n xs) (k : Nat) (hk : v.ownBlock = some k) : k < w.heap.size := by
 obtain ⟨_, cells, hc⟩ := q_typed h k hk
 exact (Array.getElem?_eq_some_iff.1 hc).1
theorem q_slice (h : QRow w base e size v n xs) : ∃ A c, v = .slice A n c ∧ n ≤ c := by
 rcases h.2 with ⟨h0, A, rfl, _⟩ | ⟨g, off, cap, cur, rfl, hg, hh, hnc, r⟩
 ·exact ⟨A, 0, by rw [h0], by omega⟩
 ·exact ⟨_, cap, rfl, hnc⟩
theorem q_max (h : QRow w base e size v n xs) : n ≤ 9223372036854775807 := by
 rcases h.2 with ⟨h0, _⟩ | ⟨g, off, cap, cur, rfl, hg, hh, hnc, hm, r⟩
 ·omega
 ·simp only [maxLen] at hm
  omega
theorem add_at (g o j : Nat) : (⟨g, o, none⟩ : Addr).add j = ⟨g, o + j, none⟩ := by unfold Addr.add; split <;> simp_all
theorem q_cells {A : Option Addr} {c : Nat} (h : QRow w base e size (.slice A n c) n xs) (hn : 0 < n) : ∃ ad, A = some ad ∧ ∀ j u, xs[j]? = some u → w.cell? (ad.add j) = some u := by
 rcases h.2 with ⟨h0, _⟩ | ⟨g, off, cap, cur, he, hg, hh, hnc, hm, hcs, ht⟩
 ·omega
 ·injection he with ha _ hc
  subst ha
  refine ⟨_, rfl, fun j u hu => ?_⟩
  rw [add_at, cell_of_row w g _ cur e (0, 0) hh]
  rw [← ht, List.getElem?_take] at hu
  split at hu
  ·rw [List.getElem?_drop] at hu
   rw [← Array.getElem?_toList]
   exact hu
  ·cases hu
theorem q_drop {A : Option Addr} {c k : Nat} (h : QRow w base e size (.slice A n c) n xs) (hk : k ≤ n) : QRow w base e size (.slice (if c = k then A else A.map (·.add (k * size))) (n - k) (c - k)) (n - k) (xs.drop (k * size)) := by
 obtain ⟨h1, h2⟩ := h
 refine ⟨by rw [List.length_drop, h1, Nat.sub_mul], ?_⟩
 rcases h2 with ⟨h0, A', he, hA⟩ | ⟨g, off, cap, cur, he, hb, hh, hnc, hcm, hcs, ht⟩
 ·injection he with ha hb hc
  subst ha; subst hc
  have hk0 : k = 0 := by omega
  subst hk0
  exact .inl ⟨by omega, A, by rw [if_pos rfl, h0], hA⟩
 ·injection he with ha _ hc
  subst ha; subst hc
  by_cases hck : c = k
  ·rw [if_pos hck]
   refine .inl ⟨by omega, some ⟨g, off * size, none⟩, ?_, fun a ha => ?_⟩
   ·rw [show n - k = 0 by omega, show c - k = 0 by omega]
   ·injection ha with ha
    subst ha
    exact ⟨hb, cur, hh⟩
  ·rw [if_neg hck]
   refine .inr ⟨g, off + k, c - k, cur, ?_, hb, hh, by omega, by omega, by rw [hcs]; congr 1; omega, ?_⟩
   ·rw [Option.map_some, add_at, Nat.add_mul]
   ·rw [← ht, List.drop_take, List.drop_drop, Nat.add_mul, Nat.sub_mul]
end
namespace Kd
theorem reps_take {α : Type} {R : α → List Value → Prop} {size m : Nat} {ps : List α} {cs : List Value} (h : Reps R size ps cs) (hm : m ≤ ps.length) : Reps R size (ps.take m) (cs.take (m * size)) := by
 refine ⟨by rw [List.length_take, List.length_take, h.1, Nat.min_eq_left hm, Nat.min_eq_left (Nat.mul_le_mul_right _ hm)], fun j p hj => ?_⟩
 rw [List.getElem?_take] at hj
 split at hj
 ·rename_i hjm
  have := h.2 j p hj
  have hle : j * size + size ≤ m * size := by rw [← Nat.succ_mul]; exact Nat.mul_le_mul_right _ hjm
  rw [List.drop_take, List.take_take, Nat.min_eq_left (by omega)]
  exact this
 ·cases hj
theorem reps_drop {α : Type} {R : α → List Value → Prop} {size m : Nat} {ps : List α} {cs : List Value} (h : Reps R size ps cs) : Reps R size (ps.drop m) (cs.drop (m * size)) := by
 refine ⟨by rw [List.length_drop, List.length_drop, h.1, Nat.sub_mul], fun j p hj => ?_⟩
 rw [List.getElem?_drop] at hj
 have := h.2 (m + j) p hj
 rw [List.drop_drop, ← Nat.add_mul]
 exact this
theorem R_take {α : Type} {d : Kd α} {e m n c : Nat} {w : World} {base : Nat} {ok : Nat → Prop} {A : Option Addr} {xs : List α} (h : d.R e w base ok (.slice A n c) xs) (hm : m ≤ xs.length) : d.R e w base ok (.slice A m c) (xs.take m) := by
 obtain ⟨h0, inner, ho, hr⟩ := h
 have hn : n = xs.length := by
  obtain ⟨A', c', he⟩ := own_slice ho
  injection he
 subst hn
 have hb : ∀ x y : Nat, (Value.slice A x c).ownBlock = (Value.slice A y c).ownBlock := by
  intro x y
  cases A <;> rfl
 refine ⟨fun k hk => h0 k (by rw [hb _ m]; exact hk), inner.take (m * d.sz), ?_, ?_⟩
 ·rw [List.length_take, Nat.min_eq_left hm]
  exact own_take ho hm
 ·rw [hb m xs.length]
  exact reps_take hr hm
def Q {α : Type} (d : Kd α) (e : Nat) (w : World) (base : Nat) (ok : Nat → Prop) (v : Value) (xs : List α) : Prop :=
 (∀ k, v.ownBlock = some k → ok k) ∧ ∃ inner, QRow w base e d.sz v xs.length inner ∧ Reps (d.M w base (fun k => ok k ∧ some k ≠ v.ownBlock)) d.sz xs inner
section
variable {α : Type} {d : Kd α} {e : Nat} {w w1 W : World} {base : Nat} {ok ok' : Nat → Prop} {v : Value} {xs : List α}
theorem Q_of_R (h : d.R e w base ok v xs) : d.Q e w base ok v xs := by
 obtain ⟨h0, inner, ho, hr⟩ := h
 exact ⟨h0, inner, q_of_own ho, hr⟩
theorem Q_nil (d : Kd α) (e : Nat) (w : World) (base : Nat) (ok : Nat → Prop) : d.Q e w base ok (.slice none 0 0) [] := Q_of_R (R_nil d e w base ok)
theorem Q_mono (h : d.Q e w base ok v xs) (hok : ∀ k, ok k → ok' k) : d.Q e w base ok' v xs := by
 obtain ⟨h0, inner, ho, hr⟩ := h
 exact ⟨fun k hk => hok k (h0 k hk), inner, ho, hr.imp_ (fun _ _ hp => d.M_mono (fun k hk => ⟨hok k hk.1, hk.2⟩) hp)⟩
theorem Q_bound (h : d.Q e w base ok v xs) : d.Q e w base (fun k => ok k ∧ base ≤ k ∧ k < w.heap.size ∧ ∃ q, q ∈ e :: d.E ∧ ∃ cells, w.heap[k]? = some (.cells cells q (0, 0))) v xs := by
 obtain ⟨h0, inner, ho, hr⟩ := h
 refine ⟨fun k hk => ?_, inner, ho, hr.imp_ (fun _ _ hp => d.M_mono (fun k hk => ?_) (d.M_bound hp))⟩
 ·obtain ⟨hb, cells, hc⟩ := q_typed ho k hk
  exact ⟨h0 k hk, hb, q_lt ho k hk, e, List.mem_cons_self, cells, hc⟩
 ·obtain ⟨⟨h1, h2⟩, h3, h4, q, hq, hc⟩ := hk
  exact ⟨⟨h1, h3, h4, q, List.mem_cons_of_mem _ hq, hc⟩, h2⟩
theorem Q_move (h : d.Q e w base ok v xs) (hm : ∀ k, ok k → w1.heap[k]? = w.heap[k]?) : d.Q e w1 base ok v xs := by
 obtain ⟨h0, inner, ho, hr⟩ := h
 exact ⟨h0, inner, q_move ho (fun k hk => hm k (h0 k hk)), hr.imp_ (fun _ _ hp => d.M_move (fun k hk => hm k hk.1) hp)⟩
theorem Q_step (h : d.Q e w base ok v xs) (hm : ∀ k, ok k → k < w.heap.size → w1.heap[k]? = w.heap[k]?) : d.Q e w1 base ok v xs := Q_mono (Q_move (Q_bound h) (fun k hk => hm k hk.1 hk.2.2.1)) (fun _ hk => hk.1)
theorem Q_below (h : d.Q e w base ok v xs) (hb : Below w.heap.size w w1) : d.Q e w1 base ok v xs := Q_step h (fun k _ hk => hb.block k hk)
theorem Q_alloc (h : d.Q e w base ok v xs) (o : Obj) : d.Q e (w.alloc o) base ok v xs := Q_below h (below_alloc (Below.refl _ _) o)
theorem Q_drew (h : d.Q e w base ok v xs) : d.Q e w.drew base ok v xs := Q_below h (below_drew (Below.refl _ _))
theorem Q_drewN (h : d.Q e w base ok v xs) (m : Nat) : d.Q e (w.drewN m) base ok v xs := Q_below h (pw_below_drewN (Below.refl _ _) m)
theorem Q_lt (h : d.Q e w base ok v xs) : ∀ k, v.ownBlock = some k → k < w.heap.size := by
 obtain ⟨_, inner, ho, _⟩ := h
 exact q_lt ho
theorem Q_slice (h : d.Q e w base ok v xs) : ∃ A c, v = .slice A xs.length c ∧ xs.length ≤ c := by
 obtain ⟨_, inner, ho, _⟩ := h
 exact q_slice ho
theorem Q_reads' {A : Option Addr} {n c : Nat} (h : d.Q e w base ok (.slice A n c) xs) : n = xs.length ∧ n ≤ c ∧ d.C w A xs.length xs := by
 obtain ⟨_, inner, ho, hr⟩ := h
 obtain ⟨A', c', he, hl⟩ := q_slice ho
 injection he with h1 h2 h3
 subst h1; subst h2; subst h3
 refine ⟨rfl, hl, rfl, q_max ho, fun hp => ?_⟩
 obtain ⟨ad, ha, hc⟩ := q_cells ho hp
 refine ⟨ad, ha, fun j p hj => ⟨(inner.drop (j * d.sz)).take d.sz, ?_, d.K_of_M (hr.2 j p hj), fun i u hu => ?_⟩⟩
 ·have hjl := (List.getElem?_eq_some_iff.1 hj).1
  have h1 : j * d.sz + d.sz ≤ inner.length := by rw [hr.1, ← Nat.succ_mul]; exact Nat.mul_le_mul_right _ hjl
  rw [List.length_take, List.length_drop]
  omega
 ·refine hc _ u ?_
  rw [List.getElem?_take] at hu
  split at hu
  ·rw [List.getElem?_drop] at hu
   exact hu
  ·cases hu
theorem Q_drop {A : Option Addr} {k n c : Nat} (h : d.Q e w base ok (.slice A n c) xs) (hk : k ≤ xs.length) : d.Q e w base ok (.slice (if c = k then A else A.map (·.add (k * d.sz))) (n - k) (c - k)) (xs.drop k) := by
 have hn : n = xs.length := (Q_reads' h).1
 subst hn
 obtain ⟨h0, inner, ho, hr⟩ := h
 have hb : (Value.slice (if c = k then A else A.map (·.add (k * d.sz))) (xs.length - k) (c - k)).ownBlock = (Value.slice A xs.length c).ownBlock := by
  split
  ·cases A <;> rfl
  ·cases A with
   | none => rfl
   | some a => simp [Value.ownBlock]; unfold Addr.add; split <;> rfl
 refine ⟨fun j hj => h0 j (by rw [← hb]; exact hj), inner.drop (k * d.sz), ?_, ?_⟩
 ·rw [List.length_drop]
  exact q_drop ho hk
 ·rw [hb]
  exact reps_drop hr
theorem Q_after {u v1 : Value} {ys : List α} {e' : Nat} (h : d.Q e' W base (fun k => ok k ∧ some k ≠ v.ownBlock) u ys) (hg : W.grownBy w1 v.ownBlock) (hat : v1.ownBlock = v.ownBlock ∨ ∃ b, v1.ownBlock = some b ∧ W.heap.size ≤ b) : d.Q e' w1 base (fun k => ok k ∧ some k ≠ v1.ownBlock) u ys := by
 refine Q_mono (Q_move (Q_bound h) (fun k hk => hg.block k hk.2.2.1 hk.1.2)) (fun k hk => ⟨hk.1.1, ?_⟩)
 rcases hat with hat | ⟨b, hb, hle⟩
 ·rw [hat]; exact hk.1.2
 ·rw [hb]
  intro he
  injection he with he
  have := hk.2.2.1
  omega
end
end Kd
namespace Kd
section
variable {α : Type} {d : Kd α} {e e' : Nat} {w w1 W : World} {base : Nat} {ok : Nat → Prop} {u v : Value} {xs : List α}
theorem R_typed (h : d.R e w base ok v xs) : ∀ k, v.ownBlock = some k → ∃ cells, w.heap[k]? = some (.cells cells e (0, 0)) := by
 obtain ⟨inner, ho⟩ := R_own h
 exact fun k hk => own_typed ho k hk
theorem R_over' (h : d.R e W base ok u xs) (hty : ∀ k, v.ownBlock = some k → ∃ cells, W.heap[k]? = some (.cells cells e' (0, 0))) (ht : ∀ q, q ∈ e :: d.E → q ≠ e') (hg : W.grownBy w1 v.ownBlock) : d.R e w1 base ok u xs := by
 refine R_mono (R_move (R_bound h) (fun k hk => hg.block k hk.2.2.1 (fun he => ?_))) (fun _ hk => hk.1)
 obtain ⟨_, _, _, q, hq, cells, hc⟩ := hk
 obtain ⟨cells', hc'⟩ := hty k he.symm
 rw [hc] at hc'
 injection hc' with hc'
 injection hc' with _ hc'
 exact ht q hq hc'
theorem R_elder' (hu : d.R e W base ok u xs) (hbase : ∀ k, v.ownBlock = some k → W.heap.size ≤ k) (hb : Below W.heap.size W w1) : d.R e w1 base (fun k => ok k ∧ some k ≠ v.ownBlock) u xs :=
 R_mono (R_move (R_bound hu) (fun k hk => hb.block k hk.2.2.1)) (fun k hk => ⟨hk.1, fun he => by have := hbase k he.symm; have := hk.2.2.1; omega⟩)
theorem R_new' (h : d.R e w1 W.heap.size ok v xs) (hlt : ∀ k, u.ownBlock = some k → k < W.heap.size) : d.R e w1 W.heap.size (fun k => ok k ∧ some k ≠ u.ownBlock) v xs :=
 R_mono (R_bound h) (fun k hk => ⟨hk.1, fun he => by have := hlt k he.symm; have := hk.2.1; omega⟩)
theorem Q_elder' (hu : d.Q e W base ok u xs) (hbase : ∀ k, v.ownBlock = some k → W.heap.size ≤ k) (hb : Below W.heap.size W w1) : d.Q e w1 base (fun k => ok k ∧ some k ≠ v.ownBlock) u xs :=
 Q_mono (Q_move (Q_bound hu) (fun k hk => hb.block k hk.2.2.1)) (fun k hk => ⟨hk.1, fun he => by have := hbase k he.symm; have := hk.2.2.1; omega⟩)
theorem fresh' (hlt : ∀ k, u.ownBlock = some k → k < W.heap.size) : ∀ k, W.heap.size ≤ k → some k ≠ u.ownBlock := fun k hk he => by have := hlt k he.symm; omega
end
end Kd
namespace Kd
theorem reps_append {α : Type} {R : α → List Value → Prop} {size : Nat} {ps qs : List α} {cs ds : List Value} (h : Reps R size ps cs) (h' : Reps R size qs ds) : Reps R size (ps ++ qs) (cs ++ ds) := by
 refine ⟨by rw [List.length_append, List.length_append, h.1, h'.1, Nat.add_mul], fun j p hj => ?_⟩
 rcases Nat.lt_or_ge j ps.length with hlt | hge
 ·rw [List.getElem?_append_left hlt] at hj
  have hle : j * size + size ≤ cs.length := by rw [h.1, ← Nat.succ_mul]; exact Nat.mul_le_mul_right _ hlt
  rw [List.drop_append_of_le_length (by omega), List.take_append_of_le_length (by rw [List.length_drop]; omega)]
  exact h.2 j p hj
 ·rw [List.getElem?_append_right hge] at hj
  have h2 := h'.2 (j - ps.length) p hj
  have hle : ps.length * size ≤ j * size := Nat.mul_le_mul_right _ hge
  rw [List.drop_append, List.drop_eq_nil_of_le (by rw [h.1]; exact hle), List.nil_append, h.1, ← Nat.sub_mul]
  exact h2
section
variable {P : Program} {ops : Array Oper} {rest : List Oper} {o : Oper} {a : Act} {Q : Exit → Act → World → Prop} {α : Type}
theorem R_append_rows (d : Kd α) {Rr : α → List Value → Prop} {w0 W : World} (base : Nat) (hgd : o.guard = none) (s x : Operand) (t e : TypeId) (z : Value) (bytes : Nat)
  (ho : o.op = .call { callee := .builtin .append, args := #[s, x], argTypes := #[t, t] })
  (ht : P.underlying t = some (.slice e)) (hinfo : (P.info? e).map (fun i => (i.zero, i.size, i.bytes)) = some (some z, d.sz, bytes)) (hz : z.cells.size = d.sz) (hs0 : 0 < d.sz) (hb0 : 0 < bytes)
  (v : Value) (xs ys : List α) (A : Option Addr) (m c : Nat) (ok okp : Nat → Prop) (hs : a.eval s = v) (hx : a.eval x = .slice A m c)
  (HO : d.R e W base ok v xs) (HR : ReadsRow Rr d.sz W A m ys) (hKM : ∀ x cs, Rr x cs → d.M W base okp x cs) (hokp : ∀ k, okp k → ok k ∧ some k ≠ v.ownBlock) (hfresh : ∀ k, W.heap.size ≤ k → ok k)
  (HB : Below base w0 W) (hbase : base ≤ W.heap.size) (hl : (xs.length + m) * bytes ≤ 140737488355328)
  (h : ∀ v1 w1, d.R e w1 base ok v1 (xs ++ ys) → Below base w0 w1 → W.grownBy w1 v.ownBlock → (v1.ownBlock = v.ownBlock ∨ ∃ b, v1.ownBlock = some b ∧ W.heap.size ≤ b) → wpList P ops Q rest (a.put o.dst v1) w1) :
  wpList P ops Q (o :: rest) a W := by
 obtain ⟨i0, hi, hzz⟩ := Option.map_eq_some_iff.1 hinfo
 simp only [Prod.mk.injEq] at hzz
 obtain ⟨hz0, hz1, hz2⟩ := hzz
 have hm : ys.length = m := HR.1
 have hlen : xs.length + m ≤ 140737488355328 := Nat.le_trans (Nat.le_mul_of_pos_right _ hb0) hl
 obtain ⟨hok, inner, hown, hr⟩ := HO
 have hrun : ∃ v1 w1, (Builtin.append_ #[t, t] o.type #[v, .slice A m c]).run P W = .ok v1 w1 ∧ d.R e w1 base ok v1 (xs ++ ys) ∧ W.grownBy w1 v.ownBlock ∧ (v1.ownBlock = v.ownBlock ∨ ∃ b, v1.ownBlock = some b ∧ W.heap.size ≤ b) := by
  rcases A with _ | ad
  ·have h0 : m = 0 := by
    rcases Nat.eq_zero_or_pos m with h0 | h0
    ·exact h0
    ·obtain ⟨ad, h, _⟩ := HR.2.2 h0
     cases h
   subst h0
   obtain rfl : ys = [] := List.eq_nil_of_length_eq_zero hm
   refine ⟨v, W, ?_, by rw [List.append_nil]; exact ⟨hok, inner, hown, hr⟩, World.grownBy.refl W _, .inl rfl⟩
   rcases hown.2 with ⟨rfl, hn⟩ | ⟨g, cap, cur, rfl, _, _, hnc, _⟩
   ·simp [Builtin.append_, run_underlying ht, sizeOf, typeInfo, hi, Builtin.lenOf, Builtin.firstCells]
   ·simp [Builtin.append_, run_underlying ht, sizeOf, typeInfo, hi, Builtin.lenOf, Builtin.firstCells, hnc, storeCells]
  ·obtain ⟨news, hnr, hnc⟩ := ReadsRow.inner_ HR
   have hnM : Reps (d.M W base okp) d.sz ys news := hnr.imp_ (fun p c hp => hKM p c hp)
   have hone : ∀ u ∈ news, u.oneCell' = true := by
    intro u hu
    obtain ⟨q, hq, rfl⟩ := List.mem_iff_getElem.1 hu
    have hql : q / d.sz < ys.length := by
     rw [Nat.div_lt_iff_lt_mul hs0]
     rw [← hnM.1]
     exact hq
    have hc := hnM.2 (q / d.sz) _ (List.getElem?_eq_getElem hql)
    refine d.K_one (d.K_of_M hc) _ ?_
    rw [List.mem_iff_getElem?]
    refine ⟨q % d.sz, ?_⟩
    rw [List.getElem?_take, if_pos (Nat.mod_lt _ hs0), List.getElem?_drop, Nat.mul_comm, Nat.div_add_mod, List.getElem?_eq_getElem hq]
   obtain ⟨v1, w1, hrun, h2, hg, _, hat⟩ := run_append_own_at (P := P) W base t o.type e i0 z d.sz bytes ht hi hz0 hz1 hz2 hz hs0 v xs.length inner hown ad m c news (by rw [hnM.1, hm]) hnc hone (by simp only [maxLen]; omega) hl hbase
   have hat' : v1.ownBlock = v.ownBlock ∨ ∃ b, v1.ownBlock = some b ∧ W.heap.size ≤ b := by
    rcases hat with hat | hat
    ·exact .inl hat
    ·exact .inr ⟨_, hat, Nat.le_refl _⟩
   have hne : ∀ k, some k ≠ v.ownBlock → k < W.heap.size → some k ≠ v1.ownBlock := by
    intro k hk hlt
    rcases hat' with hat | ⟨b, hb, hle⟩
    ·rw [hat]; exact hk
    ·rw [hb]
     intro he
     injection he with he
     omega
   have step : ∀ {q : α} {c : List Value} {o : Nat → Prop}, d.M W base o q c → (∀ k, o k → ok k ∧ some k ≠ v.ownBlock) → d.M w1 base (fun k => ok k ∧ some k ≠ v1.ownBlock) q c := by
    intro q c o hq ho
    have h1 := d.M_move (w1 := w1) (fun k hk => hg.block k hk.2.2.1 (ho k hk.1).2) (d.M_bound hq)
    exact d.M_mono (fun k hk => ⟨(ho k hk.1).1, hne k (ho k hk.1).2 hk.2.2.1⟩) h1
   refine ⟨v1, w1, hrun, ⟨fun k hk => ?_, inner ++ news, by rw [List.length_append, hm]; exact h2, reps_append (hr.imp_ (fun _ _ hq => step hq (fun _ hk => hk))) (hnM.imp_ (fun _ _ hq => step hq hokp))⟩, hg, hat'⟩
   rcases hat' with hat | ⟨b, hb, hle⟩
   ·exact hok k (hat ▸ hk)
   ·rw [hb] at hk
    injection hk with hk
    exact hfresh k (by omega)
 obtain ⟨v1, w1, hr1, h1, hg, hat⟩ := hrun
 refine wpList_plain hgd fun K hK => ?_
 unfold Oper.wp execOp
 simp only [ho, resolve, invoke, builtin, Sem.run_bind, Sem.run_pure, Result.andThen_ok, List.map_toArray, List.map_cons, List.map_nil, hs, hx, hr1]
 exact hK _ _ (h v1 w1 h1 (HB.grown hg hbase (own_base hown)) hg hat)
end
end Kd
theorem add_add (a : Addr) (i j : Nat) : (a.add i).add j = a.add (i + j) := by
 unfold Addr.add
 by_cases h1 : i = 0 <;> by_cases h2 : j = 0 <;> simp [h1, h2, Nat.add_assoc]
namespace Kd
section
variable {α : Type} {k : Kd α} {w : World} {A : Option Addr} {xs : List α} {m c : Nat}
theorem C_take (h : k.C w A xs.length xs) (hm : m ≤ xs.length) : k.C w A (xs.take m).length (xs.take m) := by
 have hl : (xs.take m).length = m := by rw [List.length_take]; omega
 refine ⟨rfl, by rw [hl]; have := h.2.1; omega, fun hp => ?_⟩
 obtain ⟨ad, e, hc⟩ := h.2.2 (by omega)
 refine ⟨ad, e, fun j p hj => hc j p ?_⟩
 rw [List.getElem?_take] at hj
 split at hj
 ·exact hj
 ·cases hj
theorem C_drop (h : k.C w A xs.length xs) (hm : m ≤ xs.length) (hc : xs.length ≤ c) : k.C w (if c = m then A else A.map (·.add (m * k.sz))) (xs.drop m).length (xs.drop m) := by
 have hl : (xs.drop m).length = xs.length - m := List.length_drop
 refine ⟨rfl, by rw [hl]; have := h.2.1; omega, fun hp => ?_⟩
 rw [hl] at hp
 obtain ⟨ad, rfl, hcell⟩ := h.2.2 (by omega)
 rw [if_neg (by omega)]
 refine ⟨ad.add (m * k.sz), rfl, fun j p hj => ?_⟩
 rw [List.getElem?_drop] at hj
 obtain ⟨cs, h1, h2, h3⟩ := hcell (m + j) p hj
 refine ⟨cs, h1, h2, fun i u hu => ?_⟩
 rw [add_add, show m * k.sz + (j * k.sz + i) = (m + j) * k.sz + i by rw [Nat.add_mul]; omega]
 exact h3 i u hu
theorem C_mid {lo hi : Nat} (h : k.C w A xs.length xs) (h1 : lo ≤ hi) (h2 : hi ≤ xs.length) (hc : xs.length ≤ c) : k.C w (if c = lo then A else A.map (·.add (lo * k.sz))) ((xs.take hi).drop lo).length ((xs.take hi).drop lo) := by
 have hl : (xs.take hi).length = hi := by rw [List.length_take]; omega
 exact C_drop (C_take h h2) (by omega) (by omega)
end
end Kd
section
variable {P : Program}
theorem cut_mid (t e : TypeId) (kl kh : IntKind) {i : TypeInfo} (ht : P.underlying t = some (.slice e)) (hi : P.info? e = some i) (size : Nat) (hsz : i.size = size) (A : Option Addr) (n c : Nat) (lo hi' : Int) (h0 : 0 ≤ lo) (h1 : lo ≤ hi') (h2 : hi' ≤ n) (hc : n ≤ c) :
  ∀ W : World, (Instr.slice t (.slice A n c) (some (.int kl lo)) (some (.int kh hi')) none).run P W = .ok (.slice (if c = lo.toNat then A else A.map (·.add (lo.toNat * size))) (hi'.toNat - lo.toNat) (c - lo.toNat)) W := by
 intro W
 have hel : P.elem t = e := by simp [Program.elem, ht]
 have hu : P.underlying t = some (.slice (P.elem t)) := by rw [hel]; exact ht
 rw [run_slice_lh W t A n c hu kl kh lo hi' h0 h1 (by omega), hel]
 simp [sizeOf, typeInfo, hi, hsz, sliced, Result.andThen]
end
theorem below_size {w W : World} (h : Below w.heap.size w W) : w.heap.size ≤ W.heap.size := h.size
theorem below_step {w W w2 : World} (h : Below w.heap.size w W) (k : Below W.heap.size W w2) : Below w.heap.size w w2 := below_then h h.size k
theorem ReadsInt.nil (W : World) (k : IntKind) : ReadsInt W k none ([] : List Int).length [] := ⟨rfl, by simp, fun h => absurd h (Nat.lt_irrefl 0)⟩
theorem ReadsInt.drewN {W : World} {k : IntKind} {A : Option Addr} {n : Nat} {xs : List Int} (h : ReadsInt W k A n xs) (m : Nat) : ReadsInt (W.drewN m) k A n xs := h
theorem ReadsInt.ofRow {k : IntKind} {w : World} {a : Option Addr} {len cap : Nat} {zs : List Int} (h : (a = none ∧ len = 0 ∧ cap = 0 ∧ zs = []) ∨ ∃ x, a = some x ∧ len ≤ cap ∧ cap ≤ maxLen ∧ zs.length = cap ∧ (∀ i, i < zs.length → w.cell? (x.add i) = some (.int k (zs.getD i 0))) ∧ ∀ n ∈ zs, (Lit.int k n).wf = true) :
  ∃ l : List Int, len = l.length ∧ ReadsInt w k a l.length l ∧ l.length ≤ maxLen ∧ ∀ x ∈ l, (Lit.int k x).wf = true := by
 rcases h with ⟨rfl, rfl, rfl, rfl⟩ | ⟨x, rfl, hl, hm, hz, hc, hw⟩
 ·exact ⟨[], rfl, ReadsInt.nil _ _, Nat.zero_le _, fun x hx => by simp at hx⟩
 ·have e : (zs.take len).length = len := by simp; omega
  have hm' : len ≤ maxLen := Nat.le_trans hl hm
  refine ⟨zs.take len, e.symm, ⟨rfl, by rw [e]; simpa [maxLen] using hm', fun _ => ⟨x, rfl, fun j hj => ?_⟩⟩, by rw [e]; exact hm', fun y hy => hw y (List.mem_of_mem_take hy)⟩
  rw [e] at hj
  rw [hc j (by omega)]
  simp [List.getD, List.getElem?_take, hj]
theorem below_set {w W : World} {g j : Nat} {v : Value} (h : Below w.heap.size w W) (hg : w.heap.size ≤ g) : Below w.heap.size w (W.setCell ⟨g, j, none⟩ v) := h.setCell hg _
theorem keep_cell {w W : World} {g : Nat} (h : KeepBut w W g none) {a : Addr} {v : Value} (hc : w.cell? a = some v) (hne : a.block ≠ g) : W.cell? a = some v := by
 have := h.2 a.block (World.block_lt_of_cell? w a hc) hne (by simp)
 simpa [World.cell?, this] using hc
theorem add_block (a : Addr) (i : Nat) : (a.add i).block = a.block := by unfold Addr.add; split <;> rfl
theorem ReadsOf.nil {α : Type} (enc : α → Value) (d : α) (W : World) : ReadsOf enc d W none ([] : List α).length [] := ⟨rfl, by simp, fun h => absurd h (Nat.lt_irrefl 0)⟩
theorem ReadsOf.drewN {α : Type} {enc : α → Value} {d : α} {W : World} {A : Option Addr} {n : Nat} {xs : List α} (h : ReadsOf enc d W A n xs) (m : Nat) : ReadsOf enc d (W.drewN m) A n xs := h
theorem ReadsInt.keep {w W : World} {k : IntKind} {A : Option Addr} {n g : Nat} {xs : List Int} (h : ReadsInt w k A n xs) (hk : KeepBut w W g none) (hf : ∀ ad, A = some ad → 0 < n → ad.block ≠ g) : ReadsInt W k A n xs :=
 ⟨h.1, h.2.1, fun hn => by
  obtain ⟨ad, e, hc⟩ := h.2.2 hn
  exact ⟨ad, e, fun j hj => keep_cell hk (hc j hj) (by rw [add_block]; exact hf ad e hn)⟩⟩
theorem ReadsOf.keep {α : Type} {enc : α → Value} {d : α} {w W : World} {A : Option Addr} {n g : Nat} {xs : List α} (h : ReadsOf enc d w A n xs) (hk : KeepBut w W g none) (hf : ∀ ad, A = some ad → 0 < n → ad.block ≠ g) : ReadsOf enc d W A n xs :=
 ⟨h.1, h.2.1, fun hn => by
  obtain ⟨ad, e, hc⟩ := h.2.2 hn
  exact ⟨ad, e, fun j hj => keep_cell hk (hc j hj) (by rw [add_block]; exact hf ad e hn)⟩⟩
theorem ReadsInt.ofRowC {k : IntKind} {w : World} {a : Option Addr} {len cap : Nat} {zs : List Int} (h : (a = none ∧ len = 0 ∧ cap = 0 ∧ zs = []) ∨ ∃ x, a = some x ∧ len ≤ cap ∧ cap ≤ maxLen ∧ zs.length = cap ∧ (∀ i, i < zs.length → w.cell? (x.add i) = some (.int k (zs.getD i 0))) ∧ ∀ n ∈ zs, (Lit.int k n).wf = true) :
  ∃ l : List Int, len = l.length ∧ ReadsInt w k a l.length l ∧ l.length ≤ maxLen ∧ (∀ x ∈ l, (Lit.int k x).wf = true) ∧ l.length ≤ cap := by
 have hl : len ≤ cap := by
  rcases h with ⟨_, rfl, rfl, _⟩ | ⟨_, _, h, _⟩
  ·exact Nat.le_refl _
  ·exact h
 obtain ⟨l, e, h1, h2, h3⟩ := ReadsInt.ofRow h
 exact ⟨l, e, h1, h2, h3, e ▸ hl⟩
theorem below_drew1 {base : Nat} {w W : World} (h : Below base w W) : Below base w W.drew := h.drew
namespace Kd
section
variable {α : Type} {enc : α → Value} {h1 : ∀ x, (enc x).oneCell' = true} {e base g n cap : Nat} {ok : Nat → Prop} {W : World} {xs : List α}
theorem R_celln (d : α) (h : (scalar enc h1).R e W base ok (.slice (some ⟨g, 0, none⟩) n cap) xs) (i : Int) (h0 : 0 ≤ i) (hi : i < n) : W.cell? ⟨g, i.toNat, none⟩ = some (enc (rdOf d xs i)) ∧ W.frozen? ⟨g, i.toNat, none⟩ = false := by
 obtain ⟨rfl, _⟩ := R_reads' h
 exact R_cell d h i h0 hi
theorem R_putn (h : (scalar enc h1).R e W base ok (.slice (some ⟨g, 0, none⟩) n cap) xs) (i : Int) (x : α) : (scalar enc h1).R e (W.setCell ⟨g, i.toNat, none⟩ (enc x)) base ok (.slice (some ⟨g, 0, none⟩) n cap) (xs.set i.toNat x) := by
 obtain ⟨rfl, _⟩ := R_reads' h
 exact (R_put h i x).1
end
end Kd
section
variable {P : Program} {ops : Array Oper} {rest : List Oper} {o : Oper} {a : Act} {Q : Exit → Act → World → Prop}
theorem store_event {W w1 : World} (hgd : o.guard = none) {t : TypeId} {p : Tmp} {v : Operand} (_ho : o.op = .store t (.tmp p) v) (hN : o.dst = none)
  (hrun : (execOp a.eval o).run P W = .ok .skip w1) (h : ∀ w', w' = w1 → wpList P ops Q rest a w') : wpList P ops Q (o :: rest) a W := by
 refine wpList_plain hgd fun K hK => ?_
 unfold Oper.wp
 rw [hrun]
 show K (a.put o.dst undef) w1
 rw [hN]
 exact hK _ _ (h _ rfl)
end
namespace Kd
section
variable {α : Type} {enc : α → Value} {h1 : ∀ x, (enc x).oneCell' = true} {e base g n cap : Nat} {ok : Nat → Prop} {W : World} {xs : List α}
theorem R_putg (h : (scalar enc h1).R e W base ok (.slice (some ⟨g, 0, none⟩) n cap) xs) (i : Int) (x : α) : (scalar enc h1).R e (W.setCell ⟨g, i.toNat, none⟩ (enc x)) base ok (.slice (some ⟨g, 0, none⟩) n cap) (xs.set i.toNat x) ∧ W.grownBy (W.setCell ⟨g, i.toNat, none⟩ (enc x)) (some g) := by
 obtain ⟨rfl, _⟩ := R_reads' h
 exact R_put h i x
end
end Kd
section
variable {P : Program} {ops : Array Oper} {rest : List Oper} {o : Oper} {a : Act} {Q : Exit → Act → World → Prop} {W : World}
theorem gate_dst {N : Tmp} (_hN : o.dst = some N) (h : wpList P ops Q (o :: rest) a W) : wpList P ops Q (o :: rest) a W := h
theorem gate_store {t : TypeId} {p : Tmp} {v : Operand} (_ho : o.op = .store t (.tmp p) v) (h : wpList P ops Q (o :: rest) a W) : wpList P ops Q (o :: rest) a W := h
end
section
variable {P : Program} {ops : Array Oper} {o : Oper} {a : Act} {Q : Exit → Act → World → Prop} {Kc : Act → World → Prop}
theorem event_step {W w1 : World} {v : Value} (hw : Region.wanted o (yielded ops a.tmps) = true) (hrun : (execOp a.eval o).run P W = .ok (.value v) w1) (h : Kc (a.put o.dst v) w1) : if Region.wanted o (yielded ops a.tmps) = true then Oper.wp P o a W Kc Q else Kc (a.put o.dst undef) W := by
 rw [if_pos hw]
 unfold Oper.wp
 rw [hrun]
 exact h
namespace Kd
variable {α : Type}
theorem R_lit_step (d : Kd α) {w0 W : World} (base e : Nat) (hw : Region.wanted o (yielded ops a.tmps) = true) {N : Tmp} (_hd : o.dst = some N) {xs : List α} {inner : List Value} {ok okp : Nat → Prop}
  (hrun : (execOp a.eval o).run P W = .ok (.value (.slice (some ⟨W.heap.size, 0, none⟩) xs.length xs.length)) (W.alloc (.cells inner.toArray e)))
  (hrep : Reps (d.M W base okp) d.sz xs inner) (hok : ∀ k, okp k → ok k) (hfresh : ok W.heap.size) (HB : Below base w0 W) (hbase : base ≤ W.heap.size) (hm : xs.length ≤ 9223372036854775807)
  (h : ∀ v1 w1, d.R e w1 base ok v1 xs → Below base w0 w1 → W.grownBy w1 none → (∃ b, v1.ownBlock = some b ∧ W.heap.size ≤ b) → Kc (a.put o.dst v1) w1) : if Region.wanted o (yielded ops a.tmps) = true then Oper.wp P o a W Kc Q else Kc (a.put o.dst undef) W := by
 refine event_step hw hrun (h _ _ ⟨fun k hk => ?_, inner, ?_, ?_⟩ (HB.alloc hbase _) (World.grownBy_alloc W _ none) ⟨W.heap.size, by simp [Value.ownBlock], Nat.le_refl _⟩)
 ·have : W.heap.size = k := by simpa [Value.ownBlock] using hk
  subst this
  exact hfresh
 ·have h2 := World.ownsRow_lit (base := base) (e := e) (size := d.sz) W inner.toArray xs.length hbase (by simpa [maxLen] using hm) (by simpa using hrep.1)
  simpa using h2
 ·refine hrep.imp_ (fun p c hp => d.M_mono (fun k hk => ⟨hok k hk.1, fun he => ?_⟩) (M_below (d.M_bound hp) (below_alloc (Below.refl _ _) _)))
  have h3 : k = W.heap.size := by simpa [Value.ownBlock] using he
  have := hk.2.2.1
  omega
theorem R_append_rows_step (d : Kd α) {Rr : α → List Value → Prop} {w0 W : World} (base : Nat) (hw : Region.wanted o (yielded ops a.tmps) = true) (s x : Operand) (t e : TypeId) (z : Value) (bytes : Nat)
  (ho : o.op = .call { callee := .builtin .append, args := #[s, x], argTypes := #[t, t] })
  (ht : P.underlying t = some (.slice e)) (hinfo : (P.info? e).map (fun i => (i.zero, i.size, i.bytes)) = some (some z, d.sz, bytes)) (hz : z.cells.size = d.sz) (hs0 : 0 < d.sz) (hb0 : 0 < bytes)
  (v : Value) (xs ys : List α) (A : Option Addr) (m c : Nat) (ok okp : Nat → Prop) (hs : a.eval s = v) (hx : a.eval x = .slice A m c)
  (HO : d.R e W base ok v xs) (HR : ReadsRow Rr d.sz W A m ys) (hKM : ∀ x cs, Rr x cs → d.M W base okp x cs) (hokp : ∀ k, okp k → ok k ∧ some k ≠ v.ownBlock) (hfresh : ∀ k, W.heap.size ≤ k → ok k)
  (HB : Below base w0 W) (hbase : base ≤ W.heap.size) (hl : (xs.length + m) * bytes ≤ 140737488355328)
  (h : ∀ v1 w1, d.R e w1 base ok v1 (xs ++ ys) → Below base w0 w1 → W.grownBy w1 v.ownBlock → (v1.ownBlock = v.ownBlock ∨ ∃ b, v1.ownBlock = some b ∧ W.heap.size ≤ b) → Kc (a.put o.dst v1) w1) :
  if Region.wanted o (yielded ops a.tmps) = true then Oper.wp P o a W Kc Q else Kc (a.put o.dst undef) W := by
 obtain ⟨i0, hi, hzz⟩ := Option.map_eq_some_iff.1 hinfo
 simp only [Prod.mk.injEq] at hzz
 obtain ⟨hz0, hz1, hz2⟩ := hzz
 have hm : ys.length = m := HR.1
 have hlen : xs.length + m ≤ 140737488355328 := Nat.le_trans (Nat.le_mul_of_pos_right _ hb0) hl
 obtain ⟨hok, inner, hown, hr⟩ := HO
 have hrun : ∃ v1 w1, (Builtin.append_ #[t, t] o.type #[v, .slice A m c]).run P W = .ok v1 w1 ∧ d.R e w1 base ok v1 (xs ++ ys) ∧ W.grownBy w1 v.ownBlock ∧ (v1.ownBlock = v.ownBlock ∨ ∃ b, v1.ownBlock = some b ∧ W.heap.size ≤ b) := by
  rcases A with _ | ad
  ·have h0 : m = 0 := by
    rcases Nat.eq_zero_or_pos m with h0 | h0
    ·exact h0
    ·obtain ⟨ad, h, _⟩ := HR.2.2 h0
     cases h
   subst h0
   obtain rfl : ys = [] := List.eq_nil_of_length_eq_zero hm
   refine ⟨v, W, ?_, by rw [List.append_nil]; exact ⟨hok, inner, hown, hr⟩, World.grownBy.refl W _, .inl rfl⟩
   rcases hown.2 with ⟨rfl, hn⟩ | ⟨g, cap, cur, rfl, _, _, hnc, _⟩
   ·simp [Builtin.append_, run_underlying ht, sizeOf, typeInfo, hi, Builtin.lenOf, Builtin.firstCells]
   ·simp [Builtin.append_, run_underlying ht, sizeOf, typeInfo, hi, Builtin.lenOf, Builtin.firstCells, hnc, storeCells]
  ·obtain ⟨news, hnr, hnc⟩ := ReadsRow.inner_ HR
   have hnM : Reps (d.M W base okp) d.sz ys news := hnr.imp_ (fun p c hp => hKM p c hp)
   have hone : ∀ u ∈ news, u.oneCell' = true := by
    intro u hu
    obtain ⟨q, hq, rfl⟩ := List.mem_iff_getElem.1 hu
    have hql : q / d.sz < ys.length := by
     rw [Nat.div_lt_iff_lt_mul hs0]
     rw [← hnM.1]
     exact hq
    have hc := hnM.2 (q / d.sz) _ (List.getElem?_eq_getElem hql)
    refine d.K_one (d.K_of_M hc) _ ?_
    rw [List.mem_iff_getElem?]
    refine ⟨q % d.sz, ?_⟩
    rw [List.getElem?_take, if_pos (Nat.mod_lt _ hs0), List.getElem?_drop, Nat.mul_comm, Nat.div_add_mod, List.getElem?_eq_getElem hq]
   obtain ⟨v1, w1, hrun, h2, hg, _, hat⟩ := run_append_own_at (P := P) W base t o.type e i0 z d.sz bytes ht hi hz0 hz1 hz2 hz hs0 v xs.length inner hown ad m c news (by rw [hnM.1, hm]) hnc hone (by simp only [maxLen]; omega) hl hbase
   have hat' : v1.ownBlock = v.ownBlock ∨ ∃ b, v1.ownBlock = some b ∧ W.heap.size ≤ b := by
    rcases hat with hat | hat
    ·exact .inl hat
    ·exact .inr ⟨_, hat, Nat.le_refl _⟩
   have hne : ∀ k, some k ≠ v.ownBlock → k < W.heap.size → some k ≠ v1.ownBlock := by
    intro k hk hlt
    rcases hat' with hat | ⟨b, hb, hle⟩
    ·rw [hat]; exact hk
    ·rw [hb]
     intro he
     injection he with he
     omega
   have step : ∀ {q : α} {c : List Value} {o : Nat → Prop}, d.M W base o q c → (∀ k, o k → ok k ∧ some k ≠ v.ownBlock) → d.M w1 base (fun k => ok k ∧ some k ≠ v1.ownBlock) q c := by
    intro q c o hq ho
    have h1 := d.M_move (w1 := w1) (fun k hk => hg.block k hk.2.2.1 (ho k hk.1).2) (d.M_bound hq)
    exact d.M_mono (fun k hk => ⟨(ho k hk.1).1, hne k (ho k hk.1).2 hk.2.2.1⟩) h1
   refine ⟨v1, w1, hrun, ⟨fun k hk => ?_, inner ++ news, by rw [List.length_append, hm]; exact h2, reps_append (hr.imp_ (fun _ _ hq => step hq (fun _ hk => hk))) (hnM.imp_ (fun _ _ hq => step hq hokp))⟩, hg, hat'⟩
   rcases hat' with hat | ⟨b, hb, hle⟩
   ·exact hok k (hat ▸ hk)
   ·rw [hb] at hk
    injection hk with hk
    exact hfresh k (by omega)
 obtain ⟨v1, w1, hr1, h1, hg, hat⟩ := hrun
 rw [if_pos hw]
 unfold Oper.wp execOp
 simp only [ho, resolve, invoke, builtin, Sem.run_bind, Sem.run_pure, Result.andThen_ok, List.map_toArray, List.map_cons, List.map_nil, hs, hx, hr1]
 exact h v1 w1 h1 (HB.grown hg hbase (own_base hown)) hg hat
end Kd
end
end Go.Proofs.YtbbpplnnegdenaaGreatW.PrintWords
end
section
namespace Go.Proofs.YtbbpplnnegdenaaGreatW.PrintLast
section
variable {P : Program} {ops : Array Oper} {Q : Exit → Act → World → Prop} {md : Region.Mode} {S : World → Prop} {ds : List Nat}
def Region.reachB (md : Region.Mode) (ops : Array Oper) (i : Nat) : Nat → Nat → Bool
 | 0, _ => false
 | fuel + 1, d => match ops[d]? with
   | some o => o.after.any fun e => Region.binds md e && (e.on == i || Region.reachB md ops i fuel e.on)
   | none => false
def Region.closedB (md : Region.Mode) (ops : Array Oper) (listed : Array Bool) : Bool :=
 (List.range ops.size).all fun j => !listed.getD j false || match ops[j]? with
  | some o => o.after.all fun e => !Region.binds md e || listed.getD e.on false
  | none => true
def Region.lastB (md : Region.Mode) (ops : Array Oper) (listed : Array Bool) (ds : List Nat) (i : Nat) : Bool :=
 ds.all fun d => listed.getD d true || Region.reachB md ops i ops.size d
def ListedClosed (md : Region.Mode) (ops : Array Oper) (listed : Array Bool) : Prop :=
 ∀ j oj, ops[j]? = some oj → listed.getD j false = true → ∀ e ∈ oj.after, Region.binds md e = true → listed.getD e.on false = true
theorem Region.closedB_spec {listed : Array Bool} (h : Region.closedB md ops listed = true) : ListedClosed md ops listed := by
 intro j oj hj hl e he hb
 have hlt : j < ops.size := (Array.getElem?_eq_some_iff.1 hj).1
 have h1 := List.all_eq_true.1 h j (List.mem_range.2 hlt)
 simp only [hl, hj, Bool.not_true, Bool.false_or] at h1
 have h2 := Array.all_eq_true_iff_forall_mem.1 h1 e he
 simpa [hb] using h2
theorem ListedClosed.set {listed : Array Bool} {i : Nat} (h : ListedClosed md ops listed) (hi : i ∈ Region.ready md ops listed) : ListedClosed md ops (listed.setIfInBounds i true) := by
 obtain ⟨_, oi, hoi, hall⟩ := mem_ready.1 hi
 intro j oj hj hl e he hb
 by_cases hij : i = j
 ·subst hij
  have : oj = oi := Option.some.inj (hj.symm.trans hoi)
  subst this
  exact getD_set_true (hall e he hb)
 ·rw [getD_set_ne false hij] at hl
  exact getD_set_true (h j oj hj hl e he hb)
theorem Region.reach_listed {listed : Array Bool} {i : Nat} (hc : ListedClosed md ops listed) : ∀ (fuel d : Nat), Region.reachB md ops i fuel d = true → listed.getD d false = true → listed.getD i false = true
 | 0, _, h, _ => by simp [Region.reachB] at h
 | fuel + 1, d, h, hl => by
   unfold Region.reachB at h
   cases ho : ops[d]? with
   | none => rw [ho] at h; simp at h
   | some o =>
     rw [ho] at h
     obtain ⟨e, he, h1⟩ := Array.any_eq_true'.1 h
     simp only [Bool.and_eq_true, Bool.or_eq_true, beq_iff_eq] at h1
     have hle := hc d o ho hl e he h1.1
     rcases h1.2 with h2 | h2
     ·rw [← h2]; exact hle
     ·exact Region.reach_listed hc fuel e.on h2 hle
theorem Region.reach_not_ready {listed : Array Bool} {i d fuel : Nat} (hc : ListedClosed md ops listed) (hr : Region.reachB md ops i fuel d = true) (hun : listed.getD i true = false) : d ∉ Region.ready md ops listed := by
 intro hd
 obtain ⟨_, o, ho, hall⟩ := mem_ready.1 hd
 have hi : listed.getD i false = true := by
  cases fuel with
  | zero => simp [Region.reachB] at hr
  | succ n =>
    unfold Region.reachB at hr
    rw [ho] at hr
    obtain ⟨e, he, h1⟩ := Array.any_eq_true'.1 hr
    simp only [Bool.and_eq_true, Bool.or_eq_true, beq_iff_eq] at h1
    have hle := hall e he h1.1
    rcases h1.2 with h2 | h2
    ·rw [← h2]; exact hle
    ·exact Region.reach_listed hc n e.on h2 hle
 rcases Nat.lt_or_ge i listed.size with h' | h'
 ·simp [h'] at hun hi
  rw [hun] at hi
  cases hi
 ·simp [Array.getElem?_eq_none h'] at hun
def wpAnyLast (P : Program) (md : Region.Mode) (ops : Array Oper) (Q : Exit → Act → World → Prop) (S : World → Prop) (ds : List Nat) : Nat → Array Bool → Act → World → Prop
 | 0, listed, a, w => Region.ready md ops listed = [] ∧ Q .normal a w
 | fuel + 1, listed, a, w =>
   (Region.ready md ops listed = [] → Q .normal a w) ∧
   ∀ i ∈ Region.ready md ops listed, wpOp P ops Q i (fun a' w' => (i ∉ ds → S w → S w') ∧ wpAnyLast P md ops Q S ds fuel (listed.setIfInBounds i true) a' w') a w
theorem wpAny_of_last : ∀ (fuel : Nat) (listed : Array Bool) (a : Act) (w : World), wpAnyLast P md ops Q S ds fuel listed a w → wpAny P md ops Q fuel listed a w
 | 0, _, _, _, h => h
 | fuel + 1, _, _, _, h => ⟨h.1, fun i hi => wpOp_mono (fun a' w' h' => wpAny_of_last fuel _ a' w' h'.2) (h.2 i hi)⟩
theorem wpAnyLast_first {i : Nat} {oi : Oper} {v : Value} (hi : ops[i]? = some oi) (hsel : ∀ (j : Nat) (o : Oper) cs b, ops[j]? = some o → o.op ≠ .select cs b)
  (hQ : ∀ c a w, Q (.panic c) (a.put oi.dst v) w → Q (.panic c) a w) (n : Nat) :
  ∀ (fuel : Nat) (listed : Array Bool) (a : Act) (w : World),
    (∀ j oj, ops[j]? = some oj → j ≠ i → listed.getD j true = false → (∀ e ∈ oj.after, Region.binds md e = true → e.on ≠ i) → oi.apart ops oj = true) →
    ListedClosed md ops listed → (∀ d ∈ ds, listed.getD d true = false → Region.reachB md ops i n d = true) →
    i ∈ Region.ready md ops listed → YieldsIf P ops S oi v a → S w →
    wpAnyLast P md ops Q S ds fuel (listed.setIfInBounds i true) (a.put oi.dst v) w → wpAnyLast P md ops Q S ds (fuel + 1) listed a w := by
 intro fuel
 induction fuel with
 | zero =>
   intro listed a w _ _ _ hr hy hS H
   refine ⟨fun h => (by rw [h] at hr; cases hr), fun j hj => ?_⟩
   by_cases hji : j = i
   ·subst hji; exact hy.wpOp hi hS ⟨fun _ h => h, H⟩
   ·have := ready_mono hj hji
    rw [H.1] at this
    cases this
 | succ fuel ih =>
   intro listed a w hfree hc hd hr hy hS H
   refine ⟨fun h => (by rw [h] at hr; cases hr), fun j hj => ?_⟩
   by_cases hji : j = i
   ·subst hji; exact hy.wpOp hi hS ⟨fun _ h => h, H⟩
   ·have h1 := H.2 j (ready_mono hj hji)
    obtain ⟨hjun, oj, hoj, hall⟩ := mem_ready.1 hj
    have hiun := (mem_ready.1 hr).1
    have hnot : ∀ e ∈ oj.after, Region.binds md e = true → e.on ≠ i := fun e he hb heq => by
     have h1 := hall e he hb
     rw [heq] at h1
     rcases Nat.lt_or_ge i listed.size with h' | h'
     ·simp [h'] at hiun h1; rw [hiun] at h1; cases h1
     ·simp [Array.getElem?_eq_none h'] at h1
    have hjd : j ∉ ds := fun hm => Region.reach_not_ready hc (hd j hm hjun) hiun hj
    have h2 := wpOp_putIf hoj (hfree j oj hoj hji hjun hnot) (fun cs b => hsel i oi cs b hi) (fun cs b => hsel j oj cs b hoj) hQ hy h1
    have hfree' : ∀ k ok, ops[k]? = some ok → k ≠ i → (listed.setIfInBounds j true).getD k true = false →
      (∀ e ∈ ok.after, Region.binds md e = true → e.on ≠ i) → oi.apart ops ok = true := fun k ok hk hki hun hno => by
     refine hfree k ok hk hki ?_ hno
     by_cases hjk : j = k
     ·subst hjk; exact hjun
     ·rw [getD_set_ne true hjk] at hun; exact hun
    have hd' : ∀ d ∈ ds, (listed.setIfInBounds j true).getD d true = false → Region.reachB md ops i n d = true := fun d hm hun => by
     refine hd d hm ?_
     by_cases hjk : j = d
     ·subst hjk; exact hjun
     ·rw [getD_set_ne true hjk] at hun; exact hun
    refine wpOp_mono (fun a' w' h3 => ⟨h3.2.1, ih (listed.setIfInBounds j true) a' w' hfree' (hc.set hj) hd' (ready_mono hr (Ne.symm hji)) h3.1 (h3.2.1 hjd hS) ?_⟩) h2
    rw [Array.setIfInBounds_comm _ _ hji]
    exact h3.2.2
theorem wpAnyLast_any {i : Nat} {oi : Oper} {v : Value} (hi : ops[i]? = some oi) (hsel : ∀ (j : Nat) (o : Oper) cs b, ops[j]? = some o → o.op ≠ .select cs b)
  (hQ : ∀ c a w, Q (.panic c) (a.put oi.dst v) w → Q (.panic c) a w) :
  ∀ (fuel : Nat) (listed : Array Bool) (a : Act) (w : World),
    (∀ j oj, ops[j]? = some oj → j ≠ i → listed.getD j true = false → (∀ e ∈ oj.after, Region.binds md e = true → e.on ≠ i) → oi.apart ops oj = true) →
    i ∈ Region.ready md ops listed → Yields P ops oi v a →
    wpAnyLast P md ops Q S ds fuel (listed.setIfInBounds i true) (a.put oi.dst v) w → wpAnyLast P md ops Q S ds (fuel + 1) listed a w := by
 intro fuel
 induction fuel with
 | zero =>
   intro listed a w _ hr hy H
   refine ⟨fun h => (by rw [h] at hr; cases hr), fun j hj => ?_⟩
   by_cases hji : j = i
   ·subst hji; exact (hy.yieldsIf (S := fun _ => True)).wpOp hi trivial ⟨fun _ h => h, H⟩
   ·have := ready_mono hj hji
    rw [H.1] at this
    cases this
 | succ fuel ih =>
   intro listed a w hfree hr hy H
   refine ⟨fun h => (by rw [h] at hr; cases hr), fun j hj => ?_⟩
   by_cases hji : j = i
   ·subst hji; exact (hy.yieldsIf (S := fun _ => True)).wpOp hi trivial ⟨fun _ h => h, H⟩
   ·have h1 := H.2 j (ready_mono hj hji)
    obtain ⟨hjun, oj, hoj, hall⟩ := mem_ready.1 hj
    have hiun := (mem_ready.1 hr).1
    have hnot : ∀ e ∈ oj.after, Region.binds md e = true → e.on ≠ i := fun e he hb heq => by
     have h1 := hall e he hb
     rw [heq] at h1
     rcases Nat.lt_or_ge i listed.size with h' | h'
     ·simp [h'] at hiun h1; rw [hiun] at h1; cases h1
     ·simp [Array.getElem?_eq_none h'] at h1
    have h2 := wpOp_put hoj (hfree j oj hoj hji hjun hnot) (fun cs b => hsel i oi cs b hi) (fun cs b => hsel j oj cs b hoj) hQ hy h1
    have hfree' : ∀ k ok, ops[k]? = some ok → k ≠ i → (listed.setIfInBounds j true).getD k true = false →
      (∀ e ∈ ok.after, Region.binds md e = true → e.on ≠ i) → oi.apart ops ok = true := fun k ok hk hki hun hno => by
     refine hfree k ok hk hki ?_ hno
     by_cases hjk : j = k
     ·subst hjk; exact hjun
     ·rw [getD_set_ne true hjk] at hun; exact hun
    refine wpOp_mono (fun a' w' h3 => ⟨h3.2.1, ih (listed.setIfInBounds j true) a' w' hfree' (ready_mono hr (Ne.symm hji)) h3.1 ?_⟩) h2
    rw [Array.setIfInBounds_comm _ _ hji]
    exact h3.2.2
theorem wpAnyLast_take {i : Nat} {oi : Oper} {v : Value} {fuel : Nat} {listed : Array Bool} {a : Act} {w : World} (hi : ops[i]? = some oi)
  (hs : Region.noSelect ops = true) (hf : Region.free md ops listed i = true) (hr : (Region.ready md ops listed).contains i = true)
  (hc : Region.closedB md ops listed = true) (hl : Region.lastB md ops listed ds i = true)
  (hQ : ∀ c a w, Q (.panic c) (a.put oi.dst v) w → Q (.panic c) a w) (hy : YieldsIf P ops S oi v a) (hS : S w)
  (h : wpAnyLast P md ops Q S ds fuel (listed.setIfInBounds i true) (a.put oi.dst v) w) : wpAnyLast P md ops Q S ds (fuel + 1) listed a w :=
 wpAnyLast_first hi (Region.noSelect_spec hs) hQ ops.size fuel listed a w (Region.free_spec hi hf) (Region.closedB_spec hc)
  (fun d hm hun => by have := List.all_eq_true.1 hl d hm; rw [hun] at this; simpa using this) (by simpa using hr) hy hS h
theorem wpAnyLast_all {rs : List Nat} {fuel : Nat} {listed : Array Bool} {a : Act} {w : World} (hr : Region.ready md ops listed = rs) (hne : rs ≠ [])
  (h : ∀ i ∈ rs, wpOp P ops Q i (fun a' w' => (i ∉ ds → S w → S w') ∧ wpAnyLast P md ops Q S ds fuel (listed.setIfInBounds i true) a' w') a w) : wpAnyLast P md ops Q S ds (fuel + 1) listed a w :=
 ⟨fun h0 => absurd (hr ▸ h0) hne, hr ▸ h⟩
theorem wpAnyLast_done {listed : Array Bool} {a : Act} {w : World} (hr : Region.ready md ops listed = []) (h : Q .normal a w) :
  ∀ fuel, wpAnyLast P md ops Q S ds fuel listed a w
 | 0 => ⟨hr, h⟩
 | _ + 1 => ⟨fun _ => h, by rw [hr]; simp⟩
theorem wp_region_last {id : Nat} {a : Act} {w : World} (hm : P.follows .mixedOrders = true)
  (h : wpAnyLast P .any ops Q S ds ops.size (Array.replicate ops.size false) a { w with drawn := w.drawn + 1 }) : (Code.region id ops true).wp P Q a w :=
 wp_region_any hm (wpAny_of_last _ _ _ _ h)
end
section
variable {P : Program} {ops : Array Oper} {Q : Exit → Act → World → Prop} {md : Region.Mode} {S : World → Prop} {ds : List Nat}
def AllReadyL (P : Program) (md : Region.Mode) (ops : Array Oper) (Q : Exit → Act → World → Prop) (S : World → Prop) (ds : List Nat) (fuel : Nat) (listed : Array Bool) (a : Act) (w : World) (rs : List Nat) : Prop :=
 ∀ i ∈ rs, wpOp P ops Q i (fun a' w' => (i ∉ ds → S w → S w') ∧ wpAnyLast P md ops Q S ds fuel (listed.setIfInBounds i true) a' w') a w
theorem AllReadyL.nil {fuel : Nat} {listed : Array Bool} {a : Act} {w : World} : AllReadyL P md ops Q S ds fuel listed a w [] := fun _ h => by cases h
theorem AllReadyL.cons {fuel : Nat} {listed : Array Bool} {a : Act} {w : World} {i : Nat} {o : Oper} {rs : List Nat} (ho : ops[i]? = some o) (hd : i ∉ ds)
  (h : ∀ K' : Act → World → Prop, Shut (∀ a w, S w → (S w → wpAnyLast P md ops Q S ds fuel (listed.setIfInBounds i true) a w) → K' a w) → if Region.wanted o (yielded ops a.tmps) = true then Oper.wp P o a w K' Q else K' (a.put o.dst undef) w)
  (hs : AllReadyL P md ops Q S ds fuel listed a w rs) : AllReadyL P md ops Q S ds fuel listed a w (i :: rs) := fun j hj => by
 rcases List.mem_cons.1 hj with rfl | hj
 ·exact wpOp_step ho (fun K' hK => h K' (fun a w hS hW => hK a w ⟨fun _ _ => hS, hW hS⟩))
 ·exact hs j hj
theorem AllReadyL.cons_last {fuel : Nat} {listed : Array Bool} {a : Act} {w : World} {i : Nat} {o : Oper} {rs : List Nat} (ho : ops[i]? = some o) (hd : i ∈ ds)
  (h : ∀ K' : Act → World → Prop, Shut (∀ a w, wpAnyLast P md ops Q S ds fuel (listed.setIfInBounds i true) a w → K' a w) → if Region.wanted o (yielded ops a.tmps) = true then Oper.wp P o a w K' Q else K' (a.put o.dst undef) w)
  (hs : AllReadyL P md ops Q S ds fuel listed a w rs) : AllReadyL P md ops Q S ds fuel listed a w (i :: rs) := fun j hj => by
 rcases List.mem_cons.1 hj with rfl | hj
 ·exact wpOp_step ho (fun K' hK => h K' (fun a w hW => hK a w ⟨fun hn => absurd hd hn, hW⟩))
 ·exact hs j hj
theorem wpAnyLast_ready {rs : List Nat} {fuel : Nat} {listed : Array Bool} {a : Act} {w : World} (hr : Region.ready md ops listed = rs) (hne : rs ≠ [])
  (h : AllReadyL P md ops Q S ds fuel listed a w rs) : wpAnyLast P md ops Q S ds (fuel + 1) listed a w := wpAnyLast_all hr hne h
theorem start_ {id n : Nat} {a : Act} {w : World} (l : Array Bool) (hm : P.follows .mixedOrders = true) (hn : ops.size = n) (hl : Array.replicate n false = l) (hS : S w.drew)
  (h : S w.drew → wpAnyLast P .any ops Q S ds n l a w.drew) : (Code.region id ops true).wp P Q a w := by
 subst hn
 subst hl
 exact wp_region_last hm (h hS)
def takeB (md : Region.Mode) (ops : Array Oper) (ds : List Nat) (l l' : Array Bool) (i : Nat) : Bool :=
 Region.noSelect ops && Region.free md ops l i && (Region.ready md ops l).contains i && Region.closedB md ops l && Region.lastB md ops l ds i && (l.setIfInBounds i true == l')
theorem take_ {i : Nat} {N : Option Tmp} {oi : Oper} {v : Value} {fuel : Nat} {l : Array Bool} {a : Act} {w : World} (l' : Array Bool) (hi : ops[i]? = some oi) (hN : oi.dst = N) (hc : takeB md ops ds l l' i = true)
  (hQ : ∀ c a w, Q (.panic c) (a.put oi.dst v) w → Q (.panic c) a w) (hy : YieldsIf P ops S oi v a) (hS : S w) {a' : Act} (ha : a.put N v = a')
  (h : wpAnyLast P md ops Q S ds fuel l' a' w) : wpAnyLast P md ops Q S ds (fuel + 1) l a w := by
 subst ha
 subst hN
 simp only [takeB, Bool.and_eq_true, beq_iff_eq] at hc
 obtain ⟨⟨⟨⟨⟨h1, h2⟩, h3⟩, h4⟩, h5⟩, h6⟩ := hc
 subst h6
 exact wpAnyLast_take hi h1 h2 h3 h4 h5 hQ hy hS h
def anyB (md : Region.Mode) (ops : Array Oper) (l l' : Array Bool) (i : Nat) : Bool :=
 Region.noSelect ops && Region.free md ops l i && (Region.ready md ops l).contains i && (l.setIfInBounds i true == l')
theorem pure_ {i : Nat} {N : Option Tmp} {oi : Oper} {v : Value} {fuel : Nat} {l : Array Bool} {a : Act} {w : World} (l' : Array Bool) (hi : ops[i]? = some oi) (hN : oi.dst = N) (hc : anyB md ops l l' i = true)
  (hQ : ∀ c a w, Q (.panic c) (a.put oi.dst v) w → Q (.panic c) a w) (hy : Yields P ops oi v a) {a' : Act} (ha : a.put N v = a')
  (h : wpAnyLast P md ops Q S ds fuel l' a' w) : wpAnyLast P md ops Q S ds (fuel + 1) l a w := by
 subst ha
 subst hN
 simp only [anyB, Bool.and_eq_true, beq_iff_eq] at hc
 obtain ⟨⟨⟨h1, h2⟩, h3⟩, h6⟩ := hc
 subst h6
 exact wpAnyLast_any hi (Region.noSelect_spec h1) hQ fuel l a w (Region.free_spec hi h2) (by simpa using h3) hy h
def readyB (md : Region.Mode) (ops : Array Oper) (l l' : Array Bool) (i : Nat) : Bool := (Region.ready md ops l == [i]) && (l.setIfInBounds i true == l')
theorem one_ {i : Nat} {N : Option Tmp} {oi : Oper} {fuel : Nat} {l : Array Bool} {a : Act} {w : World} (l' : Array Bool) (hi : ops[i]? = some oi) (hN : oi.dst = N) (hc : readyB md ops l l' i = true) (hd : i ∉ ds)
  (h : ∀ K : Act → World → Prop, Shut (∀ a' w', S w' → (S w' → wpAnyLast P md ops Q S ds fuel l' a' w') → K a' w') → if Region.wanted oi (yielded ops a.tmps) = true then Oper.wp P oi a w K Q else K (a.put N undef) w) :
  wpAnyLast P md ops Q S ds (fuel + 1) l a w := by
 subst hN
 simp only [readyB, Bool.and_eq_true, beq_iff_eq] at hc
 obtain ⟨h1, h2⟩ := hc
 subst h2
 exact wpAnyLast_ready h1 (by simp) (AllReadyL.cons hi hd (fun K hK => h K hK) AllReadyL.nil)
theorem last_ {i : Nat} {N : Option Tmp} {oi : Oper} {fuel : Nat} {l : Array Bool} {a : Act} {w : World} (l' : Array Bool) (hi : ops[i]? = some oi) (hN : oi.dst = N) (hc : readyB md ops l l' i = true) (hd : i ∈ ds)
  (h : ∀ K : Act → World → Prop, Shut (∀ a' w', wpAnyLast P md ops Q S ds fuel l' a' w' → K a' w') → if Region.wanted oi (yielded ops a.tmps) = true then Oper.wp P oi a w K Q else K (a.put N undef) w) :
  wpAnyLast P md ops Q S ds (fuel + 1) l a w := by
 subst hN
 simp only [readyB, Bool.and_eq_true, beq_iff_eq] at hc
 obtain ⟨h1, h2⟩ := hc
 subst h2
 exact wpAnyLast_ready h1 (by simp) (AllReadyL.cons_last hi hd (fun K hK => h K hK) AllReadyL.nil)
theorem done_ {l : Array Bool} {a : Act} {w : World} {n : Nat} (hr : (Region.ready md ops l == []) = true) (h : Q .normal a w) : wpAnyLast P md ops Q S ds n l a w := wpAnyLast_done (by simpa using hr) h n
theorem norm_ {fuel : Nat} {l : Array Bool} {a a' : Act} {w : World} (ha : a = a') (h : wpAnyLast P md ops Q S ds fuel l a' w) : wpAnyLast P md ops Q S ds fuel l a w := by
 subst ha
 exact h
theorem call_ {oi : Oper} {N : Option Tmp} {a : Act} {w : World} {K : Act → World → Prop} (f : FuncId) (args : Array Value) (hw : Region.wanted oi (yielded ops a.tmps) = true) (hN : oi.dst = N) (hrun : (execOp a.eval oi).run P w = .ok (.enter f args) w)
  (h : Calls P f args w fun e w' => ∃ v, e = .returned v ∧ K (a.put N v) w') : if Region.wanted oi (yielded ops a.tmps) = true then Oper.wp P oi a w K Q else K (a.put N undef) w := by
 rw [if_pos hw]
 subst hN
 unfold Oper.wp
 rw [hrun, Oper.upon_enter]
 refine h.mono fun e w'' hh => ?_
 obtain ⟨v, rfl, hk⟩ := hh
 exact hk
theorem enters_ {f : FuncId} {fn : Func} (hf : P.funcs[f]? = some fn) (hname : (fn.name == "runtime.NumGoroutine") = false) (hb : fn.body.isSome = true) (args : Array Value) (w : World) : (callFunc f args).run P w = .ok (.enter f args) w := by
 have h1 : fn.name ≠ "runtime.NumGoroutine" := by simpa using hname
 obtain ⟨c, hc⟩ := Option.isSome_iff_exists.1 hb
 simp [callFunc, hf, h1, hc]
theorem goes_ {oi : Oper} {N : Option Tmp} {a : Act} {w : World} {K : Act → World → Prop} {f : FuncId} {fn : Func} {aS : Array Operand} {ts : Array TypeId} (hf : P.funcs[f]? = some fn) (hname : (fn.name == "runtime.NumGoroutine") = false) (hb : fn.body.isSome = true) (args : Array Value)
  (hw : Region.wanted oi (yielded ops a.tmps) = true) (hN : oi.dst = N) (hop : oi.op = .call { callee := .value (.func f), args := aS, argTypes := ts }) (hargs : aS.map a.eval = args)
  (h : Calls P f args w fun e w' => ∃ v, e = .returned v ∧ K (a.put N v) w') : if Region.wanted oi (yielded ops a.tmps) = true then Oper.wp P oi a w K Q else K (a.put N undef) w := by
 refine call_ f args hw hN ?_ h
 have he := enters_ hf hname hb args w
 unfold execOp
 simp [hop, resolve, Deferred.ofValue, invoke, Act.eval, hargs, he]
theorem goesL_ {rest : List Oper} {oi : Oper} {a : Act} {w : World} (N : Option Tmp) (hd : oi.dst = N) (hg : oi.guard = none) {f : FuncId} {fn : Func} {aS : Array Operand} {ts : Array TypeId} (hf : P.funcs[f]? = some fn) (hname : (fn.name == "runtime.NumGoroutine") = false) (hb : fn.body.isSome = true) (args : Array Value)
  (hop : oi.op = .call { callee := .value (.func f), args := aS, argTypes := ts }) (hargs : aS.map a.eval = args)
  (h : Calls P f args w fun e w' => ∃ v, e = .returned v ∧ wpList P ops Q rest (a.put N v) w') : wpList P ops Q (oi :: rest) a w := by
 refine wpList_plain hg fun K hK => ?_
 have he := enters_ hf hname hb args w
 have hrun : (execOp a.eval oi).run P w = .ok (.enter f args) w := by
  unfold execOp
  simp [hop, resolve, Deferred.ofValue, invoke, Act.eval, hargs, he]
 unfold Oper.wp
 rw [hrun, Oper.upon_enter]
 refine h.mono fun e w'' hh => ?_
 obtain ⟨v, rfl, hk⟩ := hh
 subst hd
 exact hK _ _ hk
theorem value_ {oi : Oper} {N : Option Tmp} {a : Act} {w w1 : World} {v : Value} {K : Act → World → Prop} (hw : Region.wanted oi (yielded ops a.tmps) = true) (hN : oi.dst = N) (hrun : (execOp a.eval oi).run P w = .ok (.value v) w1)
  (h : K (a.put N v) w1) : if Region.wanted oi (yielded ops a.tmps) = true then Oper.wp P oi a w K Q else K (a.put N undef) w := by
 rw [if_pos hw]
 subst hN
 unfold Oper.wp
 rw [hrun]
 exact h
theorem skip_ {oi : Oper} {a : Act} {w w1 : World} {K : Act → World → Prop} (hw : Region.wanted oi (yielded ops a.tmps) = true) (hN : oi.dst = none) (hrun : (execOp a.eval oi).run P w = .ok .skip w1)
  (h : K a w1) : if Region.wanted oi (yielded ops a.tmps) = true then Oper.wp P oi a w K Q else K (a.put none undef) w := by
 rw [if_pos hw]
 unfold Oper.wp
 rw [hrun]
 show K (a.put oi.dst undef) w1
 rw [hN]
 exact h
theorem i64_w (n : Int) : IntKind.i64.wrap n = Go.RowKit.wrap64 n := by unfold Go.RowKit.wrap64; exact IntKind.wrap_i64 n
theorem i32_w (n : Int) : IntKind.i32.wrap n = Go.RowKit.wrap32 n := by unfold Go.RowKit.wrap32; exact IntKind.wrap_i32 n
end
end Go.Proofs.YtbbpplnnegdenaaGreatW.PrintLast
end
section
namespace Go.Proofs.YtbbpplnnegdenaaGreatW.PrintWords
open Go.RowKit
namespace Kd
def tag {α : Type} (f : Nat → Nat) (d : Kd α) : Kd (α × Nat) where
 sz := d.sz
 E := d.E
 K := fun w x cs => d.K w x.1 cs
 M := fun w base ok x cs => d.M w base (fun k => ok k ∧ f k = x.2) x.1 cs
 K_len := fun h => d.K_len h
 K_one := fun h => d.K_one h
 K_below := fun hb h => d.K_below hb h
 K_of_M := fun h => d.K_of_M h
 M_mono := fun hok h => d.M_mono (fun k hk => ⟨hok k hk.1, hk.2⟩) h
 M_bound := fun h => d.M_mono (fun _ hk => ⟨⟨hk.1.1, hk.2⟩, hk.1.2⟩) (d.M_bound h)
 M_move := fun hm h => d.M_move (fun k hk => hm k hk.1) h
 M_lower := fun hb h => d.M_lower hb h
def bare {α : Type} (d : Kd α) : Kd α where
 sz := d.sz
 E := d.E
 K := d.K
 M := fun w base _ x cs => d.M w base (fun _ => False) x cs
 K_len := fun h => d.K_len h
 K_one := fun h => d.K_one h
 K_below := fun hb h => d.K_below hb h
 K_of_M := fun h => d.K_of_M h
 M_mono := fun _ h => h
 M_bound := fun h => h
 M_move := fun _ h => d.M_move (fun _ hk => hk.elim) h
 M_lower := fun hb h => d.M_lower hb h
def raw (sz : Nat) : Kd (List Value) where
 sz := sz
 E := []
 K := fun _ x cs => cs = x ∧ cs.length = sz ∧ ∀ u ∈ cs, u.oneCell' = true
 M := fun _ _ _ x cs => cs = x ∧ cs.length = sz ∧ ∀ u ∈ cs, u.oneCell' = true
 K_len := fun h => h.2.1
 K_one := fun h => h.2.2
 K_below := fun _ h => h
 K_of_M := fun h => h
 M_mono := fun _ h => h
 M_bound := fun h => h
 M_move := fun _ h => h
 M_lower := fun _ h => h
def S {α : Type} (d : Kd α) (e : Nat) (w : World) (base : Nat) (ok : Nat → Prop) (v : Value) (xs : List α) : Prop := ∃ f, (tag f d).R e w base ok v xs.zipIdx
section
variable {α β : Type} {d : Kd α} {d' : Kd β} {e e' : Nat} {w w1 W : World} {base b : Nat} {ok ok' okv oku : Nat → Prop} {u v : Value} {xs : List α} {ys : List β}
theorem S_nil (d : Kd α) (e : Nat) (w : World) (base : Nat) (ok : Nat → Prop) : S d e w base ok (.slice none 0 0) [] := ⟨fun _ => 0, R_nil _ _ _ _ _⟩
end
def gap {α : Type} (f : Nat → Nat) (d : Kd α) (i : Nat) (c : List Value) : Kd (α × Nat) where
 sz := d.sz
 E := d.E
 K := fun w x cs => (x.2 = i → cs = c ∧ cs.length = d.sz ∧ ∀ u ∈ cs, u.oneCell' = true) ∧ (x.2 ≠ i → d.K w x.1 cs)
 M := fun w base ok x cs => (x.2 = i → cs = c ∧ cs.length = d.sz ∧ ∀ u ∈ cs, u.oneCell' = true) ∧ (x.2 ≠ i → d.M w base (fun k => ok k ∧ f k = x.2) x.1 cs)
 K_len := fun {w x cs} h => by
  by_cases hx : x.2 = i
  ·exact (h.1 hx).2.1
  ·exact d.K_len (h.2 hx)
 K_one := fun {w x cs} h => by
  by_cases hx : x.2 = i
  ·exact (h.1 hx).2.2
  ·exact d.K_one (h.2 hx)
 K_below := fun hb h => ⟨h.1, fun hx => d.K_below hb (h.2 hx)⟩
 K_of_M := fun h => ⟨h.1, fun hx => d.K_of_M (h.2 hx)⟩
 M_mono := fun hok h => ⟨h.1, fun hx => d.M_mono (fun k hk => ⟨hok k hk.1, hk.2⟩) (h.2 hx)⟩
 M_bound := fun h => ⟨h.1, fun hx => d.M_mono (fun _ hk => ⟨⟨hk.1.1, hk.2⟩, hk.1.2⟩) (d.M_bound (h.2 hx))⟩
 M_move := fun hm h => ⟨h.1, fun hx => d.M_move (fun k hk => hm k hk.1) (h.2 hx)⟩
 M_lower := fun hb h => ⟨h.1, fun hx => d.M_lower hb (h.2 hx)⟩
def H {α : Type} (d : Kd α) (e : Nat) (w : World) (base : Nat) (ok : Nat → Prop) (v : Value) (xs : List α) (i : Int) (oki : Nat → Prop) (c : List Value) : Prop :=
 (∀ k, oki k → ok k) ∧ ∃ f, (gap f d i.toNat c).R e w base (fun k => ok k ∧ ¬ oki k) v xs.zipIdx
end Kd
end Go.Proofs.YtbbpplnnegdenaaGreatW.PrintWords
end
section
namespace Go.Proofs.YtbbpplnnegdenaaGreatW.PrintWords
open Go.RowKit
namespace Kd
theorem reps_one {α : Type} {R : α → List Value → Prop} {size : Nat} {ps : List α} {cs : List Value} (h : Reps R size ps cs) (hs0 : 0 < size) (hR : ∀ p c, R p c → ∀ u ∈ c, u.oneCell' = true) : ∀ u ∈ cs, u.oneCell' = true := by
 intro u hu
 obtain ⟨q, hq, rfl⟩ := List.mem_iff_getElem.1 hu
 have hql : q / size < ps.length := by
  rw [Nat.div_lt_iff_lt_mul hs0, ← h.1]
  exact hq
 refine hR _ _ (h.2 (q / size) _ (List.getElem?_eq_getElem hql)) _ ?_
 rw [List.mem_iff_getElem?]
 refine ⟨q % size, ?_⟩
 rw [List.getElem?_take, if_pos (Nat.mod_lt _ hs0), List.getElem?_drop, Nat.mul_comm, Nat.div_add_mod, List.getElem?_eq_getElem hq]
def arr {α : Type} (n : Nat) (d : Kd α) (hs : 0 < d.sz) : Kd (List α) where
 sz := n * d.sz
 E := d.E
 K := fun w xs cs => xs.length = n ∧ Reps (d.K w) d.sz xs cs
 M := fun w base ok xs cs => xs.length = n ∧ Reps (d.M w base ok) d.sz xs cs
 K_len := fun h => by rw [← h.1]; exact h.2.1
 K_one := fun h => reps_one h.2 hs (fun _ _ hk => d.K_one hk)
 K_below := fun hb h => ⟨h.1, h.2.imp_ (fun _ _ hk => d.K_below hb hk)⟩
 K_of_M := fun h => ⟨h.1, h.2.imp_ (fun _ _ hk => d.K_of_M hk)⟩
 M_mono := fun hok h => ⟨h.1, h.2.imp_ (fun _ _ hk => d.M_mono hok hk)⟩
 M_bound := fun h => ⟨h.1, h.2.imp_ (fun _ _ hk => d.M_bound hk)⟩
 M_move := fun hm h => ⟨h.1, h.2.imp_ (fun _ _ hk => d.M_move hm hk)⟩
 M_lower := fun hb h => ⟨h.1, h.2.imp_ (fun _ _ hk => d.M_lower hb hk)⟩
end Kd
end Go.Proofs.YtbbpplnnegdenaaGreatW.PrintWords
end
section
namespace Go.Proofs.YtbbpplnnegdenaaGreatW.PrintWords
open Go.RowKit
namespace Kd
structure Heap {α : Type} (d : Kd α) : Prop where
 K : ∀ {w w1 : World} {x : α} {cs : List Value}, (∀ k, k < w.heap.size → w1.heap[k]? = w.heap[k]?) → d.K w x cs → d.K w1 x cs
theorem cell_heap {w w1 : World} (hb : ∀ k, k < w.heap.size → w1.heap[k]? = w.heap[k]?) {a : Addr} {v : Value} (h : w.cell? a = some v) : w1.cell? a = some v := by
 have := hb a.block (World.block_lt_of_cell? w a h)
 simpa [World.cell?, this] using h
theorem Heap.C {α : Type} {d : Kd α} (hd : Heap d) {w w1 : World} {A : Option Addr} {n : Nat} {xs : List α} (hb : ∀ k, k < w.heap.size → w1.heap[k]? = w.heap[k]?) (h : d.C w A n xs) : d.C w1 A n xs :=
 ⟨h.1, h.2.1, fun hn => by
  obtain ⟨ad, e, hc⟩ := h.2.2 hn
  refine ⟨ad, e, fun j p hj => ?_⟩
  obtain ⟨c, hs, hr, hcell⟩ := hc j p hj
  exact ⟨c, hs, hd.K hb hr, fun i u hu => cell_heap hb (hcell i u hu)⟩⟩
theorem heap_int (k : IntKind) : Heap (Kd.int k) := ⟨fun _ h => h⟩
end Kd
end Go.Proofs.YtbbpplnnegdenaaGreatW.PrintWords
end
section
namespace Go.Proofs.YtbbpplnnegdenaaGreatW.PrintWords
open Go.RowKit
def Kept (w W : World) (S : Nat → Prop) : Prop := w.heap.size ≤ W.heap.size ∧ ∀ i, i < w.heap.size → ¬ S i → W.heap[i]? = w.heap[i]?
section
variable {w W W2 : World} {S S2 S' : Nat → Prop}
theorem Kept.refl (w : World) (S : Nat → Prop) : Kept w w S := ⟨Nat.le_refl _, fun _ _ _ => rfl⟩
theorem Kept.of_below (h : Below w.heap.size w W) (S : Nat → Prop) : Kept w W S := ⟨h.size, fun i hi _ => h.block i hi⟩
theorem Kept.mono (h : Kept w W S) (hs : ∀ k, S k → S' k) : Kept w W S' := ⟨h.1, fun i hi hn => h.2 i hi (fun hk => hn (hs i hk))⟩
theorem Kept.then_ (h : Kept w W S) (k : Kept W W2 S2) (hs : ∀ k, S2 k → S k ∨ w.heap.size ≤ k) : Kept w W2 S :=
 ⟨Nat.le_trans h.1 k.1, fun i hi hn => (k.2 i (Nat.lt_of_lt_of_le hi h.1) (fun h2 => (hs i h2).elim hn (fun h3 => by omega))).trans (h.2 i hi hn)⟩
theorem Kept.below (h : Kept w W S) (hb : Below W.heap.size W W2) : Kept w W2 S := h.then_ (Kept.of_below hb (fun _ => False)) (fun _ hk => hk.elim)
theorem Kept.alloc (h : Kept w W S) (o : Obj) : Kept w (W.alloc o) S := h.below (below_alloc (Below.refl _ _) o)
theorem Kept.drew (h : Kept w W S) : Kept w W.drew S := h
theorem Kept.drewN (h : Kept w W S) (m : Nat) : Kept w (W.drewN m) S := h
theorem Kept.setCell (h : Kept w W S) {p : Addr} (hp : S p.block ∨ w.heap.size ≤ p.block) (u : Value) : Kept w (W.setCell p u) S :=
 h.then_ (S2 := fun k => k = p.block) ⟨by simp [World.setCell], fun i _ hn => Below.heap_setCell W p u i hn⟩ (fun k hk => by rw [hk]; exact hp)
theorem Kept.keep {g : Nat} (h : KeepBut w W g none) (k : Kept W W2 S2) (hs : ∀ k, S2 k → w.heap.size ≤ k) : KeepBut w W2 g none :=
 ⟨Nat.le_trans h.1 k.1, fun i hi hg hr => (k.2 i (Nat.lt_of_lt_of_le hi h.1) (fun h2 => by have := hs i h2; omega)).trans (h.2 i hi hg hr)⟩
end
end Go.Proofs.YtbbpplnnegdenaaGreatW.PrintWords
end
section
namespace Go.Proofs.YtbbpplnnegdenaaGreatW.PrintWords
open Go.RowKit
def Foot (P : World → Prop) (W : World) (ok : Nat → Prop) : Prop := ∀ W' : World, (∀ k, ok k → k < W.heap.size → W'.heap[k]? = W.heap[k]?) → P W'
theorem heap_lt {W W1 : World} {k : Nat} (h : W1.heap[k]? = W.heap[k]?) (hlt : k < W.heap.size) : k < W1.heap.size := by
 rw [Array.getElem?_eq_getElem hlt] at h
 exact (Array.getElem?_eq_some_iff.1 h).1
namespace Foot
variable {P Q : World → Prop} {W W1 : World} {ok ok' : Nat → Prop}
theorem now (h : Foot P W ok) : P W := h W (fun _ _ _ => rfl)
theorem mono (h : Foot P W ok) (hok : ∀ k, ok k → ok' k) : Foot P W ok' := fun W' hW => h W' (fun k hk hlt => hW k (hok k hk) hlt)
theorem bound (h : Foot P W ok) : Foot P W (fun k => ok k ∧ k < W.heap.size) := fun W' hW => h W' (fun k hk hlt => hW k ⟨hk, hlt⟩ hlt)
theorem step (h : Foot P W ok) (hm : ∀ k, ok k → k < W.heap.size → W1.heap[k]? = W.heap[k]?) : Foot P W1 ok := fun W' hW => h W' (fun k hk hlt => (hW k hk (heap_lt (hm k hk hlt) hlt)).trans (hm k hk hlt))
theorem imp (h : Foot P W ok) (hi : ∀ W', P W' → Q W') : Foot Q W ok := fun W' hW => hi W' (h W' hW)
theorem old (h : Foot P W ok) (hb : Below W.heap.size W W1) : Foot P W1 (fun k => ok k ∧ k < W.heap.size) := (h.bound).step (fun k _ hlt => hb.block k hlt)
end Foot
namespace Kd
def F {α : Type} (d : Kd α) (W : World) (ok : Nat → Prop) (A : Option Addr) (n : Nat) (xs : List α) : Prop := Foot (fun W => d.C W A n xs) W ok
def FK {α : Type} (d : Kd α) (W : World) (ok : Nat → Prop) (x : α) (c : List Value) : Prop := Foot (fun W => d.K W x c) W ok
section
variable {α β : Type} {d : Kd α} {e base n n' cc g N : Nat} {ok ok' okp S : Nat → Prop} {w w0 w1 W W1 : World} {A A' : Option Addr} {u v v1 : Value} {xs : List α} {xs' : List β} {d' : Kd β} {x : α} {c : List Value}
theorem F_now (h : F d W ok A n xs) : d.C W A n xs := Foot.now h
theorem F_mono (h : F d W ok A n xs) (hok : ∀ k, ok k → ok' k) : F d W ok' A n xs := Foot.mono h hok
theorem F_bound (h : F d W ok A n xs) : F d W (fun k => ok k ∧ k < W.heap.size) A n xs := Foot.bound h
theorem F_step (h : F d W ok A n xs) (hm : ∀ k, ok k → k < W.heap.size → W1.heap[k]? = W.heap[k]?) : F d W1 ok A n xs := Foot.step h hm
theorem F_imp (h : F d W ok A n xs) (hi : ∀ W', d.C W' A n xs → d'.C W' A' n' xs') : F d' W ok A' n' xs' := Foot.imp h hi
theorem F_below (h : F d W ok A n xs) (hb : Below W.heap.size W W1) : F d W1 ok A n xs := F_step h (fun k _ hlt => hb.block k hlt)
theorem F_alloc (h : F d W ok A n xs) (o : Obj) : F d (W.alloc o) ok A n xs := F_below h (below_alloc (Below.refl _ _) o)
theorem F_drew (h : F d W ok A n xs) : F d W.drew ok A n xs := F_below h (below_drew (Below.refl _ _))
theorem F_drewN (h : F d W ok A n xs) (m : Nat) : F d (W.drewN m) ok A n xs := F_below h (pw_below_drewN (Below.refl _ _) m)
theorem F_grown (h : F d W ok A n xs) {row : Option Nat} (hg : W.grownBy W1 row) (hok : ∀ k, ok k → some k ≠ row) : F d W1 ok A n xs := F_step h (fun k hk hlt => hg.block k hlt (hok k hk))
theorem F_nil (d : Kd α) (W : World) (ok : Nat → Prop) : F d W ok none ([] : List α).length [] := fun W' _ => C_nil d W'
theorem F_after (h : F d W (fun k => ok k ∧ some k ≠ v.ownBlock) A n xs) (hg : W.grownBy W1 v.ownBlock) (hat : v1.ownBlock = v.ownBlock ∨ ∃ b, v1.ownBlock = some b ∧ W.heap.size ≤ b) : F d W1 (fun k => ok k ∧ some k ≠ v1.ownBlock) A n xs := by
 refine F_mono (Foot.step (F_bound h) (fun k hk hlt => hg.block k hlt hk.1.2)) (fun k hk => ⟨hk.1.1, ?_⟩)
 rcases hat with hat | ⟨b, hb, hle⟩
 ·rw [hat]; exact hk.1.2
 ·rw [hb]
  intro he
  injection he with he
  have := hk.2
  omega
theorem C_F (hd : Heap d) (h : d.C w A n xs) : F d w (fun k => k < w.heap.size) A n xs := fun _ hW => hd.C (fun k hlt => hW k hlt hlt) h
theorem R_F (h : d.R e W base ok (.slice A n cc) xs) : F d W ok A n xs := fun W' hW => by
 have h2 := R_reads' (R_step h hW)
 rw [h2.1]
 exact h2.2.2
theorem FK_of_M (h : d.M W base ok x c) : FK d W ok x c := fun _ hW => d.K_of_M (M_step h hW)
end
end Kd
end Go.Proofs.YtbbpplnnegdenaaGreatW.PrintWords
end
section
namespace Go.Proofs.YtbbpplnnegdenaaGreatW.PrintWords
open Go.RowKit
namespace Kd
def chunks (sz : Nat) (n : Nat) (inner : List Value) : List (List Value) := (List.range n).map fun j => (inner.drop (j * sz)).take sz
theorem chunks_length (sz n : Nat) (inner : List Value) : (chunks sz n inner).length = n := by simp [chunks]
theorem chunks_at {sz n : Nat} {inner : List Value} {j : Nat} (hj : j < n) : (chunks sz n inner)[j]? = some ((inner.drop (j * sz)).take sz) := by simp [chunks, hj]
theorem chunks_get {sz n : Nat} {inner : List Value} {j : Nat} {c : List Value} (h : (chunks sz n inner)[j]? = some c) : c = (inner.drop (j * sz)).take sz := by
 have hj : j < n := by have := (List.getElem?_eq_some_iff.1 h).1; rwa [chunks_length] at this
 rw [chunks_at hj] at h
 injection h with h
 exact h.symm
theorem reps_raw {α : Type} {Rr : α → List Value → Prop} {sz : Nat} {xs : List α} {inner : List Value} (h : Reps Rr sz xs inner) (hR : ∀ x c, Rr x c → c.length = sz ∧ ∀ u ∈ c, u.oneCell' = true) : Reps (fun x cs => cs = x ∧ cs.length = sz ∧ ∀ u ∈ cs, u.oneCell' = true) sz (chunks sz xs.length inner) inner := by
 refine ⟨by rw [chunks_length]; exact h.1, fun j p hj => ?_⟩
 have hjl : j < xs.length := by have := (List.getElem?_eq_some_iff.1 hj).1; rwa [chunks_length] at this
 have hp := chunks_get hj
 exact ⟨hp.symm, hR _ _ (h.2 j _ (List.getElem?_eq_getElem hjl))⟩
section
variable {α : Type} {d : Kd α} {e base n cc g : Nat} {ok ok' okp S : Nat → Prop} {w w1 W W1 : World} {A : Option Addr} {u v v1 : Value} {xs : List α} {x : α} {c : List Value}
def N {α : Type} (d : Kd α) (e : Nat) (w : World) (base : Nat) (ok : Nat → Prop) (v : Value) (xs : List α) : Prop :=
 (∀ k, v.ownBlock = some k → ok k) ∧ ∃ rows : List (List Value), rows.length = xs.length ∧ (raw d.sz).R e w base (fun k => some k = v.ownBlock) v rows ∧ ∀ (j : Nat) (x : α) (c : List Value), xs[j]? = some x → rows[j]? = some c → FK d w (fun k => ok k ∧ some k ≠ v.ownBlock) x c
theorem R_N (h : d.R e w base ok v xs) : N d e w base ok v xs := by
 obtain ⟨h0, inner, ho, hr⟩ := h
 refine ⟨h0, chunks d.sz xs.length inner, chunks_length _ _ _, ⟨fun k hk => hk.symm, inner, by rw [chunks_length]; exact ho, reps_raw hr (fun x c hp => ⟨d.K_len (d.K_of_M hp), d.K_one (d.K_of_M hp)⟩)⟩, fun j x c hx hc => ?_⟩
 rw [chunks_get hc]
 exact FK_of_M (hr.2 j x hx)
theorem N_nil (d : Kd α) (e : Nat) (w : World) (base : Nat) (ok : Nat → Prop) : N d e w base ok (.slice none 0 0) [] := R_N (R_nil _ _ _ _ _)
end
end Kd
end Go.Proofs.YtbbpplnnegdenaaGreatW.PrintWords
end
section
namespace Go.Proofs.YtbbpplnnegdenaaGreatW.PrintMore
open Go.RowKit Go.Proofs.YtbbpplnnegdenaaGreatW.PrintWords
namespace Kd
open Go.Proofs.YtbbpplnnegdenaaGreatW.PrintWords.Kd
section
variable {α : Type} {d : Kd α} {e base g N : Nat} {ok : Nat → Prop} {W w1 : World} {u v : Value} {xs : List α}
theorem R_old (hu : d.R e W base ok u xs) (hb : Below W.heap.size W w1) : d.R e w1 base (fun k => ok k ∧ k < W.heap.size) u xs :=
 R_mono (R_below (R_bound hu) hb) (fun _ h => ⟨h.1, h.2.2.1⟩)
theorem R_told (h : d.R e w1 base (fun k => ok k ∧ k < N) u xs) (hbase : ∀ k, v.ownBlock = some k → N ≤ k) : d.R e w1 base (fun k => (ok k ∧ some k ≠ v.ownBlock) ∧ k < N) u xs :=
 R_mono h (fun k hk => ⟨⟨hk.1, fun e => Nat.lt_irrefl _ (Nat.lt_of_lt_of_le hk.2 (hbase k e.symm))⟩, hk.2⟩)
end
end Kd
theorem max2_int (k k' : IntKind) (x y : Int) : Builtin.max2 (.int k x) (.int k' y) = pure (.int k (if x < y then y else x)) := by simp only [Builtin.max2, gt_iff_lt]
theorem min2_int (k k' : IntKind) (x y : Int) : Builtin.min2 (.int k x) (.int k' y) = pure (.int k (if y < x then y else x)) := by simp only [Builtin.min2]
theorem max_two (ats : Array TypeId) (ty : TypeId) (a b : Value) : Builtin.max_ ats ty #[a, b] = (Builtin.max2 a b >>= fun s => pure s) := by simp only [Builtin.max_, List.foldlM_cons, List.foldlM_nil]
theorem min_two (ats : Array TypeId) (ty : TypeId) (a b : Value) : Builtin.min_ ats ty #[a, b] = (Builtin.min2 a b >>= fun s => pure s) := by simp only [Builtin.min_, List.foldlM_cons, List.foldlM_nil]
theorem max_three (ats : Array TypeId) (ty : TypeId) (a b c : Value) : Builtin.max_ ats ty #[a, b, c] = (Builtin.max2 a b >>= fun s => Builtin.max2 s c >>= fun s => pure s) := by simp only [Builtin.max_, List.foldlM_cons, List.foldlM_nil]
theorem min_three (ats : Array TypeId) (ty : TypeId) (a b c : Value) : Builtin.min_ ats ty #[a, b, c] = (Builtin.min2 a b >>= fun s => Builtin.min2 s c >>= fun s => pure s) := by simp only [Builtin.min_, List.foldlM_cons, List.foldlM_nil]
theorem max_four (ats : Array TypeId) (ty : TypeId) (a b c d : Value) : Builtin.max_ ats ty #[a, b, c, d] = (Builtin.max2 a b >>= fun s => Builtin.max2 s c >>= fun s => Builtin.max2 s d >>= fun s => pure s) := by simp only [Builtin.max_, List.foldlM_cons, List.foldlM_nil]
theorem min_four (ats : Array TypeId) (ty : TypeId) (a b c d : Value) : Builtin.min_ ats ty #[a, b, c, d] = (Builtin.min2 a b >>= fun s => Builtin.min2 s c >>= fun s => Builtin.min2 s d >>= fun s => pure s) := by simp only [Builtin.min_, List.foldlM_cons, List.foldlM_nil]
end Go.Proofs.YtbbpplnnegdenaaGreatW.PrintMore
namespace Go.Proofs.YtbbpplnnegdenaaGreatW.PrintWords
open Go.RowKit
section
variable {P : Program} {ops : Array Oper} {rest : List Oper} {o : Oper} {a : Act} {Q : Exit → Act → World → Prop} {W : World}
theorem gate_callee {f : FuncId} {aS : Array Operand} {ts : Array TypeId} (_ho : o.op = .call { callee := .value (.func f), args := aS, argTypes := ts }) (h : wpList P ops Q (o :: rest) a W) : wpList P ops Q (o :: rest) a W := h
theorem gate_builtin {b : Builtin} {xs : Array Operand} {ts : Array TypeId} (_ho : o.op = .call { callee := .builtin b, args := xs, argTypes := ts }) (h : wpList P ops Q (o :: rest) a W) : wpList P ops Q (o :: rest) a W := h
end
def mx (a b : Int) : Int := if a < b then b else a
def mn (a b : Int) : Int := if b < a then b else a
theorem drewN_self (w : World) (n : Nat) : w.drewN n = w.drewN n := rfl
theorem cell_grown {W w1 : World} {row : Option Nat} (hg : W.grownBy w1 row) {a : Addr} {v : Value} (h : W.cell? a = some v) (hne : some a.block ≠ row) : w1.cell? a = some v := by
 have := hg.block a.block (World.block_lt_of_cell? W a h) hne
 simpa [World.cell?, this] using h
end Go.Proofs.YtbbpplnnegdenaaGreatW.PrintWords
namespace Go.Proofs.YtbbpplnnegdenaaGreatW.PrintWords
open Go.RowKit
namespace Kd
def V {α : Type} (d : Kd α) (_e : Nat) (W : World) (_base : Nat) (ok : Nat → Prop) (v : Value) (xs : List α) : Prop := ∃ A c, v = .slice A xs.length c ∧ xs.length ≤ c ∧ F d W ok A xs.length xs
section
variable {α β : Type} {d : Kd α} {e base base' n m c g N' lo hi : Nat} {ok ok' S : Nat → Prop} {w W w1 : World} {A : Option Addr} {ad : Addr} {u v v1 : Value} {xs : List α}
theorem V_map (h : V d e W base ok v xs) (hF : ∀ A, F d W ok A xs.length xs → F d w1 ok' A xs.length xs) : V d e w1 base' ok' v xs := by
 obtain ⟨A, c, hv, hl, hf⟩ := h
 exact ⟨A, c, hv, hl, hF A hf⟩
theorem V_mk (hl : xs.length ≤ c) (hf : F d W ok A xs.length xs) : V d e W base ok (.slice A xs.length c) xs := ⟨A, c, rfl, hl, hf⟩
theorem V_slice (h : V d e W base ok v xs) : ∃ A c, v = .slice A xs.length c := by
 obtain ⟨A, c, hv, _⟩ := h
 exact ⟨A, c, hv⟩
theorem V_at (h : V d e W base ok (.slice A n c) xs) : n = xs.length ∧ n ≤ c ∧ F d W ok A xs.length xs := by
 obtain ⟨A', c', hv, hl, hf⟩ := h
 injection hv with ha hn hc
 subst ha; subst hc
 exact ⟨hn, by rw [hn]; exact hl, hf⟩
theorem V_reads' (h : V d e W base ok (.slice A n c) xs) : n = xs.length ∧ n ≤ c ∧ d.C W A xs.length xs := ⟨(V_at h).1, (V_at h).2.1, F_now (V_at h).2.2⟩
theorem V_nil (d : Kd α) (e : Nat) (W : World) (base : Nat) (ok : Nat → Prop) : V d e W base ok (.slice none 0 0) [] := ⟨none, 0, rfl, Nat.le_refl _, F_nil d W ok⟩
theorem V_mono (h : V d e W base ok v xs) (hok : ∀ k, ok k → ok' k) : V d e W base ok' v xs := V_map h (fun _ hf => F_mono hf hok)
theorem V_alloc (h : V d e W base ok v xs) (o : Obj) : V d e (W.alloc o) base ok v xs := V_map h (fun _ hf => F_alloc hf o)
theorem V_drew (h : V d e W base ok v xs) : V d e W.drew base ok v xs := V_map h (fun _ hf => F_drew hf)
theorem V_drewN (h : V d e W base ok v xs) (m : Nat) : V d e (W.drewN m) base ok v xs := V_map h (fun _ hf => F_drewN hf m)
theorem V_after (h : V d e W base (fun k => ok k ∧ some k ≠ u.ownBlock) v xs) (hg : W.grownBy w1 u.ownBlock) (hat : v1.ownBlock = u.ownBlock ∨ ∃ b, v1.ownBlock = some b ∧ W.heap.size ≤ b) : V d e w1 base (fun k => ok k ∧ some k ≠ v1.ownBlock) v xs := V_map h (fun _ hf => F_after hf hg hat)
theorem V_afterv (h : V d e W base (fun k => ok k ∧ some k ≠ v.ownBlock) u xs) (hg : W.grownBy w1 v.ownBlock) (hat : v1.ownBlock = v.ownBlock ∨ ∃ b, v1.ownBlock = some b ∧ W.heap.size ≤ b) : V d e w1 base (fun k => ok k ∧ some k ≠ v1.ownBlock) u xs := V_after h hg hat
theorem F_take (h : F d W ok A xs.length xs) (hm : m ≤ xs.length) : F d W ok A (xs.take m).length (xs.take m) := F_imp h (fun _ hC => C_take hC hm)
theorem F_cut (h : F d W ok A xs.length xs) (hm : m ≤ xs.length) (hc : xs.length ≤ c) : F d W ok (if c = m then A else A.map (·.add (m * d.sz))) (xs.drop m).length (xs.drop m) := F_imp h (fun _ hC => C_drop hC hm hc)
theorem F_mid (h : F d W ok A xs.length xs) (h1 : lo ≤ hi) (h2 : hi ≤ xs.length) (hc : xs.length ≤ c) : F d W ok (if c = lo then A else A.map (·.add (lo * d.sz))) ((xs.take hi).drop lo).length ((xs.take hi).drop lo) := F_imp h (fun _ hC => C_mid hC h1 h2 hc)
end
end Kd
end Go.Proofs.YtbbpplnnegdenaaGreatW.PrintWords
end
section
namespace Go.Proofs.YtbbpplnnegdenaaGreatW.PrintLast
open Go.Proofs.YtbbpplnnegdenaaGreatW.PrintWords (Aside0)
def needsOf (md : Region.Mode) (o : Oper) : List Nat := (o.after.toList.filter (fun e => Region.binds md e)).map (fun e => e.on)
def clashOf (md : Region.Mode) (ops : Array Oper) (i : Nat) (oi : Oper) : List Nat := (List.range ops.size).filter fun j => !(j == i) && match ops[j]? with
 | some oj => !(oj.after.any (fun e => Region.binds md e && e.on == i) || oi.apart ops oj)
 | none => false
def rtab (md : Region.Mode) (ops : Array Oper) : Bool × List (List Nat × List Nat) := (Region.noSelect ops, (List.range ops.size).map fun i => match ops[i]? with
 | some o => (needsOf md o, clashOf md ops i o)
 | none => ([], []))
def readyAt (T : List (List Nat × List Nat)) (l : List Bool) (i : Nat) : Bool := !l.getD i true && match T[i]? with
 | some r => r.1.all (fun j => l.getD j false)
 | none => false
def readyT (T : List (List Nat × List Nat)) (l : List Bool) : List Nat := (List.range T.length).filter (readyAt T l)
def freeT (T : List (List Nat × List Nat)) (l : List Bool) (i : Nat) : Bool := match T[i]? with
 | some r => r.2.all (fun j => l.getD j true)
 | none => false
def closedT (T : List (List Nat × List Nat)) (l : List Bool) : Bool := (List.range T.length).all fun j => !l.getD j false || match T[j]? with
 | some r => r.1.all (fun k => l.getD k false)
 | none => true
def reachT (T : List (List Nat × List Nat)) (i : Nat) : Nat → Nat → Bool
 | 0, _ => false
 | fuel + 1, d => match T[d]? with
   | some r => r.1.any fun j => j == i || reachT T i fuel j
   | none => false
def lastT (T : List (List Nat × List Nat)) (l : List Bool) (ds : List Nat) (i : Nat) : Bool := ds.all fun d => l.getD d true || reachT T i T.length d
section
variable {md : Region.Mode} {ops : Array Oper} {T : Bool × List (List Nat × List Nat)} {l l' li lj lk : Array Bool} {ds : List Nat} {i j k : Nat}
theorem gd (l : Array Bool) (j : Nat) (b : Bool) : l.getD j b = l.toList.getD j b := by simp [Array.getD_eq_getD_getElem?, List.getD_eq_getElem?_getD]
theorem needs_all (o : Oper) (p : Nat → Bool) : o.after.all (fun e => !Region.binds md e || p e.on) = (needsOf md o).all p := by
 unfold needsOf
 rw [← Array.all_toList]
 induction o.after.toList with
 | nil => rfl
 | cons e r ih =>
   rw [List.all_cons, ih, List.filter_cons]
   cases h : Region.binds md e <;> simp
theorem needs_any (o : Oper) (p : Nat → Bool) : o.after.any (fun e => Region.binds md e && p e.on) = (needsOf md o).any p := by
 unfold needsOf
 rw [← Array.any_toList]
 induction o.after.toList with
 | nil => rfl
 | cons e r ih =>
   rw [List.any_cons, ih, List.filter_cons]
   cases h : Region.binds md e <;> simp
theorem rtab_length : (rtab md ops).2.length = ops.size := by simp [rtab]
theorem rtab_some {o : Oper} (h : ops[i]? = some o) : (rtab md ops).2[i]? = some (needsOf md o, clashOf md ops i o) := by
 have hi := (Array.getElem?_eq_some_iff.1 h).1
 unfold rtab
 rw [List.getElem?_map, List.getElem?_range hi, Option.map_some, h]
theorem rtab_none (h : ops[i]? = none) : (rtab md ops).2[i]? = none := by
 have hi : ops.size ≤ i := Array.getElem?_eq_none_iff.1 h
 exact List.getElem?_eq_none (by rw [rtab_length]; exact hi)
theorem readyAt_eq : readyAt (rtab md ops).2 l.toList i = (!l.getD i true && ((ops[i]?).map (·.after.all fun e => !Region.binds md e || l.getD e.on false)).getD false) := by
 unfold readyAt
 rw [gd]
 cases h : ops[i]? with
 | none => rw [rtab_none h]; rfl
 | some o =>
   rw [rtab_some h]
   simp only [Option.map_some, Option.getD_some]
   rw [← needs_all]
   simp only [gd]
theorem ready_eq : Region.ready md ops l = readyT (rtab md ops).2 l.toList := by
 unfold Region.ready readyT
 rw [rtab_length]
 refine List.filter_congr (fun i _ => ?_)
 rw [readyAt_eq]
theorem free_eq : Region.free md ops l i = freeT (rtab md ops).2 l.toList i := by
 unfold Region.free freeT
 cases h : ops[i]? with
 | none => rw [rtab_none h]
 | some oi =>
   rw [rtab_some h]
   simp only [clashOf]
   rw [List.all_filter]
   congr 1
   funext j
   rw [gd]
   cases hj : ops[j]? with
   | none => cases (j == i) <;> cases (l.toList.getD j true) <;> simp
   | some oj =>
     cases (j == i) <;> cases (l.toList.getD j true) <;> cases (oj.after.any (fun e => Region.binds md e && e.on == i) || oi.apart ops oj) <;> simp_all
theorem closed_eq : Region.closedB md ops l = closedT (rtab md ops).2 l.toList := by
 unfold Region.closedB closedT
 rw [rtab_length]
 congr 1
 funext j
 rw [gd]
 cases h : ops[j]? with
 | none => rw [rtab_none h]
 | some o =>
   rw [rtab_some h]
   simp only
   rw [← needs_all]
   simp only [gd]
theorem reach_eq : ∀ (fuel d : Nat), Region.reachB md ops i fuel d = reachT (rtab md ops).2 i fuel d
 | 0, _ => rfl
 | fuel + 1, d => by
   unfold Region.reachB reachT
   cases h : ops[d]? with
   | none => rw [rtab_none h]
   | some o =>
     rw [rtab_some h]
     simp only
     rw [← needs_any]
     congr 1
     funext e
     rw [reach_eq fuel]
theorem last_eq : Region.lastB md ops l ds i = lastT (rtab md ops).2 l.toList ds i := by
 unfold Region.lastB lastT
 rw [rtab_length]
 congr 1
 funext d
 rw [gd, reach_eq]
theorem readyAt_mem (h : readyAt T.2 l.toList i = true) (hT : rtab md ops = T) : (Region.ready md ops l).contains i = true := by
 subst hT
 rw [ready_eq]
 unfold readyT
 rw [List.contains_iff_mem, List.mem_filter, List.mem_range]
 refine ⟨?_, h⟩
 unfold readyAt at h
 rw [Bool.and_eq_true] at h
 cases hq : (rtab md ops).2[i]? with
 | none => rw [hq] at h; simp at h
 | some r => exact (List.getElem?_eq_some_iff.1 hq).1
theorem set_of (h : (l.toList.set i true == l'.toList) = true) : (l.setIfInBounds i true == l') = true := by
 rw [beq_iff_eq] at h ⊢
 apply Array.ext'
 rw [Array.toList_setIfInBounds]
 exact h
def anyT (T : Bool × List (List Nat × List Nat)) (l l' : List Bool) (i : Nat) : Bool := T.1 && freeT T.2 l i && readyAt T.2 l i && (l.set i true == l')
theorem any_of (hT : rtab md ops = T) (h : anyT T l.toList l'.toList i = true) : anyB md ops l l' i = true := by
 simp only [anyT, Bool.and_eq_true] at h
 obtain ⟨⟨⟨h1, h2⟩, h3⟩, h4⟩ := h
 have h5 := readyAt_mem h3 hT
 have h6 := set_of h4
 subst hT
 simp only [anyB, Bool.and_eq_true]
 exact ⟨⟨⟨h1, by rw [free_eq]; exact h2⟩, h5⟩, h6⟩
def takeT (T : Bool × List (List Nat × List Nat)) (ds : List Nat) (l l' : List Bool) (i : Nat) : Bool := T.1 && freeT T.2 l i && readyAt T.2 l i && closedT T.2 l && lastT T.2 l ds i && (l.set i true == l')
theorem take_of (hT : rtab md ops = T) (h : takeT T ds l.toList l'.toList i = true) : takeB md ops ds l l' i = true := by
 simp only [takeT, Bool.and_eq_true] at h
 obtain ⟨⟨⟨⟨⟨h1, h2⟩, h3⟩, h4⟩, h5⟩, h6⟩ := h
 have h7 := readyAt_mem h3 hT
 have h8 := set_of h6
 subst hT
 simp only [takeB, Bool.and_eq_true]
 exact ⟨⟨⟨⟨⟨h1, by rw [free_eq]; exact h2⟩, h7⟩, by rw [closed_eq]; exact h4⟩, by rw [last_eq]; exact h5⟩, h8⟩
theorem one_of (hT : rtab md ops = T) (h : (readyT T.2 l.toList == [i] && l.toList.set i true == l'.toList) = true) : readyB md ops l l' i = true := by
 simp only [Bool.and_eq_true] at h
 obtain ⟨h1, h2⟩ := h
 subst hT
 simp only [readyB, Bool.and_eq_true]
 exact ⟨by rw [ready_eq]; exact h1, set_of h2⟩
theorem done_of (hT : rtab md ops = T) (h : (readyT T.2 l.toList == []) = true) : (Region.ready md ops l == []) = true := by
 subst hT
 rw [ready_eq]
 exact h
def upM (B : List Nat) (d : Nat) : List Nat → Nat
 | [] => 0
 | n :: r => (2 ^ n ||| (if n < d then B.getD n 0 else 0)) ||| upM B d r
def waitsOk (T : List (List Nat × List Nat)) (B : List Nat) : Bool := (List.range T.length).all fun d => match T[d]? with
 | some r => (B.getD d 0 ||| upM B d r.1) == upM B d r.1
 | none => false
theorem upM_bit {B : List Nat} {d i : Nat} : ∀ {ns : List Nat}, (upM B d ns).testBit i = true → ∃ n ∈ ns, n = i ∨ (n < d ∧ (B.getD n 0).testBit i = true)
 | [], h => by simp [upM] at h
 | n :: r, h => by
   unfold upM at h
   rw [Nat.testBit_or, Nat.testBit_or, Bool.or_eq_true, Bool.or_eq_true] at h
   rcases h with (h | h) | h
   ·rw [Nat.testBit_two_pow] at h
    exact ⟨n, List.mem_cons_self, .inl (by simpa using h)⟩
   ·by_cases hn : n < d
    ·rw [if_pos hn] at h
     exact ⟨n, List.mem_cons_self, .inr ⟨hn, h⟩⟩
    ·rw [if_neg hn] at h
     simp at h
   ·obtain ⟨m, hm, h2⟩ := upM_bit h
    exact ⟨m, List.mem_cons_of_mem _ hm, h2⟩
theorem reach_bit {T : List (List Nat × List Nat)} {B : List Nat} (hB : waitsOk T B = true) : ∀ (fuel d : Nat), d < fuel → d < T.length → (B.getD d 0).testBit i = true → reachT T i fuel d = true
 | 0, d, h, _, _ => by omega
 | fuel + 1, d, h, hd, hb => by
   have h1 := List.all_eq_true.1 hB d (List.mem_range.2 hd)
   cases hr : T[d]? with
   | none => rw [hr] at h1; simp at h1
   | some r =>
     rw [hr] at h1
     simp only [beq_iff_eq] at h1
     have h2 : (upM B d r.1).testBit i = true := by rw [← h1, Nat.testBit_or, hb, Bool.true_or]
     obtain ⟨n, hn, h3⟩ := upM_bit h2
     unfold reachT
     rw [hr]
     simp only
     rw [List.any_eq_true]
     refine ⟨n, hn, ?_⟩
     rcases h3 with rfl | ⟨h4, h5⟩
     ·simp
     ·rw [reach_bit hB fuel n (by omega) (by omega) h5, Bool.or_true]
def lastW (T : List (List Nat × List Nat)) (B : List Nat) (l : List Bool) (ds : List Nat) (i : Nat) : Bool := ds.all fun d => l.getD d true || (decide (d < T.length) && (B.getD d 0).testBit i)
def takeW (T : Bool × List (List Nat × List Nat)) (B : List Nat) (ds : List Nat) (l l' : List Bool) (i : Nat) : Bool := T.1 && freeT T.2 l i && readyAt T.2 l i && closedT T.2 l && lastW T.2 B l ds i && (l.set i true == l')
theorem take_ofW {B : List Nat} (hT : rtab md ops = T) (hB : waitsOk T.2 B = true) (h : takeW T B ds l.toList l'.toList i = true) : takeB md ops ds l l' i = true := by
 refine take_of hT ?_
 simp only [takeW, takeT, Bool.and_eq_true] at h ⊢
 obtain ⟨⟨⟨⟨⟨h1, h2⟩, h3⟩, h4⟩, h5⟩, h6⟩ := h
 refine ⟨⟨⟨⟨⟨h1, h2⟩, h3⟩, h4⟩, ?_⟩, h6⟩
 unfold lastW at h5
 unfold lastT
 rw [List.all_eq_true] at h5 ⊢
 intro d hd
 have h7 := h5 d hd
 rw [Bool.or_eq_true, Bool.and_eq_true, decide_eq_true_eq] at h7
 rcases h7 with h7 | ⟨h8, h9⟩
 ·rw [h7, Bool.true_or]
 ·rw [reach_bit hB _ d h8 h8 h9, Bool.or_true]
theorem with_tabW {P : Program} {Q : Exit → Act → World → Prop} {S : World → Prop} {n : Nat} {a : Act} {w : World} {B : List Nat} (hT : rtab md ops = T) (hB : waitsOk T.2 B = true) (h : Aside0 (rtab md ops = T) → Aside0 (waitsOk T.2 B = true) → wpAnyLast P md ops Q S ds n l a w) : wpAnyLast P md ops Q S ds n l a w := h ⟨hT⟩ ⟨hB⟩
end
def opsIn : Code → Nat → Option (Array Oper)
 | .region id ops _, k => if id == k then some ops else none
 | .seq a b, k => match opsIn a k with
   | some o => some o
   | none => opsIn b k
 | .cond _ a b, k => match opsIn a k with
   | some o => some o
   | none => opsIn b k
 | .block _ c, k => opsIn c k
 | .loop c, k => opsIn c k
 | .scope c, k => opsIn c k
 | .rangeFunc _ _ a b, k => match opsIn a k with
   | some o => some o
   | none => opsIn b k
 | _, _ => none
def opsOf (f : Func) (k : Nat) : Array Oper := ((f.body.bind fun c => opsIn c k)).getD #[]
end Go.Proofs.YtbbpplnnegdenaaGreatW.PrintLast
end
section
namespace Go.Proofs.YtbbpplnnegdenaaGreat
open Go Go.RowKit Go.Proofs.YtbbpplnnegdenaaGreatW.PrintWords Go.Proofs.YtbbpplnnegdenaaGreatW.PrintLast Go.Proofs.YtbbpplnnegdenaaGreatW.PrintMore
theorem dT {p : Prop} [i : Decidable p] (h : decide p = true := by first | (with_reducible assumption) | assumption) : p := of_decide_eq_true h
theorem uB {p : Prop} (h : p := by repeat (first | (with_reducible first | exact HB.out | apply below_alloc | apply pw_below_drewN | apply below_drew1) | exact HB.out)) : p := h
theorem uR {p q : Prop} (x : q) (h : q → p := by intro h_; (with_reducible repeat (first | apply Kd.R_alloc | apply Kd.R_drewN | apply Kd.R_drew)); exact h_) : p := h x
theorem uC {p q : Prop} (x : q) (h : q → p := by intro h_; repeat (first | exact h_ | (with_reducible refine Kd.C_alloc ?_ _) | (with_reducible refine Kd.C_drewN ?_ _) | (with_reducible refine Kd.C_drew ?_))) : p := h x
theorem aE {p : Prop} (h : p := by (try simp only [List.map_toArray, List.map_cons, List.map_nil]); first | done | rfl | (simp only [List.length_drop, List.length_take]; rfl)) : p := h
theorem sD {p : Prop} (h : p := by first | rfl | (simp; done) | (simp [*]; done)) : p := h
theorem eR {p : Prop} (h : p := by first | rfl | (simp [errW_none, errW_some] <;> rfl) | (simp [*, errW_none, errW_some] <;> rfl)) : p := h
theorem nL {p : Prop} (h : p := by first | exact Kd.R_nil _ _ _ _ _ | exact Kd.N_nil _ _ _ _ _ | exact Kd.V_nil _ _ _ _ _ | exact Kd.Q_nil _ _ _ _ _ | exact Kd.S_nil _ _ _ _ _) : p := h
theorem dD {p : Prop} (h : p := by repeat (first | exact Drawn0.refl _ | apply Drawn0.step)) : p := h
theorem ifP {α : Type} {c : Prop} [i : Decidable c] {X : Option α} {r : α} (h : (if c then X else none) = some r) : c ∧ X = some r := by
 by_cases k : c
 ·rw [if_pos k] at h; exact ⟨k, h⟩
 ·rw [if_neg k] at h; cases h
theorem ifD {α : Type} {c : Prop} [i : Decidable c] {X : Option α} {r : α} (h : (if c then X else none) = some r) : decide c = true ∧ X = some r := ⟨decide_eq_true (ifP h).1, (ifP h).2⟩
theorem ifD2 {α : Type} {c c2 : Prop} [i : Decidable c] [i2 : Decidable c2] {X : Option α} {r : α} (h : (if c then (if c2 then X else none) else none) = some r) : decide c = true ∧ decide c2 = true ∧ X = some r := ⟨(ifD h).1, ifD (ifD h).2⟩
theorem ifE {α : Type} {c : Prop} [i : Decidable c] {X : Option α} {r : α} (h : (if c then X else none) = some r) : (c = True) ∧ decide c = true ∧ X = some r := ⟨eq_true (ifP h).1, ifD h⟩
theorem ifC {α : Type} {c : Prop} [i : Decidable c] {X Y : Option α} {r : Option α} (h : (if c then X else Y) = r) : (decide c = true ∧ X = r) ∨ (decide c = false ∧ Y = r) := by
 by_cases k : c
 ·rw [if_pos k] at h; exact .inl ⟨decide_eq_true k, h⟩
 ·rw [if_neg k] at h; exact .inr ⟨decide_eq_false k, h⟩
theorem ifG {α : Type} {a b : Int} {X Y : Option α} {r : Option α} (h : (if a ≥ b then X else Y) = r) : (decide (b ≤ a) = true ∧ X = r) ∨ (decide (b ≤ a) = false ∧ Y = r) := ifC h
theorem ifK {α : Type} {a b : Int} {X Y : Option α} {r : Option α} (h : (if a > b then X else Y) = r) : (decide (b < a) = true ∧ X = r) ∨ (decide (b < a) = false ∧ Y = r) := ifC h
theorem bdS {α β : Type} {o : Option α} {f : α → Option β} {r : β} (h : o.bind f = some r) : ∃ a, Aside0 (o = some a) ∧ f a = some r := by
 obtain ⟨a, h1, h2⟩ := Option.bind_eq_some_iff.mp h
 exact ⟨a, ⟨h1⟩, h2⟩
theorem eT {p : Prop} [i : Decidable p] (h : decide p = true := by first | (with_reducible assumption) | assumption) : p = True := eq_true (of_decide_eq_true h)
theorem rI {w : World} {A : Option Addr} {n : Nat} {k : IntKind} {xs : List Int} (h : (Kd.int k).C w A n xs) (i : Int) (h0 : decide (0 ≤ i) = true := by first | (with_reducible assumption) | assumption) (h1 : decide (i < (n : Int)) = true := by first | (with_reducible assumption) | assumption) :
  ∃ ad, A = some ad ∧ w.cell? (ad.add i.toNat) = some (.int k (rd xs i)) ∧ (0 ≤ i) = True ∧ (i < (n : Int)) = True := by
 obtain ⟨ad, e, hx⟩ := Kd.at_int h i (of_decide_eq_true h0) (of_decide_eq_true h1)
 exact ⟨ad, e, hx, eq_true (of_decide_eq_true h0), eq_true (of_decide_eq_true h1)⟩
theorem rIO {w W : World} {A : Option Addr} {n : Nat} {k : IntKind} {xs : List Int} (hb : Below w.heap.size w W) (h : (Kd.int k).C w A n xs) (i : Int) (h0 : decide (0 ≤ i) = true := by first | (with_reducible assumption) | assumption) (h1 : decide (i < (n : Int)) = true := by first | (with_reducible assumption) | assumption) :
  ∃ ad, A = some ad ∧ W.cell? (ad.add i.toNat) = some (.int k (rd xs i)) ∧ (0 ≤ i) = True ∧ (i < (n : Int)) = True := by
 obtain ⟨ad, e, hx, p, q⟩ := rI h i h0 h1
 exact ⟨ad, e, (hb.cell (World.block_lt_of_cell? w _ hx)).trans hx, p, q⟩
theorem rL {w : World} {A : Option Addr} {n : Nat} {xs : List Bool} (h : Kd.bool.C w A n xs) (i : Int) (h0 : decide (0 ≤ i) = true := by first | (with_reducible assumption) | assumption) (h1 : decide (i < (n : Int)) = true := by first | (with_reducible assumption) | assumption) :
  ∃ ad, A = some ad ∧ w.cell? (ad.add i.toNat) = some (.bool (rdOf false xs i)) ∧ (0 ≤ i) = True ∧ (i < (n : Int)) = True := by
 obtain ⟨ad, e, hx⟩ := Kd.at_bool h i (of_decide_eq_true h0) (of_decide_eq_true h1)
 exact ⟨ad, e, hx, eq_true (of_decide_eq_true h0), eq_true (of_decide_eq_true h1)⟩
theorem mB {p : Prop} (h : p := by repeat' first
   | (with_reducible exact LeO.refl _)
   | (with_reducible exact LeO.none _)
   | (with_reducible apply ih0)
   | (with_reducible apply ih1)
   | (with_reducible apply ih2)
   | (with_reducible apply ih3)
   | (with_reducible apply ih4)
   | (with_reducible apply ih5)
   | (with_reducible apply m0)
   | (with_reducible apply m1)
   | (with_reducible apply m2)
   | (with_reducible apply m3)
   | (with_reducible apply m4)
   | (with_reducible apply m5)
   | (with_reducible apply m6)
   | (with_reducible apply m7)
   | (with_reducible refine LeO.ite ?_ ?_)
   | (with_reducible refine LeO.bind ?_ (fun _ => ?_))
   | exact LeO.none _
   | refine LeO.ite ?_ ?_
   | refine LeO.bind ?_ (fun _ => ?_)) : p := h
def bs (i n : Nat) : Array Bool := (List.replicate (i + 1) true ++ List.replicate (n - i - 1) false).toArray
section
variable {P : Program} {md : Region.Mode} {ops : Array Oper} {Q : Exit → Act → World → Prop} {S : World → Prop} {ds : List Nat}
theorem pY {i : Nat} {N : Option Tmp} {oi : Oper} {v : Value} {fuel : Nat} {l : Array Bool} {a : Act} {w : World} (l' : Array Bool) {a' : Act} (h : wpAnyLast P md ops Q S ds fuel l' a' w) (hi : ops[i]? = some oi := by rfl) (hN : oi.dst = N := by rfl) (hc : anyB md ops l l' i = true := by exact any_of HT_.out (by kernel_rfl))
  (hQ : ∀ c a w, Q (.panic c) (a.put oi.dst v) w → Q (.panic c) a w := by exact fun _ _ _ h => h) (hy : Yields P ops oi v a := by exact Or.inl ⟨by rfl, by intro w'; go_simp; with_reducible rfl⟩) (ha : a.put N v = a' := by simp only [Act.put, List.setIfInBounds_toArray, List.set_cons_zero, List.set_cons_succ, i64_w, i32_w]; rfl) :
  wpAnyLast P md ops Q S ds (fuel + 1) l a w := pure_ l' hi hN hc hQ hy ha h
theorem pU {i : Nat} {N : Option Tmp} {oi : Oper} {fuel : Nat} {l : Array Bool} {a : Act} {w : World} (l' : Array Bool) {a' : Act} (h : wpAnyLast P md ops Q S ds fuel l' a' w) (hi : ops[i]? = some oi := by rfl) (hN : oi.dst = N := by rfl) (hc : anyB md ops l l' i = true := by exact any_of HT_.out (by kernel_rfl))
  (hQ : ∀ c a w, Q (.panic c) (a.put oi.dst undef) w → Q (.panic c) a w := by exact fun _ _ _ h => h) (hy : Yields P ops oi undef a := by exact Or.inr ⟨by rfl, rfl⟩) (ha : a.put N undef = a' := by simp only [Act.put, List.setIfInBounds_toArray, List.set_cons_zero, List.set_cons_succ, i64_w, i32_w]; rfl) :
  wpAnyLast P md ops Q S ds (fuel + 1) l a w := pure_ l' hi hN hc hQ hy ha h
end
end Go.Proofs.YtbbpplnnegdenaaGreat
end
section
namespace Go.Proofs.YtbbpplnnegdenaaGreat.Srt
def insS (x : Int) : List Int → List Int
 | [] => [x]
 | y :: ys => if x ≤ y then x :: y :: ys else y :: insS x ys
def srt : List Int → List Int
 | [] => []
 | x :: l => insS x (srt l)
theorem insS_at {x : Int} : ∀ {l r : List Int}, (∀ b ∈ l, ¬ x ≤ b) → (∀ b ∈ r, x ≤ b) → insS x (l ++ r) = l ++ x :: r
 | [], [], _, _ => rfl
 | [], y :: r, _, h => by rw [List.nil_append, insS, if_pos (h y (by simp))]; rfl
 | y :: l, r, h, h' => by
   rw [List.cons_append, insS, if_neg (h y (by simp)), insS_at (fun b hb => h b (by simp [hb])) h']
   rfl
theorem srt_eq : ∀ l : List Int, srt l = l.mergeSort (fun x y => decide (x ≤ y))
 | [] => by simp [srt]
 | x :: l => by
   obtain ⟨a, b, h1, h2, h3⟩ := List.mergeSort_cons (le := fun (x y : Int) => decide (x ≤ y)) (by intro a b c; simp only [decide_eq_true_eq]; omega) (by intro a b; simp only [Bool.or_eq_true, decide_eq_true_eq]; omega) x l
   have hs := List.pairwise_mergeSort (le := fun (x y : Int) => decide (x ≤ y)) (by intro a b c; simp only [decide_eq_true_eq]; omega) (by intro a b; simp only [Bool.or_eq_true, decide_eq_true_eq]; omega) (x :: l)
   rw [h1, List.pairwise_append] at hs
   rw [srt, srt_eq l, h2, h1]
   refine insS_at (fun c hc => by simpa using h3 c hc) (fun c hc => ?_)
   have := (List.pairwise_cons.1 hs.2.1).1 c hc
   simpa using this
end Go.Proofs.YtbbpplnnegdenaaGreat.Srt
end
section
namespace Go.Proofs.YtbbpplnnegdenaaGreat.Rg
open Go Go.RowKit
variable {F : Fence} {n : Nat} {P : Program} {w : World}
def Gives (F : Fence) (n : Nat) (P : Program) (gf : Nat) (lb : Array Value) (vals : Nat → Array Value) (N : Nat) (Kp : World → World → Prop) (w : World) : Prop :=
 ∀ (l : Nat) (J : Nat → World → Prop) (W : World), Below w.heap.size w W →
   (∀ k W1, k < N → J k W1 → YieldAt F (n - 1) P l (vals k) W1 fun e W' => e = .returned (.bool true) ∧ J (k + 1) W' ∧ Kp W1 W') → J 0 W →
   CallsIn F n P gf (#[.func (.yield l) #[] #[]] ++ lb) W fun e W' => (∃ v, e = .returned v) ∧ J N W'
theorem range_upto {g : Operand} {ps : Array Tmp} {assign body : Code} {Q : Exit → Act → World → Prop} {a : Act}
  (hro : F.round = none) (h1 : 1 ≤ n) {gf : Nat} {lb : Array Value} (hg : a.eval g = .func (.func gf) #[] lb) (hFg : F.fn gf) (eg : ∀ args w, (callFunc gf args).run P w = .ok (.enter gf args) w)
  {vals : Nat → Array Value} {N : Nat} {Kp : World → World → Prop} (hps : ∀ k, (vals k).size = ps.size)
  (hKt : ∀ {A B C : World}, Kp A B → Kp B C → Kp A C) (hKb : ∀ (W : World) (l : Nat) (o o' : Obj), w.heap.size ≤ l → W.heap[l]? = some o → o.isCells = false → o.isWalk = false → Kp W (W.putObj l o'))
  (I : Nat → World → Prop) (hIa : ∀ W o, I 0 W → I 0 (W.alloc o)) (hIp : ∀ k W l o o', I k W → w.heap.size ≤ l → W.heap[l]? = some o → o.isCells = false → I k (W.putObj l o')) (h0 : I 0 w)
  (hseq : Gives F (n - 1) P gf lb vals N Kp w) (a₁ : Nat → Act)
  (hassign : ∀ (l k : Nat) (W : World) (K : Act → World → Prop), K (a₁ k) W →
   assign.wpIn (F.inRound l) (n - 1 - 1) P (Exit.then K (fun _ _ _ => False)) { tmps := (ps.zip (vals k)).foldl (fun t (p, v) => t.setIfInBounds p v) a.tmps, defers := [] } W)
  (hbody : ∀ (l k : Nat) (W : World), k < N → I k W → body.wpIn (F.inRound l) (n - 1 - 1) P (fun e _ W' => e = .normal ∧ KeepsFrom w.heap.size W W' ∧ Kp W W' ∧ I (k + 1) W') (a₁ k) W)
  (hdone : ∀ (D : Nat) (W : World), w.heap.size ≤ D → I N W → W.heap[D]? = some (.deferred (some [])) → Q .normal { a with defers := { target := .collected D, args := #[] } :: a.defers } W) :
  (Code.rangeFunc g ps assign body).wpIn F n P Q a w := by
 refine wpIn_rangeFunc fun fn hfn => ?_
 rw [hro]
 obtain ⟨rc, hrc⟩ : ∃ rc : LoopState → Option Code → Loop, rc = fun st pe => { state := st, pending := pe, fn, tmps := a.tmps, params := ps, assign, body, defers := w.heap.size } := ⟨_, rfl⟩
 obtain ⟨W1, hW1⟩ : ∃ W1, (w.alloc (.deferred (some []))).alloc (.loop (rc .ready none)) = W1 := ⟨_, rfl⟩
 have hL : W1.heap[w.heap.size + 1]? = some (.loop (rc .ready none)) := by
  rw [← hW1]; have := World.alloc_heap_new (w.alloc (.deferred (some []))) (.loop (rc .ready none)); rwa [World.size_alloc] at this
 have hD : W1.heap[w.heap.size]? = some (.deferred (some [])) := by
  rw [← hW1]; exact (Below.heap_alloc _ _ _ (by simp)).trans (World.alloc_heap_new w _)
 have hb1 : Below w.heap.size w W1 := by
  rw [← hW1]; exact (((Below.refl _ w).alloc (Nat.le_refl _) _).alloc (by simp) _)
 refine ⟨w.heap.size + 1, [{ target := .collected w.heap.size, args := #[] }], W1, { target := .fn (.func gf) lb, args := #[.func (.yield (w.heap.size + 1)) #[] #[]] }, W1, gf,
  #[.func (.yield (w.heap.size + 1)) #[] #[]] ++ lb, W1, ?_, ?_, ?_, ?_, fun _ => h1, ?_⟩
 ·rw [← hW1, hrc]; exact run_enterLoop_outer _ _ _ _ _
 ·simp only [resolve, hg]
  simp [go_sem]
 ·intro f' hf'; simp [Target.leads] at hf'; subst hf'; exact hFg
 ·simp [invoke, go_sem, eg]
 ·refine (hseq (w.heap.size + 1) (fun k W => I k W ∧ W.heap[w.heap.size + 1]? = some (.loop (rc .ready none)) ∧ W.heap[w.heap.size]? = some (.deferred (some []))) W1 hb1 ?_
   ⟨by rw [← hW1]; exact hIa _ _ (hIa _ _ h0), hL, hD⟩).mono ?_
  ·rintro k W hk ⟨hi, hl, hd⟩
   have hy := run_yield (P := P) (args := vals k) hl (by rw [hrc]; exact hps k)
   rw [hrc] at hy
   refine ⟨fn, _, assign, body, hy, roundIn_of_wpIn hfn (hassign _ k W _ ?_)⟩
   have hlt : w.heap.size + 1 < W.heap.size := (Array.getElem?_eq_some_iff.1 hl).1
   refine ⟨_, run_beginRound hl (by rw [hrc]), ?_⟩
   obtain ⟨W2, hW2⟩ : ∃ W2, W.putObj (w.heap.size + 1) (.loop { rc .ready none with state := .busy }) = W2 := ⟨_, rfl⟩
   rw [hW2]
   have hl2 : W2.heap[w.heap.size + 1]? = some (.loop { rc .ready none with state := .busy }) := by rw [← hW2]; exact World.putObj_heap_same hlt
   have hd2 : W2.heap[w.heap.size]? = some (.deferred (some [])) := by rw [← hW2]; exact (World.putObj_heap_other (by omega)).trans hd
   have hi2 : I k W2 := by rw [← hW2]; exact hIp _ _ _ _ _ hi (by omega) hl rfl
   have hk2 : Kp W W2 := by rw [← hW2]; exact hKb _ _ _ _ (by omega) hl rfl rfl
   refine wpIn_mono (hbody _ k W2 hk hi2) ?_
   rintro e a3 W3 ⟨rfl, hk3, hp3, hi3⟩
   have hl3 := hk3.same _ _ (by omega) hl2 rfl
   have hr := run_endRound (P := P) none hl3
   have hlt3 : w.heap.size + 1 < W3.heap.size := (Array.getElem?_eq_some_iff.1 hl3).1
   rw [hrc] at hr hl3
   refine ⟨_, _, hr, rfl, ⟨hIp _ _ _ _ _ hi3 (by omega) hl3 rfl, ?_, ?_⟩, hKt hk2 (hKt hp3 (hKb _ _ _ _ (by omega) hl3 rfl rfl))⟩
   ·rw [World.putObj_heap_same hlt3, hrc]; rfl
   ·exact (World.putObj_heap_other (by omega)).trans (hk3.same _ _ (Nat.le_refl _) hd2 rfl)
  ·rintro e W2 ⟨⟨v, rfl⟩, hi, hl, hd⟩
   have hr := run_endLoop (P := P) hl (by rw [hrc]; simp)
   rw [hrc] at hr
   rw [hrc] at hl
   exact ⟨none, _, hr, hdone _ _ (Nat.le_refl _) (hIp _ _ _ _ _ hi (by omega) hl rfl) ((World.putObj_heap_other (by omega)).trans hd)⟩
end Go.Proofs.YtbbpplnnegdenaaGreat.Rg
end
section
namespace Go.Proofs.YtbbpplnnegdenaaGreat.So
open Go Go.RowKit Go.Proofs
theorem first_calls (w : World) (g br be : Nat) (ad : Addr) (ns cs nr cr ne ce : Nat) (j k p : Nat) (v : Value)
  (hS0 : w.cell? ⟨g, 0, none⟩ = some (.slice (some ad) ns cs)) (hS3 : w.cell? ⟨g, 3, none⟩ = some (.slice (some ⟨br, 0, none⟩) nr cr))
  (hj : j < ns) (hk : k < ne) (hp : p < nr) (hpm : p + 1 < 9223372036854775808)
  (hs : w.cell? (ad.add j) = some (.int .i64 k)) (he : w.cell? ⟨be, k, none⟩ = some (.int .i64 p)) (hr : w.cell? ⟨br, p, none⟩ = some v)
  (fe : w.frozen? ⟨be, k, none⟩ = false) (fr : w.frozen? ⟨br, p, none⟩ = false)
  (n1 : (ad.add j).block ≠ br) (n2 : be ≠ br) (n3 : g ≠ br) (hv : ∃ x, v = .int .i64 x) :
  Calls Tryz.prog 144 #[.pointer (some ⟨g, 0, none⟩), .slice (some ⟨be, 0, none⟩) ne ce, .int .i64 j] w fun e w' => e = .returned (.tuple #[]) ∧
   w' = ((w.setCell ⟨br, p, none⟩ (.int .i64 j)).setCell ⟨be, k, none⟩ (.int .i64 ((p : Int) + 1))).drew := by
 obtain ⟨x, rfl⟩ := hv
 have hs2 : (w.setCell ⟨br, p, none⟩ (.int .i64 (j : Int))).cell? (ad.add j) = some (.int .i64 (k : Int)) := (World.cell?_of_block (a := ad.add j) (Below.heap_setCell w ⟨br, p, none⟩ (.int .i64 (j : Int)) _ n1)).trans hs
 go_enter Tryz.func144, Tryz.ntmps144
 go_wp2
 go_region
 go_wp2
 go_end0
 exact ⟨rfl, rfl⟩
theorem last_calls (w : World) (g br be : Nat) (ad : Addr) (ns cs nr cr ne ce : Nat) (j k p : Nat) (v : Value)
  (hS0 : w.cell? ⟨g, 0, none⟩ = some (.slice (some ad) ns cs)) (hS3 : w.cell? ⟨g, 3, none⟩ = some (.slice (some ⟨br, 0, none⟩) nr cr))
  (hj : j < ns) (hk : k < ne) (hp : p < nr) (hpm : p + 1 < 9223372036854775808)
  (hs : w.cell? (ad.add j) = some (.int .i64 k)) (he : w.cell? ⟨be, k, none⟩ = some (.int .i64 ((p : Int) + 1))) (hr : w.cell? ⟨br, p, none⟩ = some v)
  (fe : w.frozen? ⟨be, k, none⟩ = false) (fr : w.frozen? ⟨br, p, none⟩ = false)
  (n1 : (ad.add j).block ≠ be) (n2 : be ≠ br) (n3 : g ≠ be) (hv : ∃ x, v = .int .i64 x) :
  Calls Tryz.prog 125 #[.pointer (some ⟨g, 0, none⟩), .slice (some ⟨be, 0, none⟩) ne ce, .int .i64 j] w fun e w' => e = .returned (.tuple #[]) ∧
   w' = ((w.setCell ⟨be, k, none⟩ (.int .i64 p)).setCell ⟨br, p, none⟩ (.int .i64 j)).drew := by
 obtain ⟨x, rfl⟩ := hv
 have hs2 : (w.setCell ⟨be, k, none⟩ (.int .i64 (p : Int))).cell? (ad.add j) = some (.int .i64 (k : Int)) := (World.cell?_of_block (a := ad.add j) (Below.heap_setCell w ⟨be, k, none⟩ (.int .i64 (p : Int)) _ n1)).trans hs
 have n2' : br ≠ be := fun e => n2 e.symm
 go_enter Tryz.func125, Tryz.ntmps125
 go_wp2
 go_region
 go_wp2
 go_end0
 exact ⟨rfl, rfl⟩
end Go.Proofs.YtbbpplnnegdenaaGreat.So
end
section
namespace Go.Proofs.YtbbpplnnegdenaaGreat.So
open Go Go.RowKit Go.Proofs Go.Proofs.YtbbpplnnegdenaaGreatW.PrintWords
def firstF (s st row : List Int) (j : Int) : Option (List Int × List Int) :=
 if 0 ≤ j ∧ j < s.length then
  (if 0 ≤ s.getD j.toNat 0 ∧ s.getD j.toNat 0 < st.length then
   (if 0 ≤ st.getD (s.getD j.toNat 0).toNat 0 ∧ st.getD (s.getD j.toNat 0).toNat 0 < row.length ∧ st.getD (s.getD j.toNat 0).toNat 0 < 4611686018427387904 then
    some (st.set (s.getD j.toNat 0).toNat (st.getD (s.getD j.toNat 0).toNat 0 + 1), row.set (st.getD (s.getD j.toNat 0).toNat 0).toNat j)
   else none) else none) else none
def lastF (s en row : List Int) (j : Int) : Option (List Int × List Int) :=
 if 0 ≤ j ∧ j < s.length then
  (if 0 ≤ s.getD j.toNat 0 ∧ s.getD j.toNat 0 < en.length then
   (if 1 ≤ en.getD (s.getD j.toNat 0).toNat 0 ∧ en.getD (s.getD j.toNat 0).toNat 0 ≤ row.length ∧ en.getD (s.getD j.toNat 0).toNat 0 < 4611686018427387904 then
    some (en.set (s.getD j.toNat 0).toNat (en.getD (s.getD j.toNat 0).toNat 0 - 1), row.set (en.getD (s.getD j.toNat 0).toNat 0 - 1).toNat j)
   else none) else none) else none
def largeL (s : List Int) (sm : List Bool) : Nat → Nat → List Int → List Int → Option (List Int)
 | 0, _, _, row => some row
 | d + 1, i, st, row =>
   if 0 < row.getD i 0 then
    (if row.getD i 0 - 1 < sm.length then
     (if sm.getD (row.getD i 0 - 1).toNat false then largeL s sm d (i + 1) st row
     else (firstF s st row (row.getD i 0 - 1)).bind fun x => largeL s sm d (i + 1) x.1 x.2) else none)
   else largeL s sm d (i + 1) st row
theorem grown_trans {A B C : World} {r q : Option Nat} (h : A.grownBy B r) (k : B.grownBy C q) (hq : ∀ b, q = some b → A.heap.size ≤ b ∨ some b = r) : A.grownBy C r :=
 ⟨k.os.trans h.os, k.tape.trans h.tape, k.output.trans h.output, Nat.le_trans h.size k.size, fun x hx hne => (k.block x (Nat.lt_of_lt_of_le hx h.size) (fun e => (hq x e.symm).elim (fun h1 => by omega) (fun h1 => hne h1))).trans (h.block x hx hne)⟩
theorem grown_refl (A : World) (r : Option Nat) : A.grownBy A r := ⟨rfl, rfl, rfl, Nat.le_refl _, fun _ _ _ => rfl⟩
theorem grown_drew (A : World) (r : Option Nat) : A.grownBy A.drew r := ⟨rfl, rfl, rfl, Nat.le_refl _, fun _ _ _ => rfl⟩
theorem grown_below {A B : World} (h : Below A.heap.size A B) (r : Option Nat) : A.grownBy B r := ⟨h.os, h.tape, h.output, h.size, fun k hk _ => h.block k hk⟩
theorem F_grown' {α : Type} {d : Kd α} {W W1 : World} {ok : Nat → Prop} {A : Option Addr} {n : Nat} {xs : List α} {r : Nat} (h : Kd.F d W ok A n xs) (hg : W.grownBy W1 (some r)) (hok : ∀ k, ok k → k ≠ r) : Kd.F d W1 ok A n xs :=
 Kd.F_grown h hg (fun k hk e => hok k hk (by cases e; rfl))
structure Sr (W : World) (g br : Nat) (As Am Ac : Option Addr) (cs cm cc cr : Nat) (s : List Int) (sm : List Bool) (co : List Int) (nr : Nat) : Prop where
 G : W.heap[g]? = some (.cells #[.slice As s.length cs, .slice Am sm.length cm, .slice Ac co.length cc, .slice (some ⟨br, 0, none⟩) nr cr] 167 (0, 0))
 gb : g ≠ br
 sA : ∀ ad, As = some ad → ad.block ≠ br
 s_ : Kd.F (Kd.int .i64) W (fun k => k ≠ br) As s.length s
 m_ : Kd.F Kd.bool W (fun k => k ≠ br) Am sm.length sm
 c_ : Kd.F (Kd.int .i64) W (fun k => k ≠ br) Ac co.length co
theorem Sr.move {W W' : World} {g br : Nat} {As Am Ac : Option Addr} {cs cm cc cr : Nat} {s : List Int} {sm : List Bool} {co : List Int} {nr : Nat} (h : Sr W g br As Am Ac cs cm cc cr s sm co nr) (hg : W.grownBy W' (some br)) : Sr W' g br As Am Ac cs cm cc cr s sm co nr :=
 ⟨(hg.block g (Array.getElem?_eq_some_iff.1 h.G).1 (fun e => h.gb (by cases e; rfl))).trans h.G, h.gb, h.sA, F_grown' h.s_ hg (fun _ hk => hk), F_grown' h.m_ hg (fun _ hk => hk), F_grown' h.c_ hg (fun _ hk => hk)⟩
theorem Sr.cells {W : World} {g br : Nat} {As Am Ac : Option Addr} {cs cm cc cr : Nat} {s : List Int} {sm : List Bool} {co : List Int} {nr : Nat} (h : Sr W g br As Am Ac cs cm cc cr s sm co nr) :
  W.cell? ⟨g, 0, none⟩ = some (.slice As s.length cs) ∧ W.cell? ⟨g, 1, none⟩ = some (.slice Am sm.length cm) ∧ W.cell? ⟨g, 2, none⟩ = some (.slice Ac co.length cc) ∧ W.cell? ⟨g, 3, none⟩ = some (.slice (some ⟨br, 0, none⟩) nr cr) := by
 have hG := h.G
 exact ⟨blk_cell hG 0, blk_cell hG 1, blk_cell hG 2, blk_cell hG 3⟩
theorem first_kd {W : World} {g br be base base2 ce : Nat} {okr ok2 : Nat → Prop} {As Am Ac : Option Addr} {cs cm cc cr : Nat} {s : List Int} {sm : List Bool} {co row st st' row' : List Int} {j : Int}
  (hS : Sr W g br As Am Ac cs cm cc cr s sm co row.length) (hR : Kd.R (Kd.int .i64) 3 W base okr (.slice (some ⟨br, 0, none⟩) row.length cr) row) (hE : Kd.R (Kd.int .i64) 3 W base2 ok2 (.slice (some ⟨be, 0, none⟩) st.length ce) st)
  (hge : g ≠ be) (hokr : ∀ k, okr k → k ≠ be) (hok2 : ∀ k, ok2 k → k ≠ br) (hF : firstF s st row j = some (st', row')) :
  Calls Tryz.prog 144 #[.pointer (some ⟨g, 0, none⟩), .slice (some ⟨be, 0, none⟩) st.length ce, .int .i64 j] W fun e W' => e = .returned (.tuple #[]) ∧ Kd.R (Kd.int .i64) 3 W' base okr (.slice (some ⟨br, 0, none⟩) row'.length cr) row' ∧ Kd.R (Kd.int .i64) 3 W' base2 ok2 (.slice (some ⟨be, 0, none⟩) st'.length ce) st' ∧
   row'.length = row.length ∧ st'.length = st.length ∧ ∃ W1, W.grownBy W1 (some br) ∧ W1.grownBy W' (some be) := by
 unfold firstF at hF
 by_cases h1 : 0 ≤ j ∧ j < s.length
 ·rw [if_pos h1] at hF
  by_cases h2 : 0 ≤ s.getD j.toNat 0 ∧ s.getD j.toNat 0 < st.length
  ·rw [if_pos h2] at hF
   by_cases h3 : 0 ≤ st.getD (s.getD j.toNat 0).toNat 0 ∧ st.getD (s.getD j.toNat 0).toNat 0 < row.length ∧ st.getD (s.getD j.toNat 0).toNat 0 < 4611686018427387904
   ·rw [if_pos h3] at hF
    simp only [Option.some.injEq, Prod.mk.injEq] at hF
    obtain ⟨rfl, rfl⟩ := hF
    obtain ⟨ad, rfl, hs⟩ := Kd.at_int (Kd.F_now hS.s_) j h1.1 h1.2
    have he := Kd.R_cell 0 hE (s.getD j.toNat 0) h2.1 h2.2
    have hr := Kd.R_cell 0 hR (st.getD (s.getD j.toNat 0).toNat 0) h3.1 h3.2.1
    obtain ⟨q0, _, _, q3⟩ := hS.cells
    have e1 : rd s j = s.getD j.toNat 0 := rfl
    have e2 : rdOf 0 st (s.getD j.toNat 0) = st.getD (s.getD j.toNat 0).toNat 0 := rfl
    rw [e1] at hs
    rw [e2] at he
    generalize hk : s.getD j.toNat 0 = k at *
    generalize hp : st.getD k.toNat 0 = p at *
    have hbr : okr br := hR.1 br (by simp [Value.ownBlock])
    have hne : br ≠ be := hokr br hbr
    have c := first_calls W g br be ad s.length cs row.length cr st.length ce j.toNat k.toNat p.toNat _ q0 q3 (by omega) (by omega) (by omega) (by omega)
     (by rw [Int.toNat_of_nonneg h2.1]; exact hs) (by rw [Int.toNat_of_nonneg h3.1]; exact he.1) hr.1 he.2 hr.2 (by rw [show (ad.add j.toNat).block = ad.block by unfold Addr.add; split <;> rfl]; exact hS.sA ad rfl) (fun e => hne e.symm) hS.gb ⟨_, rfl⟩
    rw [Int.toNat_of_nonneg h1.1, Int.toNat_of_nonneg h3.1] at c
    refine c.mono ?_
    rintro e W' ⟨rfl, rfl⟩
    have r1 := Kd.R_putg hR p j
    have g1 := r1.2
    have E1 := Kd.R_far (p := ⟨br, p.toNat, none⟩) hE (fun x hx => hok2 x hx) (.int .i64 j)
    have r2 := Kd.R_putg E1 k (p + 1)
    have R2 := Kd.R_far (p := ⟨be, k.toNat, none⟩) r1.1 (fun x hx => hokr x hx) (.int .i64 (p + 1))
    refine ⟨rfl, ?_, ?_, by rw [List.length_set], by rw [List.length_set], _, g1, grown_trans r2.2 (grown_drew _ (some be)) (fun b e => .inr (by rw [e]))⟩
    ·rw [List.length_set]; exact Kd.R_drew R2
    ·rw [List.length_set]; exact Kd.R_drew r2.1
   ·rw [if_neg h3] at hF; exact absurd hF (by simp)
  ·rw [if_neg h2] at hF; exact absurd hF (by simp)
 ·rw [if_neg h1] at hF; exact absurd hF (by simp)
theorem last_kd {W : World} {g br be base base2 ce : Nat} {okr ok2 : Nat → Prop} {As Am Ac : Option Addr} {cs cm cc cr : Nat} {s : List Int} {sm : List Bool} {co row st st' row' : List Int} {j : Int}
  (hS : Sr W g br As Am Ac cs cm cc cr s sm co row.length) (hR : Kd.R (Kd.int .i64) 3 W base okr (.slice (some ⟨br, 0, none⟩) row.length cr) row) (hE : Kd.R (Kd.int .i64) 3 W base2 ok2 (.slice (some ⟨be, 0, none⟩) st.length ce) st)
  (hge : g ≠ be) (hsE : ∀ ad, As = some ad → ad.block ≠ be) (hokr : ∀ k, okr k → k ≠ be) (hok2 : ∀ k, ok2 k → k ≠ br) (hF : lastF s st row j = some (st', row')) :
  Calls Tryz.prog 125 #[.pointer (some ⟨g, 0, none⟩), .slice (some ⟨be, 0, none⟩) st.length ce, .int .i64 j] W fun e W' => e = .returned (.tuple #[]) ∧ Kd.R (Kd.int .i64) 3 W' base okr (.slice (some ⟨br, 0, none⟩) row'.length cr) row' ∧ Kd.R (Kd.int .i64) 3 W' base2 ok2 (.slice (some ⟨be, 0, none⟩) st'.length ce) st' ∧
   row'.length = row.length ∧ st'.length = st.length ∧ ∃ W1, W.grownBy W1 (some be) ∧ W1.grownBy W' (some br) := by
 unfold lastF at hF
 by_cases h1 : 0 ≤ j ∧ j < s.length
 ·rw [if_pos h1] at hF
  by_cases h2 : 0 ≤ s.getD j.toNat 0 ∧ s.getD j.toNat 0 < st.length
  ·rw [if_pos h2] at hF
   by_cases h3 : 1 ≤ st.getD (s.getD j.toNat 0).toNat 0 ∧ st.getD (s.getD j.toNat 0).toNat 0 ≤ row.length ∧ st.getD (s.getD j.toNat 0).toNat 0 < 4611686018427387904
   ·rw [if_pos h3] at hF
    simp only [Option.some.injEq, Prod.mk.injEq] at hF
    obtain ⟨rfl, rfl⟩ := hF
    obtain ⟨ad, rfl, hs⟩ := Kd.at_int (Kd.F_now hS.s_) j h1.1 h1.2
    have he := Kd.R_cell 0 hE (s.getD j.toNat 0) h2.1 h2.2
    have hr := Kd.R_cell 0 hR (st.getD (s.getD j.toNat 0).toNat 0 - 1) (by omega) (by omega)
    obtain ⟨q0, _, _, q3⟩ := hS.cells
    have e1 : rd s j = s.getD j.toNat 0 := rfl
    have e2 : rdOf 0 st (s.getD j.toNat 0) = st.getD (s.getD j.toNat 0).toNat 0 := rfl
    rw [e1] at hs
    rw [e2] at he
    generalize hk : s.getD j.toNat 0 = k at *
    generalize hp : st.getD k.toNat 0 = p at *
    have hbr : okr br := hR.1 br (by simp [Value.ownBlock])
    have hne : br ≠ be := hokr br hbr
    have c := last_calls W g br be ad s.length cs row.length cr st.length ce j.toNat k.toNat (p - 1).toNat _ q0 q3 (by omega) (by omega) (by omega) (by omega)
     (by rw [Int.toNat_of_nonneg h2.1]; exact hs) (by rw [Int.toNat_of_nonneg (show 0 ≤ p - 1 by omega), show p - 1 + 1 = p by omega]; exact he.1) hr.1 he.2 hr.2 (by rw [show (ad.add j.toNat).block = ad.block by unfold Addr.add; split <;> rfl]; exact hsE ad rfl) (fun e => hne e.symm) hge ⟨_, rfl⟩
    rw [Int.toNat_of_nonneg h1.1, Int.toNat_of_nonneg (show 0 ≤ p - 1 by omega)] at c
    refine c.mono ?_
    rintro e W' ⟨rfl, rfl⟩
    have r1 := Kd.R_putg hE k (p - 1)
    have R1 := Kd.R_far (p := ⟨be, k.toNat, none⟩) hR (fun x hx => hokr x hx) (.int .i64 (p - 1))
    have r2 := Kd.R_putg R1 (p - 1) j
    have E2 := Kd.R_far (p := ⟨br, (p - 1).toNat, none⟩) r1.1 (fun x hx => hok2 x hx) (.int .i64 j)
    refine ⟨rfl, ?_, ?_, by rw [List.length_set], by rw [List.length_set], _, r1.2, grown_trans r2.2 (grown_drew _ (some br)) (fun b e => .inr (by rw [e]))⟩
    ·rw [List.length_set]; exact Kd.R_drew r2.1
    ·rw [List.length_set]; exact Kd.R_drew E2
   ·rw [if_neg h3] at hF; exact absurd hF (by simp)
  ·rw [if_neg h2] at hF; exact absurd hF (by simp)
 ·rw [if_neg h1] at hF; exact absurd hF (by simp)
theorem large_calls {w : World} {g br base : Nat} {okr : Nat → Prop} {As Am Ac : Option Addr} {cs cm cc cr : Nat} {s : List Int} {sm : List Bool} {co row st st0 row0 row' : List Int}
  (hS : Sr w g br As Am Ac cs cm cc cr s sm co row.length) (hR : Kd.R (Kd.int .i64) 3 w base okr (.slice (some ⟨br, 0, none⟩) row.length cr) row)
  (hst : ∀ W, Kd.C (Kd.int .i64) W Ac co.length co → Calls Tryz.prog 93 #[.slice Ac co.length cc] W fun e W' => ∃ v, e = .returned v ∧ Kd.R (Kd.int .i64) 3 W' W.heap.size (fun _ => True) v st ∧ Below W.heap.size W W')
  (h0 : firstF s st row ((s.length : Int) - 1) = some (st0, row0)) (h : largeL s sm row.length 0 st0 row0 = some row') (hb : row.length < 4611686018427387904) (hsl : s.length < 4611686018427387904) (hml : sm.length < 4611686018427387904) :
  Calls Tryz.prog 126 #[.pointer (some ⟨g, 0, none⟩)] w fun e w' => e = .returned (.tuple #[]) ∧ Kd.R (Kd.int .i64) 3 w' base okr (.slice (some ⟨br, 0, none⟩) row'.length cr) row' ∧ row'.length = row.length ∧ w.grownBy w' (some br) := by
 obtain ⟨q0, q1, q2, q3⟩ := hS.cells
 have hS0 := Aside0.mk hS
 have hbr : br < w.heap.size := Kd.R_lt hR br (by simp [Value.ownBlock])
 have hst0 : 0 < s.length ∧ 0 < st.length := by
  unfold firstF at h0
  by_cases h1 : 0 ≤ (s.length : Int) - 1 ∧ (s.length : Int) - 1 < s.length
  ·rw [if_pos h1] at h0
   by_cases h2 : 0 ≤ s.getD ((s.length : Int) - 1).toNat 0 ∧ s.getD ((s.length : Int) - 1).toNat 0 < st.length
   ·omega
   ·rw [if_neg h2] at h0; exact absurd h0 (by simp)
  ·rw [if_neg h1] at h0; exact absurd h0 (by simp)
 have H0 := Go.Lib.hid h0
 have HH := Go.Lib.hid h
 clear h0 h
 go_enter Tryz.func126, Tryz.ntmps126
 go_wp2_with (fail)
 refine Calls.mono (hst w (Kd.F_now hS.c_)) ?_
 rintro e w1 ⟨v1, rfl, hE, hB⟩
 obtain ⟨be, ce, rfl, hbe, hbe2, _⟩ := Kd.R_form hE hst0.2
 have hS1 := hS.move (grown_below hB (some br))
 have hgbe : g ≠ be := fun e => by have := blk_lt hS.G; omega
 have hR1 := Kd.R_mono (ok' := fun k => okr k ∧ k < w.heap.size) (Kd.R_move (Kd.R_bound hR) (fun k hk => hB.block k hk.2.2.1)) (fun k hk => ⟨hk.1, hk.2.2.1⟩)
 have hE1 := Kd.R_mono (ok' := fun k => w.heap.size ≤ k) (Kd.R_bound hE) (fun k hk => hk.2.1)
 have c1 := first_kd hS1 hR1 hE1 hgbe (fun k hk => by omega) (fun k hk => by omega) H0.out
 obtain ⟨p0, p1, p2, p3⟩ := hS1.cells
 have G1 := Aside0.mk (grown_below hB (some br))
 have B1 := Aside0.mk hB
 clear hR hE hS hB hR1 hE1 hst
 go_wp2_with (fail)
 (with_reducible refine c1.mono ?_)
 clear c1 p0 p1 p2 p3
 rintro e w2 ⟨rfl, hR2, hE2, hl, hl2, W1, g1, g2⟩
 have G2 := grown_trans (grown_trans G1.out g1 (fun b e => .inr e.symm)) g2 (fun b e => .inl (by cases e; omega))
 have hS2 := hS0.out.move G2
 obtain ⟨p0, p1, p2, p3⟩ := hS2.cells
 have R2 := Aside0.mk hR2
 have E2 := Aside0.mk hE2
 have GG := Aside0.mk G2
 have HL := Go.Lib.hid hl
 have HL2 := Go.Lib.hid hl2
 clear hR2 hE2 G2 hS2 g1 g2 hl hl2
 go_wp2_with (fail)
 clear p0 p1 p2 p3
 go_loopw [24] (fun v24 wr => ∃ (i : Nat) (stx rowx : List Int), v24 = .int .i64 i ∧ Aside0 (i ≤ row.length) ∧ Hid (largeL s sm (row.length - i) i stx rowx = some row') ∧ Aside0 (Kd.R (Kd.int .i64) 3 wr base (fun k => okr k ∧ k < w.heap.size) (.slice (some ⟨br, 0, none⟩) rowx.length cr) rowx) ∧
   Aside0 (Kd.R (Kd.int .i64) 3 wr w.heap.size (fun k => w.heap.size ≤ k) (.slice (some ⟨be, 0, none⟩) stx.length ce) stx) ∧ Hid (rowx.length = row.length) ∧ Hid (stx.length = st.length) ∧ Aside0 (w.grownBy wr (some br)))
  (fun v24 _ => row.length - (intOf v24).toNat)
 case atStart => exact ⟨0, st0, row0, rfl, ⟨Nat.zero_le _⟩, by simpa using HH, R2, E2, HL, HL2, GG⟩
 case round =>
  obtain ⟨i, stx, rowx, rfl, hi, hF, hR, hE, hl, hl2, hG⟩ := hrel
  have hSr := hS0.out.move hG.out
  obtain ⟨p0, p1, p2, p3⟩ := hSr.cells
  have hSr' := Aside0.mk hSr
  clear hSr
  by_cases hlt : i < row.length
  ·have hcell := (Kd.R_cell 0 hR.out (i : Int) (by omega) (by have := hl.out; omega)).1
   have hx : ∃ x, rdOf 0 rowx (i : Int) = x ∧ rowx.getD i 0 = x := ⟨_, rfl, by simp [rdOf]⟩
   obtain ⟨x, hx1, hx2⟩ := hx
   rw [hx1] at hcell
   replace hcell : wr.cell? ⟨br, i, none⟩ = some (.int .i64 x) := hcell
   have hF2 := hF.out
   rw [show row.length - i = (row.length - (i + 1)) + 1 by omega, largeL, hx2] at hF2
   have X1 := Go.Lib.hid hx1
   have X2 := Go.Lib.hid hx2
   clear hx1 hx2
   by_cases hpos : 0 < x
   ·rw [if_pos hpos] at hF2
    by_cases hin : x - 1 < sm.length
    ·rw [if_pos hin] at hF2
     have hxb : x ≤ 4611686018427387904 := by omega
     obtain ⟨adm, hAm, hm⟩ := Kd.at_bool (Kd.F_now hSr'.out.m_) (x - 1) (by omega) hin
     subst hAm
     have hb2 : rdOf false sm (x - 1) = sm.getD (x - 1).toNat false := rfl
     rw [hb2, show (x - 1).toNat = x.toNat - 1 by omega] at hm
     rw [show (x - 1).toNat = x.toNat - 1 by omega] at hF2
     by_cases hsm : sm.getD (x.toNat - 1) false = true
     ·rw [if_pos hsm] at hF2
      rw [hsm] at hm
      have HF2 := Go.Lib.hid hF2
      clear hF2 hsm hb2 hF
      go_wp2
      go_roundw
      case rel => exact ⟨i + 1, stx, rowx, by go_num, ⟨by omega⟩, HF2, hR, hE, hl, hl2, hG⟩
      case measure => simp [intOf]; omega
     ·rw [if_neg hsm] at hF2
      have hsm2 : sm.getD (x.toNat - 1) false = false := by simpa using hsm
      rw [hsm2] at hm
      obtain ⟨⟨st1, row1⟩, hf1, hF3⟩ := Option.bind_eq_some_iff.1 hF2
      have HF3 := Go.Lib.hid hF3
      have c2 := first_kd (s := s) (j := x - 1) (by have := hSr'.out; rw [← hl.out] at this; exact this) hR.out hE.out hgbe (fun k hk => by omega) (fun k hk => by omega) hf1
      rw [hl2.out] at c2
      clear hF2 hsm hsm2 hb2 hF hF3 hf1
      go_wp2_with (fail)
      refine c2.mono ?_
      clear c2
      rintro e w3 ⟨rfl, hR3, hE3, hl3, hl4, W1, g1, g2⟩
      have G3 := grown_trans (grown_trans hG.out g1 (fun b e => .inr e.symm)) g2 (fun b e => .inl (by cases e; omega))
      have R3 := Aside0.mk hR3
      have E3 := Aside0.mk hE3
      have GG3 := Aside0.mk G3
      have HL3 := Go.Lib.hid (hl3.trans hl.out)
      have HL4 := Go.Lib.hid hl4
      clear hR3 hE3 G3 g1 g2 hl3 hl4
      go_wp2
      go_roundw
      case rel => exact ⟨i + 1, st1, row1, by go_num, ⟨by omega⟩, HF3, R3, E3, HL3, HL4, GG3⟩
      case measure => simp [intOf]; omega
    ·rw [if_neg hin] at hF2; exact absurd hF2 (by simp)
   ·rw [if_neg hpos] at hF2
    have hneg : x ≤ 0 := by omega
    have HF2 := Go.Lib.hid hF2
    clear hF2 hpos hF
    go_wp2
    go_roundw
    case rel => exact ⟨i + 1, stx, rowx, by go_num, ⟨by omega⟩, HF2, hR, hE, hl, hl2, hG⟩
    case measure => simp [intOf]; omega
  ·have hie : i = row.length := by have := hi.out; omega
   have hF2 := hF.out
   rw [hie, Nat.sub_self, largeL] at hF2
   obtain rfl := Option.some.inj hF2
   have hge : row.length ≤ i := by omega
   clear hF hF2 hie
   go_wp2
   go_end0
   exact ⟨rfl, Kd.R_mono hR.out (fun _ hk => hk.1), hl.out, hG.out⟩
end Go.Proofs.YtbbpplnnegdenaaGreat.So
end
section
namespace Go.Proofs.YtbbpplnnegdenaaGreat.So
open Go Go.RowKit Go.Proofs Go.Proofs.YtbbpplnnegdenaaGreatW.PrintWords
def clearL (sm : List Bool) : Nat → Nat → List Int → Option (List Int)
 | 0, _, row => some row
 | d + 1, i, row =>
   if 0 ≤ row.getD i 0 then
    (if row.getD i 0 < sm.length then
     (if sm.getD (row.getD i 0).toNat false then clearL sm d (i + 1) (row.set i (-1)) else clearL sm d (i + 1) row) else none)
   else clearL sm d (i + 1) row
def smallL (s : List Int) (sm : List Bool) : Nat → List Int → List Int → Option (List Int)
 | 0, _, row => some row
 | d + 1, en, row =>
   if 0 < row.getD d 0 then
    (if row.getD d 0 - 1 < sm.length then
     (if sm.getD (row.getD d 0 - 1).toNat false then (lastF s en row (row.getD d 0 - 1)).bind fun x => smallL s sm d x.1 x.2
     else smallL s sm d en row) else none)
   else smallL s sm d en row
theorem smalls_calls {w : World} {g br base : Nat} {okr : Nat → Prop} {As Am Ac : Option Addr} {cs cm cc cr : Nat} {s : List Int} {sm : List Bool} {co row en row1 row' : List Int}
  (hS : Sr w g br As Am Ac cs cm cc cr s sm co row.length) (hR : Kd.R (Kd.int .i64) 3 w base okr (.slice (some ⟨br, 0, none⟩) row.length cr) row) (hen0 : 0 < en.length)
  (hA : ∀ ad, As = some ad → ad.block < w.heap.size)
  (hen : ∀ W, Sr W g br As Am Ac cs cm cc cr s sm co row.length → Calls Tryz.prog 124 #[.pointer (some ⟨g, 0, none⟩)] W fun e W' => ∃ v, e = .returned v ∧ Kd.R (Kd.int .i64) 3 W' W.heap.size (fun _ => True) v en ∧ Below W.heap.size W W')
  (h0 : clearL sm row.length 0 row = some row1) (h : smallL s sm row.length en row1 = some row') (hb : row.length < 4611686018427387904) (hsl : s.length < 4611686018427387904) (hml : sm.length < 4611686018427387904) :
  Calls Tryz.prog 127 #[.pointer (some ⟨g, 0, none⟩)] w fun e w' => e = .returned (.tuple #[]) ∧ Kd.R (Kd.int .i64) 3 w' base okr (.slice (some ⟨br, 0, none⟩) row'.length cr) row' ∧ row'.length = row.length ∧ w.grownBy w' (some br) := by
 obtain ⟨q0, q1, q2, q3⟩ := hS.cells
 have hS0 := Aside0.mk hS
 have hA0 := Aside0.mk hA
 have hbr : br < w.heap.size := Kd.R_lt hR br (by simp [Value.ownBlock])
 have hgl : g < w.heap.size := blk_lt hS.G
 have H0 := Go.Lib.hid h0
 have HH := Go.Lib.hid h
 have R0 := Aside0.mk (Kd.R_mono (ok' := fun k => okr k ∧ k < w.heap.size) (Kd.R_bound hR) (fun k hk => ⟨hk.1, hk.2.2.1⟩))
 have HEN := Aside0.mk hen
 clear h0 h hS hR hA hen
 go_enter Tryz.func127, Tryz.ntmps127
 go_wp2_with (fail)
 go_loopw [12] (fun v12 wr => ∃ (i : Nat) (rowx : List Int), v12 = .int .i64 i ∧ Aside0 (i ≤ row.length) ∧ Hid (clearL sm (row.length - i) i rowx = some row1) ∧ Aside0 (Kd.R (Kd.int .i64) 3 wr base (fun k => okr k ∧ k < w.heap.size) (.slice (some ⟨br, 0, none⟩) rowx.length cr) rowx) ∧
   Hid (rowx.length = row.length) ∧ Aside0 (w.grownBy wr (some br)))
  (fun v12 _ => row.length - (intOf v12).toNat)
 case atStart => exact ⟨0, row, rfl, ⟨Nat.zero_le _⟩, by simpa using H0, R0, Go.Lib.hid rfl, ⟨grown_refl _ _⟩⟩
 case round =>
  clear q0 q1 q2 q3
  obtain ⟨i, rowx, rfl, hi, hF, hR, hl, hG⟩ := hrel
  have hSr := hS0.out.move hG.out
  obtain ⟨p0, p1, p2, p3⟩ := hSr.cells
  have hSr' := Aside0.mk hSr
  clear hSr
  by_cases hlt : i < row.length
  ·obtain ⟨hcell, hfro⟩ := Kd.R_cell 0 hR.out (i : Int) (by omega) (by have := hl.out; omega)
   have hx : ∃ x, rdOf 0 rowx (i : Int) = x ∧ rowx.getD i 0 = x := ⟨_, rfl, by simp [rdOf]⟩
   obtain ⟨x, hx1, hx2⟩ := hx
   rw [hx1] at hcell
   replace hcell : wr.cell? ⟨br, i, none⟩ = some (.int .i64 x) := hcell
   replace hfro : wr.frozen? ⟨br, i, none⟩ = false := hfro
   have hF2 := hF.out
   rw [show row.length - i = (row.length - (i + 1)) + 1 by omega, clearL, hx2] at hF2
   have X1 := Go.Lib.hid hx1
   have X2 := Go.Lib.hid hx2
   clear hx1 hx2
   by_cases hpos : 0 ≤ x
   ·rw [if_pos hpos] at hF2
    by_cases hin : x < sm.length
    ·rw [if_pos hin] at hF2
     have hxb : x ≤ 4611686018427387904 := by omega
     obtain ⟨adm, hAm, hm⟩ := Kd.at_bool (Kd.F_now hSr'.out.m_) x hpos hin
     subst hAm
     have hb2 : rdOf false sm x = sm.getD x.toNat false := rfl
     rw [hb2] at hm
     by_cases hsm : sm.getD x.toNat false = true
     ·rw [if_pos hsm] at hF2
      rw [hsm] at hm
      have HF2 := Go.Lib.hid hF2
      clear hF2 hsm hb2 hF
      have r1 := Kd.R_putg hR.out (i : Int) (-1)
      rw [Int.toNat_natCast] at r1
      have R1 := Aside0.mk r1.1
      have G1 := Aside0.mk (grown_trans hG.out r1.2 (fun b e => .inr e.symm))
      have HL := Go.Lib.hid (show (rowx.set i (-1)).length = row.length by rw [List.length_set]; exact hl.out)
      clear r1
      go_wp2
      go_roundw
      case rel => exact ⟨i + 1, rowx.set i (-1), by go_num, ⟨by omega⟩, HF2, ⟨by rw [List.length_set]; exact R1.out⟩, HL, G1⟩
      case measure => simp [intOf]; omega
     ·rw [if_neg hsm] at hF2
      have hsm2 : sm.getD x.toNat false = false := by simpa using hsm
      rw [hsm2] at hm
      have HF2 := Go.Lib.hid hF2
      clear hF2 hsm hsm2 hb2 hF
      go_wp2
      go_roundw
      case rel => exact ⟨i + 1, rowx, by go_num, ⟨by omega⟩, HF2, hR, hl, hG⟩
      case measure => simp [intOf]; omega
    ·rw [if_neg hin] at hF2; exact absurd hF2 (by simp)
   ·rw [if_neg hpos] at hF2
    have hneg : x < 0 := by omega
    have HF2 := Go.Lib.hid hF2
    clear hF2 hpos hF
    go_wp2
    go_roundw
    case rel => exact ⟨i + 1, rowx, by go_num, ⟨by omega⟩, HF2, hR, hl, hG⟩
    case measure => simp [intOf]; omega
  ·have hie : i = row.length := by have := hi.out; omega
   have hF2 := hF.out
   rw [hie, Nat.sub_self, clearL] at hF2
   have hrow1 := Option.some.inj hF2
   have hge : row.length ≤ i := by omega
   subst hrow1
   clear hF hF2 hie
   go_wp2_with (fail)
   have c0 := HEN.out wr hSr'.out
   (with_reducible refine Calls.mono c0 ?_)
   clear c0
   rintro e w2 ⟨v2, rfl, hE, hB⟩
   obtain ⟨be, ce, rfl, hbe, hbe2, _⟩ := Kd.R_form hE hen0
   have hsz := hG.out.size
   have hgbe : g ≠ be := fun e => by omega
   have G2 := grown_trans hG.out (grown_below hB (some br)) (fun b e => .inr e.symm)
   have R2 := Aside0.mk (Kd.R_mono (ok' := fun k => okr k ∧ k < w.heap.size) (Kd.R_move (Kd.R_bound hR.out) (fun k hk => hB.block k hk.2.2.1)) (fun k hk => hk.1))
   have E2 := Aside0.mk (Kd.R_mono (ok' := fun k => w.heap.size ≤ k) (Kd.R_lower (Kd.R_bound hE) hsz) (fun k hk => by omega))
   have hS2 := hS0.out.move G2
   obtain ⟨t0, t1, t2, t3⟩ := hS2.cells
   have GG := Aside0.mk G2
   clear hS2 G2 hE hB p0 p1 p2 p3
   go_wp2_with (fail)
   clear t0 t1 t2 t3
   go_loopw [5] (fun v5 ws => ∃ (d : Nat) (enx rowy : List Int), v5 = .int .i64 ((d : Int) - 1) ∧ Aside0 (d ≤ row.length) ∧ Hid (smallL s sm d enx rowy = some row') ∧ Aside0 (Kd.R (Kd.int .i64) 3 ws base (fun k => okr k ∧ k < w.heap.size) (.slice (some ⟨br, 0, none⟩) rowy.length cr) rowy) ∧
     Aside0 (Kd.R (Kd.int .i64) 3 ws w.heap.size (fun k => w.heap.size ≤ k) (.slice (some ⟨be, 0, none⟩) enx.length ce) enx) ∧ Hid (rowy.length = row.length) ∧ Hid (enx.length = en.length) ∧ Aside0 (w.grownBy ws (some br)))
    (fun v5 _ => (intOf v5 + 1).toNat)
   case atStart => exact ⟨row.length, en, rowx, rfl, ⟨Nat.le_refl _⟩, HH, R2, E2, hl, Go.Lib.hid rfl, GG⟩
   case round =>
    obtain ⟨d, enx, rowy, rfl, hd, hF, hR, hE, hl, hl2, hG⟩ := hrel
    have hSr := hS0.out.move hG.out
    obtain ⟨p0, p1, p2, p3⟩ := hSr.cells
    have hSr' := Aside0.mk hSr
    clear hSr
    cases d with
    | zero =>
      have hF2 := hF.out
      rw [smallL] at hF2
      obtain rfl := Option.some.inj hF2
      have hz : ((0 : Nat) : Int) - 1 = -1 := by omega
      rw [hz]
      clear hF hF2 hz
      go_wp2
      go_end0
      exact ⟨rfl, Kd.R_mono hR.out (fun _ hk => hk.1), hl.out, hG.out⟩
    | succ d =>
      have hdl : d < row.length := by have := hd.out; omega
      have hz : ((d + 1 : Nat) : Int) - 1 = (d : Int) := by omega
      rw [hz]
      clear hz
      have hcell := (Kd.R_cell 0 hR.out (d : Int) (by omega) (by have := hl.out; omega)).1
      have hx : ∃ x, rdOf 0 rowy (d : Int) = x ∧ rowy.getD d 0 = x := ⟨_, rfl, by simp [rdOf]⟩
      obtain ⟨x, hx1, hx2⟩ := hx
      rw [hx1] at hcell
      replace hcell : wr.cell? ⟨br, d, none⟩ = some (.int .i64 x) := hcell
      have hF2 := hF.out
      rw [smallL, hx2] at hF2
      have X1 := Go.Lib.hid hx1
      have X2 := Go.Lib.hid hx2
      clear hx1 hx2
      by_cases hpos : 0 < x
      ·rw [if_pos hpos] at hF2
       by_cases hin : x - 1 < sm.length
       ·rw [if_pos hin] at hF2
        have hxb : x ≤ 4611686018427387904 := by omega
        obtain ⟨adm, hAm, hm⟩ := Kd.at_bool (Kd.F_now hSr'.out.m_) (x - 1) (by omega) hin
        subst hAm
        have hb2 : rdOf false sm (x - 1) = sm.getD (x - 1).toNat false := rfl
        rw [hb2, show (x - 1).toNat = x.toNat - 1 by omega] at hm
        rw [show (x - 1).toNat = x.toNat - 1 by omega] at hF2
        by_cases hsm : sm.getD (x.toNat - 1) false = true
        ·rw [if_pos hsm] at hF2
         rw [hsm] at hm
         obtain ⟨⟨en1, row1⟩, hf1, hF3⟩ := Option.bind_eq_some_iff.1 hF2
         have HF3 := Go.Lib.hid hF3
         have c2 := last_kd (s := s) (j := x - 1) (by have := hSr'.out; rw [← hl.out] at this; exact this) hR.out hE.out hgbe (fun ad e => by have := hA0.out ad e; omega) (fun k hk => by omega) (fun k hk => by omega) hf1
         rw [hl2.out] at c2
         clear hF2 hsm hb2 hF hF3 hf1
         go_wp2_with (fail)
         (with_reducible refine c2.mono ?_)
         clear c2
         rintro e w3 ⟨rfl, hR3, hE3, hl3, hl4, W1, g1, g2⟩
         have G3 := grown_trans (grown_trans hG.out g1 (fun b e => .inl (by cases e; omega))) g2 (fun b e => .inr e.symm)
         have R3 := Aside0.mk hR3
         have E3 := Aside0.mk hE3
         have GG3 := Aside0.mk G3
         have HL3 := Go.Lib.hid (hl3.trans hl.out)
         have HL4 := Go.Lib.hid hl4
         clear hR3 hE3 G3 g1 g2 hl3 hl4
         go_wp2
         go_roundw
         case rel => exact ⟨d, en1, row1, rfl, ⟨by omega⟩, HF3, R3, E3, HL3, HL4, GG3⟩
         case measure => simp [intOf] <;> omega
        ·rw [if_neg hsm] at hF2
         have hsm2 : sm.getD (x.toNat - 1) false = false := by simpa using hsm
         rw [hsm2] at hm
         have HF2 := Go.Lib.hid hF2
         clear hF2 hsm hsm2 hb2 hF
         go_wp2
         go_roundw
         case rel => exact ⟨d, enx, rowy, rfl, ⟨by omega⟩, HF2, hR, hE, hl, hl2, hG⟩
         case measure => simp [intOf] <;> omega
       ·rw [if_neg hin] at hF2; exact absurd hF2 (by simp)
      ·rw [if_neg hpos] at hF2
       have hneg : x ≤ 0 := by omega
       have HF2 := Go.Lib.hid hF2
       clear hF2 hpos hF
       go_wp2
       go_roundw
       case rel => exact ⟨d, enx, rowy, rfl, ⟨by omega⟩, HF2, hR, hE, hl, hl2, hG⟩
       case measure => simp [intOf] <;> omega
def endsL (co : List Int) : Nat → Nat → List Int → List Int
 | 0, _, l => l
 | d + 1, i, l => endsL co d (i + 1) (l.set i (wrap64 (l.getD i 0 + co.getD i 0)))
theorem endsL_length (co : List Int) : ∀ (d i : Nat) (l : List Int), (endsL co d i l).length = l.length
 | 0, _, _ => rfl
 | d + 1, i, l => by rw [endsL, endsL_length co d, List.length_set]
theorem ends_calls {w : World} {g br : Nat} {As Am Ac : Option Addr} {cs cm cc cr nr : Nat} {s : List Int} {sm : List Bool} {co st : List Int}
  (hS : Sr w g br As Am Ac cs cm cc cr s sm co nr) (hsl : st.length = co.length) (h0 : 0 < co.length) (hcl : co.length < 4611686018427387904)
  (hst : ∀ W, Kd.C (Kd.int .i64) W Ac co.length co → Calls Tryz.prog 93 #[.slice Ac co.length cc] W fun e W' => ∃ v, e = .returned v ∧ Kd.R (Kd.int .i64) 3 W' W.heap.size (fun _ => True) v st ∧ Below W.heap.size W W') :
  Calls Tryz.prog 124 #[.pointer (some ⟨g, 0, none⟩)] w fun e w' => ∃ v, e = .returned v ∧ Kd.R (Kd.int .i64) 3 w' w.heap.size (fun _ => True) v (endsL co co.length 0 st) ∧ Below w.heap.size w w' := by
 obtain ⟨q0, q1, q2, q3⟩ := hS.cells
 have hS0 := Aside0.mk hS
 have HSL := Go.Lib.hid hsl
 clear hsl
 go_enter Tryz.func124, Tryz.ntmps124
 go_wp2_with (fail)
 (with_reducible refine Calls.mono (hst w (Kd.F_now hS.c_)) ?_)
 rintro e w1 ⟨v1, rfl, hE, hB⟩
 obtain ⟨be, ce, rfl, hbe, hbe2, _⟩ := Kd.R_form hE (by have := HSL.out; omega)
 have hS1 := hS.move (grown_below hB (some br))
 obtain ⟨t0, t1, t2, t3⟩ := hS1.cells
 have E1 := Aside0.mk hE
 have B1 := Aside0.mk hB
 clear hS1 hE hB hS hst q0 q1 q2 q3
 go_wp2_with (fail)
 clear t0 t1 t2 t3
 go_loopw [16] (fun v16 wr => ∃ (i : Nat) (lx : List Int), v16 = .int .i64 i ∧ Aside0 (i ≤ co.length) ∧ Hid (endsL co (co.length - i) i lx = endsL co co.length 0 st) ∧ Aside0 (Kd.R (Kd.int .i64) 3 wr w.heap.size (fun _ => True) (.slice (some ⟨be, 0, none⟩) lx.length ce) lx) ∧
   Hid (lx.length = co.length) ∧ Aside0 (Below w.heap.size w wr))
  (fun v16 _ => co.length - (intOf v16).toNat)
 case atStart => exact ⟨0, st, rfl, ⟨Nat.zero_le _⟩, Go.Lib.hid rfl, E1, HSL, B1⟩
 case round =>
  obtain ⟨i, lx, rfl, hi, hF, hR, hl, hB⟩ := hrel
  by_cases hlt : i < co.length
  ·obtain ⟨hcell, hfro⟩ := Kd.R_cell 0 hR.out (i : Int) (by omega) (by have := hl.out; omega)
   have hSr := hS0.out.move (grown_below hB.out (some br))
   obtain ⟨adc, hAc, hcc⟩ := Kd.at_int (Kd.F_now hSr.c_) (i : Int) (by omega) (by omega)
   subst hAc
   rw [Int.toNat_natCast] at hcc
   have hx : ∃ x, rdOf 0 lx (i : Int) = x ∧ lx.getD i 0 = x := ⟨_, rfl, by simp [rdOf]⟩
   obtain ⟨x, hx1, hx2⟩ := hx
   have hy : ∃ y, rd co (i : Int) = y ∧ co.getD i 0 = y := ⟨_, rfl, by simp [rd]⟩
   obtain ⟨y, hy1, hy2⟩ := hy
   rw [hx1] at hcell
   rw [hy1] at hcc
   replace hcell : wr.cell? ⟨be, i, none⟩ = some (.int .i64 x) := hcell
   replace hfro : wr.frozen? ⟨be, i, none⟩ = false := hfro
   have hF2 := hF.out
   rw [show co.length - i = (co.length - (i + 1)) + 1 by omega, endsL, hx2, hy2] at hF2
   have HF2 := Go.Lib.hid hF2
   have r1 := Kd.R_putg hR.out (i : Int) (wrap64 (x + y))
   rw [Int.toNat_natCast] at r1
   have R1 := Aside0.mk r1.1
   have BB := Aside0.mk (hB.out.grown r1.2 hB.out.size (fun k e => by cases e; exact hbe))
   have HL := Go.Lib.hid (show (lx.set i (wrap64 (x + y))).length = co.length by rw [List.length_set]; exact hl.out)
   have X1 := Go.Lib.hid hx1
   have X2 := Go.Lib.hid hx2
   have Y1 := Go.Lib.hid hy1
   have Y2 := Go.Lib.hid hy2
   have HLX := hl.out
   have hist : i < st.length := by have := HSL.out; omega
   have LX := Go.Lib.hid HLX
   clear hx1 hx2 hy1 hy2 hF2 hF r1 hSr HLX
   have HL0 := Go.Lib.hid HSL.out
   go_wp2
   go_roundw
   case rel => exact ⟨i + 1, lx.set i (wrap64 (x + y)), by go_num, ⟨by omega⟩, HF2, ⟨by rw [List.length_set]; exact R1.out⟩, HL, BB⟩
   case measure => simp [intOf]; omega
  ·have hie : i = co.length := by have := hi.out; omega
   have hF2 := hF.out
   rw [hie, Nat.sub_self] at hF2
   have hF3 : lx = endsL co co.length 0 st := hF2
   have hge : co.length ≤ i := by omega
   have R3 := Aside0.mk hR.out
   clear hF hF2 hie
   go_wp2
   go_ret
   have hll := hl.out
   have hss := HSL.out
   exact ⟨_, rfl, by rw [← hF3]; have := R3.out; rw [hll] at this; rw [hss]; exact this, hB.out⟩
end Go.Proofs.YtbbpplnnegdenaaGreat.So
end
section
namespace Go.Proofs.YtbbpplnnegdenaaGreatW.PrintWords
open Go.RowKit
namespace Kd
section
variable {α : Type} {d : Kd α} {W : World} {g n : Nat} {S ok : Nat → Prop} {A : Option Addr} {ad : Addr} {xs : List α}
theorem C_not_empty (h : d.C W (some ad) n xs) (hn : 0 < n) (hs : 0 < d.sz) : W.cell? ad ≠ none := by
 obtain ⟨ad', he, hc⟩ := h.2.2 hn
 injection he with he
 subst he
 obtain ⟨c, hcl, _, hcell⟩ := hc 0 _ (List.getElem?_eq_getElem (by rw [h.1]; exact hn))
 have h1 := hcell 0 _ (List.getElem?_eq_getElem (by omega))
 rw [Nat.zero_mul, Nat.zero_add, Addr.add_zero'] at h1
 rw [h1]
 exact Option.some_ne_none _
theorem C_lt (h : d.C W (some ad) n xs) (hn : 0 < n) (hs : 0 < d.sz) : ad.block < W.heap.size := by
 cases hc : W.cell? ad with
 | none => exact absurd hc (C_not_empty h hn hs)
 | some v => exact World.block_lt_of_cell? W ad hc
end
end Kd
end Go.Proofs.YtbbpplnnegdenaaGreatW.PrintWords
end
section
namespace Go.Proofs.YtbbpplnnegdenaaGreatW.PrintWords
open Go.RowKit
section
variable {w w' u : World} {m B g : Nat} {o : Obj} {row : Option Nat} {S : Nat → Prop} {a : Addr} {v : Value}
theorem below_at (hq : w.drewN m = w') (h : Below B u w) : Below B u w' := by subst hq; exact pw_below_drewN h m
end
namespace Kd
section
variable {α : Type} {d : Kd α} {e base n m : Nat} {ok : Nat → Prop} {w w' : World} {v : Value} {A : Option Addr} {xs : List α}
theorem R_at (hq : w.drewN m = w') (h : d.R e w base ok v xs) : d.R e w' base ok v xs := by subst hq; exact R_drewN h m
theorem C_at (hq : w.drewN m = w') (h : d.C w A n xs) : d.C w' A n xs := by subst hq; exact C_drewN h m
theorem C_foot_ne {g : Nat} (hd : ∀ {W W' : World} {x : α} {cs : List Value}, d.K W x cs → d.K W' x cs) (h : d.C w A n xs) (hf : ∀ ad, A = some ad → 0 < n → ad.block ≠ g) : ∀ W', KeepBut w W' g none → d.C W' A n xs := by
 intro W' hk
 refine ⟨h.1, h.2.1, fun hn => ?_⟩
 obtain ⟨ad, he, hc⟩ := h.2.2 hn
 refine ⟨ad, he, fun j p hj => ?_⟩
 obtain ⟨cs, h1, h2, h3⟩ := hc j p hj
 exact ⟨cs, h1, hd h2, fun i u hu => keep_cell hk (h3 i u hu) (by rw [add_block]; exact hf ad he hn)⟩
end
end Kd
end Go.Proofs.YtbbpplnnegdenaaGreatW.PrintWords
end
section
namespace Go.Proofs.YtbbpplnnegdenaaGreat.Om
theorem sorted_uniq {α : Type} {R : α → α → Prop} (has : ∀ x y, R x y → ¬ R y x) : ∀ {a b : List α}, a.Pairwise R → b.Pairwise R → (∀ x, x ∈ a ↔ x ∈ b) → a = b
 | [], [], _, _, _ => rfl
 | [], y :: b, _, _, h => by have := (h y).2 (by simp); simp at this
 | x :: a, [], _, _, h => by have := (h x).1 (by simp); simp at this
 | x :: a, y :: b, ha, hb, h => by
   rw [List.pairwise_cons] at ha hb
   have hxy : x = y := by
    rcases List.mem_cons.1 ((h x).1 (by simp)) with e | e
    ·exact e
    ·rcases List.mem_cons.1 ((h y).2 (by simp)) with e2 | e2
     ·exact e2.symm
     ·exact absurd (hb.1 x e) (has _ _ (ha.1 y e2))
   subst hxy
   have hir : ¬ R x x := fun hr => has _ _ hr hr
   congr 1
   refine sorted_uniq has ha.2 hb.2 (fun z => ?_)
   constructor
   ·intro hz
    rcases List.mem_cons.1 ((h z).1 (List.mem_cons_of_mem _ hz)) with e | e
    ·subst e; exact absurd (ha.1 z hz) hir
    ·exact e
   ·intro hz
    rcases List.mem_cons.1 ((h z).2 (List.mem_cons_of_mem _ hz)) with e | e
    ·subst e; exact absurd (hb.1 z hz) hir
    ·exact e
def ltS (X Y : Nat → Int) : Prop := ∃ k, (∀ j, j < k → X j = Y j) ∧ X k < Y k
def ltN (L : Nat) (X Y : Nat → Int) : Prop := ∃ k, k < L ∧ (∀ j, j < k → X j = Y j) ∧ X k < Y k
def eqN (L : Nat) (X Y : Nat → Int) : Prop := ∀ j, j < L → X j = Y j
theorem ltN.ltS {L : Nat} {X Y : Nat → Int} (h : ltN L X Y) : ltS X Y := by
 obtain ⟨k, _, h1, h2⟩ := h; exact ⟨k, h1, h2⟩
theorem eqN.mono {L M : Nat} {X Y : Nat → Int} (h : eqN L X Y) (hm : M ≤ L) : eqN M X Y := fun j hj => h j (by omega)
theorem eqN.symm {L : Nat} {X Y : Nat → Int} (h : eqN L X Y) : eqN L Y X := fun j hj => (h j hj).symm
theorem eqN.trans {L : Nat} {X Y Z : Nat → Int} (h : eqN L X Y) (k : eqN L Y Z) : eqN L X Z := fun j hj => (h j hj).trans (k j hj)
theorem ltS_asymm {X Y : Nat → Int} (h : ltS X Y) : ¬ ltS Y X := by
 rintro ⟨k, h1, h2⟩
 obtain ⟨j, h3, h4⟩ := h
 rcases Nat.lt_trichotomy j k with c | c | c
 ·have := h1 j c; omega
 ·subst c; omega
 ·have := h3 k c; omega
theorem ltS_irrefl (X : Nat → Int) : ¬ ltS X X := by rintro ⟨k, _, h⟩; omega
theorem ltS_trans {X Y Z : Nat → Int} (h : ltS X Y) (k : ltS Y Z) : ltS X Z := by
 obtain ⟨a, h1, h2⟩ := h
 obtain ⟨b, h3, h4⟩ := k
 rcases Nat.lt_trichotomy a b with c | c | c
 ·exact ⟨a, fun j hj => (h1 j hj).trans (h3 j (by omega)), by rw [← h3 a c]; exact h2⟩
 ·subst c; exact ⟨a, fun j hj => (h1 j hj).trans (h3 j hj), by omega⟩
 ·exact ⟨b, fun j hj => (h1 j (by omega)).trans (h3 j hj), by rw [h1 b c]; exact h4⟩
theorem ltS_congr {X Y Z : Nat → Int} (h : ltS X Y) (e : ∀ j, Y j = Z j) : ltS X Z := by
 obtain ⟨a, h1, h2⟩ := h
 exact ⟨a, fun j hj => (h1 j hj).trans (e j), by rw [← e]; exact h2⟩
theorem ltS_congl {X Y Z : Nat → Int} (h : ltS X Y) (e : ∀ j, Z j = X j) : ltS Z Y := by
 obtain ⟨a, h1, h2⟩ := h
 exact ⟨a, fun j hj => (e j).trans (h1 j hj), by rw [e]; exact h2⟩
theorem cmpN (X Y : Nat → Int) : ∀ L, eqN L X Y ∨ ltN L X Y ∨ ltN L Y X := by
 intro L
 induction L with
 | zero => exact .inl (fun j hj => by omega)
 | succ L ih =>
   rcases ih with h | ⟨k, h0, h⟩ | ⟨k, h0, h⟩
   ·rcases Int.lt_trichotomy (X L) (Y L) with c | c | c
    ·exact .inr (.inl ⟨L, by omega, h, c⟩)
    ·refine .inl (fun j hj => ?_)
     rcases Nat.lt_or_ge j L with e | e
     ·exact h j e
     ·obtain rfl : j = L := by omega
      exact c
    ·exact .inr (.inr ⟨L, by omega, h.symm, c⟩)
   ·exact .inr (.inl ⟨k, by omega, h⟩)
   ·exact .inr (.inr ⟨k, by omega, h⟩)
theorem ltS_tri (X Y : Nat → Int) : (∀ j, X j = Y j) ∨ ltS X Y ∨ ltS Y X := by
 by_cases h : ∃ L, ltN L X Y ∨ ltN L Y X
 ·obtain ⟨L, h | h⟩ := h
  ·exact .inr (.inl h.ltS)
  ·exact .inr (.inr h.ltS)
 ·refine .inl (fun j => ?_)
  rcases cmpN X Y (j + 1) with c | c | c
  ·exact c j (by omega)
  ·exact absurd ⟨_, .inl c⟩ h
  ·exact absurd ⟨_, .inr c⟩ h
theorem ltN_add {a b : Nat} {X Y : Nat → Int} : ltN (a + b) X Y ↔ ltN a X Y ∨ (eqN a X Y ∧ ltN b (fun j => X (a + j)) (fun j => Y (a + j))) := by
 constructor
 ·rintro ⟨k, h0, h1, h2⟩
  rcases Nat.lt_or_ge k a with c | c
  ·exact .inl ⟨k, c, h1, h2⟩
  ·refine .inr ⟨fun j hj => h1 j (by omega), k - a, by omega, fun j hj => h1 _ (by omega), ?_⟩
   show X (a + (k - a)) < Y (a + (k - a))
   rw [show a + (k - a) = k by omega]; exact h2
 ·rintro (⟨k, h0, h1, h2⟩ | ⟨e, k, h0, h1, h2⟩)
  ·exact ⟨k, by omega, h1, h2⟩
  ·refine ⟨a + k, by omega, fun j hj => ?_, h2⟩
   rcases Nat.lt_or_ge j a with c | c
   ·exact e j c
   ·have := h1 (j - a) (by omega)
    dsimp only at this
    rwa [show a + (j - a) = j by omega] at this
theorem eqN_add {a b : Nat} {X Y : Nat → Int} : eqN (a + b) X Y ↔ eqN a X Y ∧ eqN b (fun j => X (a + j)) (fun j => Y (a + j)) := by
 constructor
 ·intro h; exact ⟨fun j hj => h j (by omega), fun j hj => h _ (by omega)⟩
 ·rintro ⟨h1, h2⟩ j hj
  rcases Nat.lt_or_ge j a with c | c
  ·exact h1 j c
  ·have := h2 (j - a) (by omega)
   dsimp only at this
   rwa [show a + (j - a) = j by omega] at this
theorem fine_wilf {X Y : Nat → Int} {p q : Nat} (hp : 0 < p) (hq : 0 < q) (hX : ∀ k, X (k + p) = X k) (hY : ∀ k, Y (k + q) = Y k) (h : eqN (p + q) X Y) : ∀ k, X k = Y k := by
 intro k
 induction k using Nat.strongRecOn with
 | _ k ih =>
   rcases Nat.lt_or_ge k (p + q) with c | c
   ·exact h k c
   ·have e1 := hX (k - p)
    have e2 := ih (k - p) (by omega)
    have e3 := hY (k - p - q)
    have e4 := ih (k - p - q) (by omega)
    have e5 := hX (k - p - q)
    have e6 := ih (k - q) (by omega)
    have e7 := hY (k - q)
    rw [show k - p + p = k by omega] at e1
    rw [show k - p - q + q = k - p by omega] at e3
    rw [show k - p - q + p = k - q by omega] at e5
    rw [show k - q + q = k by omega] at e7
    omega
def wd (ws : List (List Int)) (i : Nat) : List Int := ws.getD i []
def chr (ws : List (List Int)) (t : Nat × Nat) (k : Nat) : Int := (wd ws t.1).getD ((t.2 + k) % (wd ws t.1).length) 0
def isT (ws : List (List Int)) (t : Nat × Nat) : Prop := t.1 < ws.length ∧ t.2 < (wd ws t.1).length
def ixL (t t' : Nat × Nat) : Prop := t.1 < t'.1 ∨ (t.1 = t'.1 ∧ t.2 < t'.2)
def ltT (ws : List (List Int)) (t t' : Nat × Nat) : Prop := ltS (chr ws t) (chr ws t') ∨ ((∀ j, chr ws t j = chr ws t' j) ∧ ixL t t')
structure Omega (ws : List (List Int)) (T : List (Nat × Nat)) : Prop where
 rises : T.Pairwise (ltT ws)
 all : ∀ t, t ∈ T ↔ isT ws t
theorem ixL_asymm {t t' : Nat × Nat} (h : ixL t t') : ¬ ixL t' t := by unfold ixL at *; omega
theorem ixL_tri (t t' : Nat × Nat) : ixL t t' ∨ t = t' ∨ ixL t' t := by
 obtain ⟨a, b⟩ := t; obtain ⟨c, d⟩ := t'
 unfold ixL
 rw [Prod.mk.injEq]
 dsimp only
 omega
theorem ltT_asymm {ws : List (List Int)} {t t' : Nat × Nat} (h : ltT ws t t') : ¬ ltT ws t' t := by
 rintro (k | k)
 ·rcases h with h | h
  ·exact ltS_asymm h k
  ·exact ltS_irrefl _ (ltS_congr k h.1)
 ·rcases h with h | h
  ·exact ltS_irrefl _ (ltS_congr h k.1)
  ·exact ixL_asymm h.2 k.2
theorem ltT_tri (ws : List (List Int)) (t t' : Nat × Nat) : ltT ws t t' ∨ t = t' ∨ ltT ws t' t := by
 rcases ltS_tri (chr ws t) (chr ws t') with c | c | c
 ·rcases ixL_tri t t' with k | k | k
  ·exact .inl (.inr ⟨c, k⟩)
  ·exact .inr (.inl k)
  ·exact .inr (.inr (.inr ⟨fun j => (c j).symm, k⟩))
 ·exact .inl (.inl c)
 ·exact .inr (.inr (.inl c))
theorem Omega.uniq {ws : List (List Int)} {T T' : List (Nat × Nat)} (h : Omega ws T) (h' : Omega ws T') : T = T' :=
 sorted_uniq (R := ltT ws) (fun _ _ => ltT_asymm) h.rises h'.rises (fun x => (h.all x).trans (h'.all x).symm)
def onT (ws : List (List Int)) (t : Nat × Nat) (h : Nat) : Nat × Nat := (t.1, (t.2 + h) % (wd ws t.1).length)
theorem onT_is {ws : List (List Int)} {t : Nat × Nat} (ht : isT ws t) (h : Nat) : isT ws (onT ws t h) := ⟨ht.1, Nat.mod_lt _ (by have := ht.2; show 0 < (wd ws t.1).length; omega)⟩
theorem chr_on (ws : List (List Int)) (t : Nat × Nat) (h k : Nat) : chr ws (onT ws t h) k = chr ws t (h + k) := by
 unfold chr onT
 dsimp only
 rw [Nat.add_mod, Nat.mod_mod, ← Nat.add_mod, Nat.add_assoc]
theorem chr_per (ws : List (List Int)) (t : Nat × Nat) (k : Nat) : chr ws t (k + (wd ws t.1).length) = chr ws t k := by
 unfold chr
 rw [← Nat.add_assoc, Nat.add_mod_right]
theorem on_zero {ws : List (List Int)} {t : Nat × Nat} (ht : isT ws t) : onT ws t 0 = t := by
 unfold onT
 rw [Nat.add_zero, Nat.mod_eq_of_lt ht.2]
def RankOf (ws : List (List Int)) (L : Nat) (R : Nat × Nat → Nat) : Prop := ∀ t t', isT ws t → isT ws t' → (R t < R t' ↔ ltN L (chr ws t) (chr ws t')) ∧ (R t = R t' ↔ eqN L (chr ws t) (chr ws t'))
def ltX (L : Nat) (ws : List (List Int)) (t t' : Nat × Nat) : Prop := ltN L (chr ws t) (chr ws t') ∨ (eqN L (chr ws t) (chr ws t') ∧ ixL t t')
def keyLt (ws : List (List Int)) (R : Nat × Nat → Nat) (h : Nat) (t t' : Nat × Nat) : Prop := R t < R t' ∨ (R t = R t' ∧ R (onT ws t h) < R (onT ws t' h))
def keyEq (ws : List (List Int)) (R : Nat × Nat → Nat) (h : Nat) (t t' : Nat × Nat) : Prop := R t = R t' ∧ R (onT ws t h) = R (onT ws t' h)
def ordK (ws : List (List Int)) (R : Nat × Nat → Nat) (h : Nat) (t t' : Nat × Nat) : Prop := keyLt ws R h t t' ∨ (keyEq ws R h t t' ∧ ixL t t')
def rkA (c : Nat → Bool) : Nat → Nat
 | 0 => 0
 | i + 1 => rkA c i + (if c (i + 1) = true then 1 else 0)
theorem rkA_mono {c : Nat → Bool} {i j : Nat} (h : i ≤ j) : rkA c i ≤ rkA c j := by
 induction j with
 | zero => rw [show i = 0 by omega]; exact Nat.le_refl _
 | succ j ih =>
   rcases Nat.lt_or_ge j i with e | e
   ·rw [show i = j + 1 by omega]; exact Nat.le_refl _
   ·have := ih e; rw [rkA]; omega
theorem rkA_congr {c c' : Nat → Bool} {n : Nat} (h : ∀ i, i ≤ n → c i = c' i) : ∀ i, i ≤ n → rkA c i = rkA c' i := by
 intro i
 induction i with
 | zero => intro _; rfl
 | succ i ih => intro hi; rw [rkA, rkA, ih (by omega), h (i + 1) hi]
section
variable {ws : List (List Int)} {R : Nat × Nat → Nat} {h : Nat}
theorem keyEq.refl (t : Nat × Nat) : keyEq ws R h t t := ⟨rfl, rfl⟩
theorem keyEq.symm {t t' : Nat × Nat} (e : keyEq ws R h t t') : keyEq ws R h t' t := ⟨e.1.symm, e.2.symm⟩
theorem keyEq.trans {t t' t2 : Nat × Nat} (e : keyEq ws R h t t') (k : keyEq ws R h t' t2) : keyEq ws R h t t2 := ⟨e.1.trans k.1, e.2.trans k.2⟩
theorem keyLt.not_eq {t t' : Nat × Nat} (e : keyLt ws R h t t') : ¬ keyEq ws R h t t' := by unfold keyLt keyEq at *; omega
theorem keyLt.asymm {t t' : Nat × Nat} (e : keyLt ws R h t t') : ¬ keyLt ws R h t' t := by unfold keyLt at *; omega
theorem keyLt.trans {t t' t2 : Nat × Nat} (e : keyLt ws R h t t') (k : keyLt ws R h t' t2) : keyLt ws R h t t2 := by unfold keyLt at *; omega
theorem keyLt.eqr {t t' t2 : Nat × Nat} (e : keyLt ws R h t t') (k : keyEq ws R h t' t2) : keyLt ws R h t t2 := by unfold keyLt keyEq at *; omega
theorem keyLt.eql {t t' t2 : Nat × Nat} (e : keyEq ws R h t t') (k : keyLt ws R h t' t2) : keyLt ws R h t t2 := by unfold keyLt keyEq at *; omega
def at_ (T : List (Nat × Nat)) (i : Nat) : Nat × Nat := T.getD i (0, 0)
theorem at_mem {T : List (Nat × Nat)} {i : Nat} (hi : i < T.length) : at_ T i ∈ T := by
 unfold at_; rw [List.getD_eq_getElem?_getD, List.getElem?_eq_getElem hi]; exact List.getElem_mem hi
theorem at_pw {T : List (Nat × Nat)} {r : Nat × Nat → Nat × Nat → Prop} (hp : T.Pairwise r) {i j : Nat} (hij : i < j) (hj : j < T.length) : r (at_ T i) (at_ T j) := by
 unfold at_
 rw [List.getD_eq_getElem?_getD, List.getD_eq_getElem?_getD, List.getElem?_eq_getElem hj, List.getElem?_eq_getElem (by omega)]
 exact List.pairwise_iff_getElem.1 hp i j (by omega) hj hij
theorem at_of_mem {T : List (Nat × Nat)} {t : Nat × Nat} (h : t ∈ T) : ∃ i, i < T.length ∧ at_ T i = t := by
 obtain ⟨i, hi, e⟩ := List.mem_iff_getElem.1 h
 refine ⟨i, hi, ?_⟩
 unfold at_; rw [List.getD_eq_getElem?_getD, List.getElem?_eq_getElem hi]; exact e
def chg (ws : List (List Int)) (R : Nat × Nat → Nat) (h : Nat) (T : List (Nat × Nat)) (i : Nat) : Bool := !(R (at_ T (i - 1)) == R (at_ T i) && R (onT ws (at_ T (i - 1)) h) == R (onT ws (at_ T i) h))
theorem chg_iff {T : List (Nat × Nat)} {i : Nat} : chg ws R h T i = false ↔ keyEq ws R h (at_ T (i - 1)) (at_ T i) := by
 unfold chg keyEq
 simp
theorem rk_eq {T : List (Nat × Nat)} (hp : T.Pairwise (ordK ws R h)) {i : Nat} : ∀ {j : Nat}, i ≤ j → j < T.length → (rkA (chg ws R h T) i = rkA (chg ws R h T) j ↔ keyEq ws R h (at_ T i) (at_ T j)) := by
 intro j
 induction j with
 | zero =>
   intro h1 h2
   obtain rfl : i = 0 := by omega
   exact ⟨fun _ => keyEq.refl _, fun _ => rfl⟩
 | succ j ih =>
   intro h1 h2
   rcases Nat.lt_or_ge j i with e | e
   ·obtain rfl : i = j + 1 := by omega
    exact ⟨fun _ => keyEq.refl _, fun _ => rfl⟩
   ·have ih := ih e (by omega)
    have hm := rkA_mono (c := chg ws R h T) e
    have hc := chg_iff (ws := ws) (R := R) (h := h) (T := T) (i := j + 1)
    rw [Nat.add_sub_cancel] at hc
    rw [rkA]
    constructor
    ·intro h3
     cases hch : chg ws R h T (j + 1) with
     | true => rw [hch, if_pos rfl] at h3; omega
     | false =>
       rw [hch, if_neg (by decide), Nat.add_zero] at h3
       exact (ih.1 h3).trans (hc.1 hch)
    ·intro h3
     have hij : keyEq ws R h (at_ T i) (at_ T j) := by
      rcases Nat.lt_or_ge i j with e2 | e2
      ·rcases at_pw hp e2 (by omega) with k | k
       ·exfalso
        have hjj := at_pw hp (show j < j + 1 by omega) h2
        rcases hjj with k2 | k2
        ·exact (k.trans k2).not_eq h3
        ·exact (k.eqr k2.1).not_eq h3
       ·exact k.1
      ·rw [show i = j by omega]; exact keyEq.refl _
     have : chg ws R h T (j + 1) = false := hc.2 (hij.symm.trans h3)
     rw [this, if_neg (by decide), Nat.add_zero]
     exact ih.2 hij
def Numbered (T : List (Nat × Nat)) (c : Nat → Bool) (R' : Nat × Nat → Nat) : Prop := ∀ i, i < T.length → R' (at_ T i) = rkA c i
theorem numbered_key {T : List (Nat × Nat)} (hp : T.Pairwise (ordK ws R h)) (hall : ∀ t, t ∈ T ↔ isT ws t) {R' : Nat × Nat → Nat} (hn : Numbered T (chg ws R h T) R') {t t' : Nat × Nat} (ht : isT ws t) (ht' : isT ws t') :
  (R' t < R' t' ↔ keyLt ws R h t t') ∧ (R' t = R' t' ↔ keyEq ws R h t t') := by
 obtain ⟨i, hi, rfl⟩ := at_of_mem ((hall t).2 ht)
 obtain ⟨j, hj, rfl⟩ := at_of_mem ((hall t').2 ht')
 rw [hn i hi, hn j hj]
 rcases Nat.lt_trichotomy i j with e | e | e
 ·have h1 := rk_eq hp (show i ≤ j by omega) hj
  have h2 := rkA_mono (c := chg ws R h T) (show i ≤ j by omega)
  refine ⟨⟨fun h3 => ?_, fun h3 => ?_⟩, h1⟩
  ·rcases at_pw hp e hj with k | k
   ·exact k
   ·have := h1.2 k.1; omega
  ·have : ¬ _ := fun h4 => h3.not_eq (h1.1 h4)
   omega
 ·subst e
  exact ⟨⟨fun h3 => by omega, fun h3 => absurd (keyEq.refl _) h3.not_eq⟩, ⟨fun _ => keyEq.refl _, fun _ => rfl⟩⟩
 ·have h1 := rk_eq hp (show j ≤ i by omega) hi
  have h2 := rkA_mono (c := chg ws R h T) (show j ≤ i by omega)
  refine ⟨⟨fun h3 => by omega, fun h3 => ?_⟩, ⟨fun h3 => (h1.1 h3.symm).symm, fun h3 => (h1.2 h3.symm).symm⟩⟩
  rcases at_pw hp e hi with k | k
  ·exact absurd h3 k.asymm
  ·exact absurd k.1.symm h3.not_eq
theorem key_zero (hR : RankOf ws 1 R) {t t' : Nat × Nat} (ht : isT ws t) (ht' : isT ws t') : (keyLt ws R 0 t t' ↔ ltN 1 (chr ws t) (chr ws t')) ∧ (keyEq ws R 0 t t' ↔ eqN 1 (chr ws t) (chr ws t')) := by
 have := hR t t' ht ht'
 unfold keyLt keyEq
 rw [on_zero ht, on_zero ht', ← this.1, ← this.2]
 omega
theorem key_dbl (hR : RankOf ws h R) {t t' : Nat × Nat} (ht : isT ws t) (ht' : isT ws t') : (keyLt ws R h t t' ↔ ltN (h + h) (chr ws t) (chr ws t')) ∧ (keyEq ws R h t t' ↔ eqN (h + h) (chr ws t) (chr ws t')) := by
 have h1 := hR t t' ht ht'
 have h2 := hR _ _ (onT_is ht h) (onT_is ht' h)
 have e1 : chr ws (onT ws t h) = fun j => chr ws t (h + j) := funext (chr_on ws t h)
 have e2 : chr ws (onT ws t' h) = fun j => chr ws t' (h + j) := funext (chr_on ws t' h)
 rw [e1, e2] at h2
 unfold keyLt keyEq
 rw [ltN_add, eqN_add, h1.1, h1.2, h2.1, h2.2]
 exact ⟨Iff.rfl, Iff.rfl⟩
end
structure OmI (ws : List (List Int)) (L : Nat) (T : List (Nat × Nat)) (R : Nat × Nat → Nat) (was : Nat) : Prop where
 rank : RankOf ws L R
 srt : T.Pairwise (ltX L ws)
 all : ∀ t, t ∈ T ↔ isT ws t
 num : ∃ c, Numbered T c R ∧ was = rkA c (T.length - 1)
theorem OmI.of {ws : List (List Int)} {R : Nat × Nat → Nat} {h L : Nat} {T : List (Nat × Nat)} (hk : ∀ {t t' : Nat × Nat}, isT ws t → isT ws t' → (keyLt ws R h t t' ↔ ltN L (chr ws t) (chr ws t')) ∧ (keyEq ws R h t t' ↔ eqN L (chr ws t) (chr ws t')))
  (hp : T.Pairwise (ordK ws R h)) (hall : ∀ t, t ∈ T ↔ isT ws t) {R' : Nat × Nat → Nat} (hn : Numbered T (chg ws R h T) R') : OmI ws L T R' (rkA (chg ws R h T) (T.length - 1)) := by
 refine ⟨fun t t' ht ht' => ?_, ?_, hall, _, hn, rfl⟩
 ·have h1 := numbered_key hp hall hn ht ht'
  have h2 := hk ht ht'
  exact ⟨h1.1.trans h2.1, h1.2.trans h2.2⟩
 ·refine List.Pairwise.imp_of_mem (fun {a b} ha hb hab => ?_) hp
  have h2 := hk ((hall a).1 ha) ((hall b).1 hb)
  rcases hab with k | k
  ·exact .inl (h2.1.1 k)
  ·exact .inr ⟨h2.2.1 k.1, k.2⟩
theorem OmI.done {ws : List (List Int)} {R : Nat × Nat → Nat} {L was : Nat} {T : List (Nat × Nat)} (h : OmI ws L T R was) (he : ∀ t t', isT ws t → isT ws t' → eqN L (chr ws t) (chr ws t') → ∀ j, chr ws t j = chr ws t' j) : Omega ws T := by
 refine ⟨?_, h.all⟩
 refine List.Pairwise.imp_of_mem (fun {a b} ha hb hab => ?_) h.srt
 rcases hab with k | k
 ·exact .inl k.ltS
 ·exact .inr ⟨he a b ((h.all a).1 ha) ((h.all b).1 hb) k.1, k.2⟩
theorem OmI.long {ws : List (List Int)} {R : Nat × Nat → Nat} {L was : Nat} {T : List (Nat × Nat)} (h : OmI ws L T R was) {lg : Nat} (hlg : ∀ i, i < ws.length → (wd ws i).length ≤ lg) (hL : 2 * lg ≤ L) : Omega ws T := by
 refine h.done (fun t t' ht ht' he => ?_)
 have h1 := hlg _ ht.1
 have h2 := hlg _ ht'.1
 have h3 := ht.2
 have h4 := ht'.2
 exact fine_wilf (p := (wd ws t.1).length) (q := (wd ws t'.1).length) (by omega) (by omega) (chr_per ws t) (chr_per ws t') (he.mono (by omega))
theorem OmI.stop {ws : List (List Int)} {R R' : Nat × Nat → Nat} {h was : Nat} {T T' : List (Nat × Nat)} (h0 : 0 < h) (hI : OmI ws h T R was) (hI' : OmI ws (h + h) T' R' was) (hpm : T'.Perm T) : Omega ws T' := by
 obtain ⟨c, hc, hw⟩ := hI.num
 obtain ⟨c', hc', hw'⟩ := hI'.num
 have hlen := hpm.length_eq
 have hmap : T'.map R = T.map R := by
  refine List.Perm.eq_of_pairwise (le := fun a b => a ≤ b) (fun a b _ _ h1 h2 => Nat.le_antisymm h1 h2) ?_ ?_ (hpm.map R)
  ·rw [List.pairwise_map]
   refine List.Pairwise.imp_of_mem (fun {a b} ha hb hab => ?_) hI'.srt
   have h1 := hI.rank a b ((hI'.all a).1 ha) ((hI'.all b).1 hb)
   rcases hab with k | k
   ·rcases ltN_add.1 k with k | k
    ·have := h1.1.2 k; omega
    ·have := h1.2.2 k.1; omega
   ·have := h1.2.2 (eqN_add.1 k.1).1; omega
  ·rw [List.pairwise_map]
   refine List.Pairwise.imp_of_mem (fun {a b} ha hb hab => ?_) hI.srt
   have h1 := hI.rank a b ((hI.all a).1 ha) ((hI.all b).1 hb)
   rcases hab with k | k
   ·have := h1.1.2 k; omega
   ·have := h1.2.2 k.1; omega
 have hat : ∀ i, i < T'.length → R (at_ T' i) = rkA c i := by
  intro i hi
  rw [← hc i (by omega)]
  have := congrArg (fun l => l.getD i 0) hmap
  simp only [List.getD_eq_getElem?_getD, List.getElem?_map, List.getElem?_eq_getElem hi, List.getElem?_eq_getElem (show i < T.length by omega), Option.map_some, Option.getD_some] at this
  unfold at_
  rw [List.getD_eq_getElem?_getD, List.getElem?_eq_getElem hi, List.getD_eq_getElem?_getD, List.getElem?_eq_getElem (show i < T.length by omega)]
  exact this
 have hstep : ∀ i, i + 1 < T'.length → rkA c (i + 1) - rkA c i ≤ rkA c' (i + 1) - rkA c' i := by
  intro i hi
  have h1 := at_pw hI'.srt (show i < i + 1 by omega) hi
  have ha := (hI'.all _).1 (at_mem (show i < T'.length by omega))
  have hb := (hI'.all _).1 (at_mem hi)
  have hr := hI.rank _ _ ha hb
  have hr' := hI'.rank _ _ ha hb
  rw [hat i (by omega), hat (i + 1) hi] at hr
  rw [hc' i (by omega), hc' (i + 1) hi] at hr'
  have h2 : rkA c (i + 1) ≤ rkA c i + 1 := by rw [rkA]; split <;> omega
  rcases h1 with k | k
  ·have := hr'.1.2 k; omega
  ·have := hr.2.2 (eqN_add.1 k.1).1; omega
 have hdiff : ∀ d i, i + d = T'.length - 1 → rkA c' i = rkA c i := by
  have up : ∀ i, i < T'.length → rkA c i ≤ rkA c' i := by
   intro i
   induction i with
   | zero => intro _; exact Nat.le_refl _
   | succ i ih => intro hi; have := ih (by omega); have := hstep i hi; have := rkA_mono (c := c) (show i ≤ i + 1 by omega); have := rkA_mono (c := c') (show i ≤ i + 1 by omega); omega
  intro d
  induction d with
  | zero => intro i hi; rw [show i = T'.length - 1 by omega, ← hw', hlen, ← hw]
  | succ d ih =>
    intro i hi
    have h1 := ih (i + 1) (by omega)
    have h2 := hstep i (by omega)
    have h3 := up i (by omega)
    have := rkA_mono (c := c) (show i ≤ i + 1 by omega)
    have := rkA_mono (c := c') (show i ≤ i + 1 by omega)
    omega
 have hsame : ∀ t t', isT ws t → isT ws t' → eqN h (chr ws t) (chr ws t') → eqN (h + h) (chr ws t) (chr ws t') := by
  intro t t' ht ht' he
  obtain ⟨i, hi, rfl⟩ := at_of_mem ((hI'.all t).2 ht)
  obtain ⟨j, hj, rfl⟩ := at_of_mem ((hI'.all t').2 ht')
  have h1 := (hI.rank _ _ ht ht').2.2 he
  refine (hI'.rank _ _ ht ht').2.1 ?_
  rw [hc' i hi, hc' j hj, hdiff (T'.length - 1 - i) i (by omega), hdiff (T'.length - 1 - j) j (by omega), ← hat i hi, ← hat j hj]
  exact h1
 refine hI'.done (fun t t' ht ht' he2 j => ?_)
 have he := he2.mono (show h ≤ h + h by omega)
 clear he2
 induction j using Nat.strongRecOn generalizing t t' with
 | _ j ih =>
   rcases Nat.lt_or_ge j h with e | e
   ·exact he j e
   ·have h1 := hsame t t' ht ht' he
    have h2 := (eqN_add.1 h1).2
    have h3 := ih (j - h) (by omega) (onT ws t h) (onT ws t' h) (onT_is ht h) (onT_is ht' h) (fun x hx => by rw [chr_on, chr_on]; exact h2 x hx)
    rw [chr_on, chr_on, show h + (j - h) = j by omega] at h3
    exact h3
end Go.Proofs.YtbbpplnnegdenaaGreat.Om
end
section
namespace Go.Proofs.YtbbpplnnegdenaaGreat.Oy
open Go.Proofs.YtbbpplnnegdenaaGreat.Om
def cmpB (X Y : Nat → Int) : Nat → Nat → Int
 | _, 0 => 0
 | k, L + 1 => if X k < Y k then -1 else if Y k < X k then 1 else cmpB X Y (k + 1) L
theorem cmpB_spec (X Y : Nat → Int) : ∀ (L k : Nat), (∀ j, j < k → X j = Y j) → (cmpB X Y k L = 0 ∧ eqN (k + L) X Y) ∨ (cmpB X Y k L = -1 ∧ ltN (k + L) X Y) ∨ (cmpB X Y k L = 1 ∧ ltN (k + L) Y X)
 | 0, k, h => .inl ⟨rfl, h⟩
 | L + 1, k, h => by
   unfold cmpB
   by_cases c1 : X k < Y k
   ·rw [if_pos c1]; exact .inr (.inl ⟨rfl, k, by omega, h, c1⟩)
   ·rw [if_neg c1]
    by_cases c2 : Y k < X k
    ·rw [if_pos c2]; exact .inr (.inr ⟨rfl, k, by omega, fun j hj => (h j hj).symm, c2⟩)
    ·rw [if_neg c2]
     have := cmpB_spec X Y L (k + 1) (fun j hj => by
      rcases Nat.lt_or_ge j k with c | c
      ·exact h j c
      ·obtain rfl : j = k := by omega
       omega)
     rwa [show k + 1 + L = k + (L + 1) by omega] at this
def leB (ws : List (List Int)) (t t' : Nat × Nat) : Bool :=
 let c := cmpB (chr ws t) (chr ws t') 0 ((wd ws t.1).length + 1 + ((wd ws t'.1).length + 1))
 decide (c = -1) || (decide (c = 0) && (decide (t.1 < t'.1) || (decide (t.1 = t'.1) && decide (t.2 ≤ t'.2))))
theorem chr_per1 (ws : List (List Int)) (t : Nat × Nat) : ∃ p, 0 < p ∧ p ≤ (wd ws t.1).length + 1 ∧ ∀ k, chr ws t (k + p) = chr ws t k := by
 rcases Nat.eq_zero_or_pos (wd ws t.1).length with h | h
 ·refine ⟨1, by omega, by omega, fun k => ?_⟩
  unfold chr
  rw [List.eq_nil_of_length_eq_zero h]; simp
 ·exact ⟨_, h, by omega, fun k => chr_per ws t k⟩
theorem leB_iff (ws : List (List Int)) (t t' : Nat × Nat) : leB ws t t' = true ↔ (ltT ws t t' ∨ t = t') := by
 obtain ⟨p, hp, hpl, hP⟩ := chr_per1 ws t
 obtain ⟨q, hq, hql, hQ⟩ := chr_per1 ws t'
 have hall : eqN ((wd ws t.1).length + 1 + ((wd ws t'.1).length + 1)) (chr ws t) (chr ws t') → ∀ k, chr ws t k = chr ws t' k := fun h => fine_wilf hp hq hP hQ (h.mono (by omega))
 have hc := cmpB_spec (chr ws t) (chr ws t') ((wd ws t.1).length + 1 + ((wd ws t'.1).length + 1)) 0 (fun j hj => by omega)
 rw [Nat.zero_add] at hc
 unfold leB
 dsimp only
 obtain ⟨c, hcc⟩ : ∃ c, cmpB (chr ws t) (chr ws t') 0 ((wd ws t.1).length + 1 + ((wd ws t'.1).length + 1)) = c := ⟨_, rfl⟩
 rw [hcc] at hc ⊢
 rcases hc with ⟨rfl, h⟩ | ⟨rfl, h⟩ | ⟨rfl, h⟩
 ·have he := hall h
  have e : (ltT ws t t' ∨ t = t') ↔ (t.1 < t'.1 ∨ (t.1 = t'.1 ∧ t.2 ≤ t'.2)) := by
   constructor
   ·rintro ((h1 | h1) | h1)
    ·obtain ⟨k, _, h1⟩ := h1
     have := he k; omega
    ·rcases h1.2 with h1 | h1
     ·exact .inl h1
     ·exact .inr ⟨h1.1, by omega⟩
    ·rw [h1]; exact .inr ⟨rfl, Nat.le_refl _⟩
   ·rintro (h1 | ⟨h1, h2⟩)
    ·exact .inl (.inr ⟨he, .inl h1⟩)
    ·rcases Nat.lt_or_eq_of_le h2 with h2 | h2
     ·exact .inl (.inr ⟨he, .inr ⟨h1, h2⟩⟩)
     ·exact .inr (Prod.ext h1 h2)
  rw [e]; simp
 ·simp
  exact .inl (.inl h.ltS)
 ·simp
  refine ⟨fun h1 => ?_, fun h1 => ?_⟩
  ·rcases h1 with h1 | h1
   ·exact ltS_asymm h1 h.ltS
   ·obtain ⟨k, _, _, h2⟩ := h
    have := h1.1 k; omega
  ·subst h1
   exact ltS_irrefl _ h.ltS
def rots (ws : List (List Int)) : List (Nat × Nat) := (List.range ws.length).flatMap fun i => (List.range (wd ws i).length).map fun k => (i, k)
theorem mem_rots (ws : List (List Int)) (t : Nat × Nat) : t ∈ rots ws ↔ isT ws t := by
 unfold rots isT
 rw [List.mem_flatMap]
 constructor
 ·rintro ⟨i, hi, h⟩
  obtain ⟨k, hk, rfl⟩ := List.mem_map.1 h
  exact ⟨List.mem_range.1 hi, List.mem_range.1 hk⟩
 ·rintro ⟨h1, h2⟩
  exact ⟨t.1, List.mem_range.2 h1, List.mem_map.2 ⟨t.2, List.mem_range.2 h2, rfl⟩⟩
def omegaT (ws : List (List Int)) : List (Nat × Nat) := (rots ws).mergeSort (leB ws)
theorem ltT_trans {ws : List (List Int)} {a b c : Nat × Nat} (h : ltT ws a b) (k : ltT ws b c) : ltT ws a c := by
 rcases h with h | ⟨h1, h2⟩
 ·rcases k with k | ⟨k1, k2⟩
  ·exact .inl (ltS_trans h k)
  ·exact .inl (ltS_congr h k1)
 ·rcases k with k | ⟨k1, k2⟩
  ·exact .inl (ltS_congl k h1)
  ·refine .inr ⟨fun j => (h1 j).trans (k1 j), ?_⟩
   unfold ixL at *; omega
theorem leB_trans (ws : List (List Int)) (a b c : Nat × Nat) (h : leB ws a b = true) (k : leB ws b c = true) : leB ws a c = true := by
 rw [leB_iff] at *
 rcases h with h | rfl
 ·rcases k with k | rfl
  ·exact .inl (ltT_trans h k)
  ·exact .inl h
 ·exact k
theorem leB_total (ws : List (List Int)) (a b : Nat × Nat) : (leB ws a b || leB ws b a) = true := by
 rw [Bool.or_eq_true, leB_iff, leB_iff]
 rcases ltT_tri ws a b with h | h | h
 ·exact .inl (.inl h)
 ·exact .inl (.inr h)
 ·exact .inr (.inl h)
theorem rots_nodup (ws : List (List Int)) : (rots ws).Nodup := by
 unfold rots List.flatMap
 have gen : ∀ l : List Nat, l.Pairwise (· < ·) → ((l.map fun i => (List.range (wd ws i).length).map fun k => (i, k)).flatten).Nodup := by
  intro l hl
  induction l with
  | nil => exact List.nodup_nil
  | cons i l ih =>
    rw [List.pairwise_cons] at hl
    rw [List.map_cons, List.flatten_cons, List.nodup_append]
    refine ⟨?_, ih hl.2, ?_⟩
    ·refine List.Pairwise.map (R := fun a b => a ≠ b) _ (fun a b hab e => ?_) List.nodup_range
     injection e with _ e
     exact hab e
    ·intro a ha b hb e
     subst e
     obtain ⟨k, _, rfl⟩ := List.mem_map.1 ha
     obtain ⟨r, hr, hx⟩ := List.mem_flatten.1 hb
     obtain ⟨i', hi', rfl⟩ := List.mem_map.1 hr
     obtain ⟨k', _, e⟩ := List.mem_map.1 hx
     injection e with e _
     have := hl.1 i' hi'
     omega
 exact gen _ List.pairwise_lt_range
theorem omegaT_is (ws : List (List Int)) : Omega ws (omegaT ws) := by
 unfold omegaT
 refine ⟨?_, fun t => by rw [List.mem_mergeSort, mem_rots]⟩
 have h1 := List.pairwise_mergeSort (le := leB ws) (leB_trans ws) (leB_total ws) (rots ws)
 have h2 : ((rots ws).mergeSort (leB ws)).Nodup := (List.mergeSort_perm _ _).nodup_iff.2 (rots_nodup ws)
 refine (h1.and h2).imp ?_
 rintro a b ⟨h3, h4⟩
 rw [leB_iff] at h3
 exact h3.resolve_right h4
end Go.Proofs.YtbbpplnnegdenaaGreat.Oy
end
section
namespace Go.Proofs.YtbbpplnnegdenaaGreat.Ro
open Go.Proofs.YtbbpplnnegdenaaGreat.Om Go.Proofs.YtbbpplnnegdenaaGreat.Oy
theorem at_drop {T : List (Nat × Nat)} {j : Nat} {x : Nat × Nat} (hx : x ∈ T.drop j) : ∃ i, j ≤ i ∧ i < T.length ∧ at_ T i = x := by
 obtain ⟨i, hi, e⟩ := List.mem_iff_getElem.1 hx
 rw [List.length_drop] at hi
 refine ⟨j + i, by omega, by omega, ?_⟩
 unfold at_
 rw [List.getD_eq_getElem?_getD, List.getElem?_eq_getElem (by omega), ← e, List.getElem_drop]; rfl
theorem at_take {T : List (Nat × Nat)} {j : Nat} {x : Nat × Nat} (hx : x ∈ T.take j) : ∃ i, i < j ∧ i < T.length ∧ at_ T i = x := by
 obtain ⟨i, hi, e⟩ := List.mem_iff_getElem.1 hx
 rw [List.length_take] at hi
 refine ⟨i, by omega, by omega, ?_⟩
 unfold at_
 rw [List.getD_eq_getElem?_getD, List.getElem?_eq_getElem (by omega), ← e, List.getElem_take]; rfl
theorem ins_rises {ws : List (List Int)} {T : List (Nat × Nat)} {t : Nat × Nat} {j : Nat} (hT : T.Pairwise (ltT ws)) (hb : ∀ x ∈ T, ixL x t) (hj : j ≤ T.length)
  (h1 : ∀ i, j ≤ i → i < T.length → ltS (chr ws t) (chr ws (at_ T i))) (h2 : j = 0 ∨ ¬ ltS (chr ws t) (chr ws (at_ T (j - 1)))) : (T.take j ++ t :: T.drop j).Pairwise (ltT ws) := by
 have hlast : 0 < j → ltT ws (at_ T (j - 1)) t := fun h0 => by
  rcases h2 with h2 | h2
  ·omega
  ·rcases ltS_tri (chr ws (at_ T (j - 1))) (chr ws t) with c | c | c
   ·exact .inr ⟨c, hb _ (at_mem (by omega))⟩
   ·exact .inl c
   ·exact absurd c h2
 have hlow : ∀ x ∈ T.take j, ltT ws x t := fun x hx => by
  obtain ⟨i, hi, hil, rfl⟩ := at_take hx
  rcases Nat.lt_or_ge i (j - 1) with c | c
  ·exact ltT_trans (at_pw hT c (by omega)) (hlast (by omega))
  ·obtain rfl : i = j - 1 := by omega
   exact hlast (by omega)
 have hup : ∀ y ∈ T.drop j, ltT ws t y := fun y hy => by
  obtain ⟨i, hi, hil, rfl⟩ := at_drop hy
  exact .inl (h1 i hi hil)
 have hs := hT
 rw [← List.take_append_drop j T, List.pairwise_append] at hs
 rw [List.pairwise_append]
 refine ⟨hs.1, List.pairwise_cons.2 ⟨hup, hs.2.1⟩, fun x hx y hy => ?_⟩
 rcases List.mem_cons.1 hy with rfl | hy
 ·exact hlow x hx
 ·exact hs.2.2 x hx y hy
end Go.Proofs.YtbbpplnnegdenaaGreat.Ro
end
section
namespace Go.Proofs.YtbbpplnnegdenaaGreatW.PrintWords
theorem Reps.front {α : Type} {R : α → List Value → Prop} {size : Nat} {ps : List α} {cs c all : List Value} {p : α} (hp : R p c) (hc : c.length = size) (h : Reps R size ps cs) (ha : c ++ cs = all) : Reps R size (p :: ps) all := by
 subst ha
 refine ⟨by rw [List.length_append, hc, h.1, List.length_cons, Nat.succ_mul, Nat.add_comm], fun j q hq => ?_⟩
 cases j with
 | zero =>
   simp only [List.getElem?_cons_zero, Option.some.injEq] at hq
   subst hq
   rw [Nat.zero_mul, List.drop_zero, List.take_append_of_le_length (by omega), List.take_of_length_le (by omega)]
   exact hp
 | succ j =>
   simp only [List.getElem?_cons_succ] at hq
   have h1 := h.2 j q hq
   rw [Nat.succ_mul, List.drop_append, List.drop_of_length_le (by rw [hc]; exact Nat.le_add_left _ _), List.nil_append, hc, Nat.add_sub_cancel]
   exact h1
theorem Reps.c2 {α : Type} {R : α → List Value → Prop} {ps : List α} {cs : List Value} {p : α} {va vb : Value} (hp : R p [va, vb]) (h : Reps R 2 ps cs) : Reps R 2 (p :: ps) (va :: vb :: cs) := Reps.front hp rfl h rfl
theorem Reps.c3 {α : Type} {R : α → List Value → Prop} {ps : List α} {cs : List Value} {p : α} {va vb vc : Value} (hp : R p [va, vb, vc]) (h : Reps R 3 ps cs) : Reps R 3 (p :: ps) (va :: vb :: vc :: cs) := Reps.front hp rfl h rfl
theorem Reps.c4 {α : Type} {R : α → List Value → Prop} {ps : List α} {cs : List Value} {p : α} {va vb vc vd : Value} (hp : R p [va, vb, vc, vd]) (h : Reps R 4 ps cs) : Reps R 4 (p :: ps) (va :: vb :: vc :: vd :: cs) := Reps.front hp rfl h rfl
theorem Reps.c5 {α : Type} {R : α → List Value → Prop} {ps : List α} {cs : List Value} {p : α} {va vb vc vd ve : Value} (hp : R p [va, vb, vc, vd, ve]) (h : Reps R 5 ps cs) : Reps R 5 (p :: ps) (va :: vb :: vc :: vd :: ve :: cs) := Reps.front hp rfl h rfl
theorem Reps.c6 {α : Type} {R : α → List Value → Prop} {ps : List α} {cs : List Value} {p : α} {va vb vc vd ve vf : Value} (hp : R p [va, vb, vc, vd, ve, vf]) (h : Reps R 6 ps cs) : Reps R 6 (p :: ps) (va :: vb :: vc :: vd :: ve :: vf :: cs) := Reps.front hp rfl h rfl
theorem Reps.c7 {α : Type} {R : α → List Value → Prop} {ps : List α} {cs : List Value} {p : α} {va vb vc vd ve vf vg : Value} (hp : R p [va, vb, vc, vd, ve, vf, vg]) (h : Reps R 7 ps cs) : Reps R 7 (p :: ps) (va :: vb :: vc :: vd :: ve :: vf :: vg :: cs) := Reps.front hp rfl h rfl
theorem Reps.c8 {α : Type} {R : α → List Value → Prop} {ps : List α} {cs : List Value} {p : α} {va vb vc vd ve vf vg vh : Value} (hp : R p [va, vb, vc, vd, ve, vf, vg, vh]) (h : Reps R 8 ps cs) : Reps R 8 (p :: ps) (va :: vb :: vc :: vd :: ve :: vf :: vg :: vh :: cs) := Reps.front hp rfl h rfl
theorem Reps.c9 {α : Type} {R : α → List Value → Prop} {ps : List α} {cs : List Value} {p : α} {va vb vc vd ve vf vg vh vi : Value} (hp : R p [va, vb, vc, vd, ve, vf, vg, vh, vi]) (h : Reps R 9 ps cs) : Reps R 9 (p :: ps) (va :: vb :: vc :: vd :: ve :: vf :: vg :: vh :: vi :: cs) := Reps.front hp rfl h rfl
theorem Reps.c10 {α : Type} {R : α → List Value → Prop} {ps : List α} {cs : List Value} {p : α} {va vb vc vd ve vf vg vh vi vj : Value} (hp : R p [va, vb, vc, vd, ve, vf, vg, vh, vi, vj]) (h : Reps R 10 ps cs) : Reps R 10 (p :: ps) (va :: vb :: vc :: vd :: ve :: vf :: vg :: vh :: vi :: vj :: cs) := Reps.front hp rfl h rfl
end Go.Proofs.YtbbpplnnegdenaaGreatW.PrintWords
end
section
namespace Go.Proofs.YtbbpplnnegdenaaGreatW.PrintLast
def up (b : Nat → Bool) (i : Nat) : Nat → Bool := fun j => if j = i then true else b j
end Go.Proofs.YtbbpplnnegdenaaGreatW.PrintLast
end
section
namespace Go.Proofs.YtbbpplnnegdenaaGreatW.PrintWords
open Go.RowKit
section
variable {P : Program} {ops : Array Oper} {rest : List Oper} {o : Oper} {a : Act} {Q : Exit → Act → World → Prop} {W : World}
theorem gate_guard (hw : Region.wanted o (yielded ops a.tmps) = true) (h : wpList P ops Q ({ o with guard := none } :: rest) a W) : wpList P ops Q (o :: rest) a W := by
 have h1 : Region.wanted { o with guard := none } (yielded ops a.tmps) = true := rfl
 unfold wpList at h ⊢
 rw [if_pos h1] at h
 rw [if_pos hw]
 exact h
end
end Go.Proofs.YtbbpplnnegdenaaGreatW.PrintWords
end
section
namespace Go.Proofs.YtbbpplnnegdenaaGreatW.PrintWords
open Go.ChangeShapes Go.WideShapes
theorem sized_ints {H : Type} {enc : TypeId × Value → H} {P : Program} {W : World} {base : Nat} {spare : Nat → Bool} {held : Bool} {t e : TypeId} {k : IntKind} {a : Option Addr} {len cap : Nat} {d : DataW H} {ps : List MemPlace} {ts : List TypeId} {ds : List (DataW H)} {j : Nat}
  (hsz : (DataW.weightsEach P ts ds).all (· ≤ reachBytes) = true) (ht : ts[j]? = some t) (hd : ds[j]? = some d) (hu : P.underlying t = some (.slice e)) (he : P.underlying e = some (.int k)) (hc : P.cellsOf e = 1) {B : Nat} (hB : P.bytesOf e = B)
  (h : DataW.Trod enc P W base spare held t (.slice a len cap) d ps) : len * B ≤ 140737488351232 := by
 obtain ⟨fuel, hf⟩ := h
 rcases open_ints hu he hc hf with ⟨hcs, _⟩ | ⟨x, l, c, zs, hcs, _, hl, _, hz, hx, _, _⟩
 ·simp [Value.cells] at hcs
  obtain ⟨rfl, rfl, rfl⟩ := hcs
  simp
 ·simp [Value.cells] at hcs
  obtain ⟨rfl, rfl, rfl⟩ := hcs
  obtain ⟨hx, _⟩ := Prod.mk.inj hx
  subst hx
  have z := sized_slice hsz ht hd hu
  rw [hB] at z
  have hl2 : len ≤ zs.length := by
   rw [hz]
   split
   ·exact hl
   ·exact Nat.le_refl _
  have h1 : (lits (H := H) k (zs.take len)).length + (lits (H := H) k (zs.drop len)).length = zs.length := by
   simp [lits]
   omega
  rw [h1] at z
  exact Nat.le_trans (Nat.mul_le_mul_right _ hl2) z
end Go.Proofs.YtbbpplnnegdenaaGreatW.PrintWords
end
section
namespace Go.Proofs.YtbbpplnnegdenaaGreat.MM
open Go.RowKit Go.Proofs.YtbbpplnnegdenaaGreatW.PrintWords
theorem wrap64_id {x : Int} (h0 : -9223372036854775808 ≤ x) (h1 : x < 9223372036854775808) : wrap64 x = x := by
 unfold wrap64; omega
theorem wrap_nat {i n : Nat} (h : i < n) (hn : n ≤ 140737488355328) : wrap64 ((i : Int) + 1) = ((i + 1 : Nat) : Int) := by
 rw [wrap64_id (by omega) (by omega)]; omega
theorem rd_nat (xs : List Int) (i : Nat) : rd xs (i : Int) = xs.getD i 0 := by simp [rd]
theorem wf_u8 {x : Int} (h : (Go.Lit.int .u8 x).wf = true) : 0 ≤ x ∧ x ≤ 255 := by
 simp only [Go.Lit.wf, Bool.and_eq_true, decide_eq_true_eq] at h
 exact h
theorem Ev.at_ {α : Type} {g : Nat → Option α} {r : α} (k : Nat) (h : ∀ j, g (j + k) = some r) : Ev g r :=
 ⟨k, fun j hj => by obtain ⟨m, rfl⟩ : ∃ m, j = m + k := ⟨j - k, by omega⟩; exact h m⟩
theorem Ev.same {α : Type} {g : Nat → Option α} {r r' : α} (h : Ev g r) (h' : Ev g r') : r = r' := by
 obtain ⟨K, h⟩ := h
 obtain ⟨K', h'⟩ := h'
 have h1 := h (max K K') (by omega)
 rw [h' (max K K') (by omega)] at h1
 exact (Option.some.inj h1).symm
theorem take_next {l : List Int} {i : Nat} (h : i < l.length) : l.take (i + 1) = l.take i ++ [l.getD i 0] := by
 rw [List.take_succ_eq_append_getElem h, List.getD_eq_getElem?_getD, List.getElem?_eq_getElem h]; rfl
end Go.Proofs.YtbbpplnnegdenaaGreat.MM
namespace Go.Proofs.YtbbpplnnegdenaaGreat.MM
def cmpL : List Int → List Int → Int
 | [], [] => 0
 | [], _ :: _ => -1
 | _ :: _, [] => 1
 | a :: us, b :: bs => if a < b then -1 else if b < a then 1 else cmpL us bs
theorem cmpL_vals : ∀ a b : List Int, cmpL a b = -1 ∨ cmpL a b = 0 ∨ cmpL a b = 1
 | [], [] => by simp [cmpL]
 | [], _ :: _ => by simp [cmpL]
 | _ :: _, [] => by simp [cmpL]
 | a :: us, b :: bs => by
   have := cmpL_vals us bs
   simp only [cmpL]; split
   ·simp
   ·split <;> simp [*]
theorem cmpL_self : ∀ a : List Int, cmpL a a = 0
 | [] => by simp [cmpL]
 | a :: us => by simp [cmpL, cmpL_self us]
def ltL (a b : List Int) : Prop := cmpL a b = -1
instance (a b : List Int) : Decidable (ltL a b) := by unfold ltL; infer_instance
theorem ltL_irrefl (a : List Int) : ¬ ltL a a := by simp [ltL, cmpL_self]
theorem ltL_trans : ∀ {a b c : List Int}, ltL a b → ltL b c → ltL a c
 | [], [], _, h, _ => by simp [ltL, cmpL] at h
 | _ :: _, [], _, h, _ => by simp [ltL, cmpL] at h
 | [], _ :: _, [], _, h => by simp [ltL, cmpL] at h
 | [], _ :: _, _ :: _, _, _ => by simp [ltL, cmpL]
 | _ :: _, _ :: _, [], _, h => by simp [ltL, cmpL] at h
 | a :: us, b :: bs, c :: cs, h, k => by
   simp only [ltL, cmpL] at h k ⊢
   by_cases h1 : a < b
   ·by_cases k1 : b < c
    ·have : a < c := by omega
     simp [this]
    ·by_cases k2 : c < b
     ·simp [k1, k2] at k
     ·have : a < c := by omega
      simp [this]
   ·by_cases h2 : b < a
    ·simp [h1, h2] at h
    ·have e : a = b := by omega
     subst e
     simp at h
     by_cases k1 : a < c
     ·simp [k1]
     ·by_cases k2 : c < a
      ·simp [k1, k2] at k
      ·simp [k1, k2] at k ⊢
       exact ltL_trans h k
theorem ltL_asymm {a b : List Int} (h : ltL a b) : ¬ ltL b a := fun k => ltL_irrefl a (ltL_trans h k)
theorem cmpL_append : ∀ p a b : List Int, cmpL (p ++ a) (p ++ b) = cmpL a b
 | [], _, _ => rfl
 | x :: p, a, b => by simp [cmpL, cmpL_append p a b]
theorem ltL_nil {a : List Int} : ltL [] a ↔ a ≠ [] := by cases a <;> simp [ltL, cmpL]
theorem ltL_iff : ∀ {a b : List Int}, ltL a b ↔ ∃ x, x ≤ a.length ∧ x < b.length ∧ (∀ y, y < x → a[y]? = b[y]?) ∧ (x = a.length ∨ (x < a.length ∧ a.getD x 0 < b.getD x 0))
 | [], [] => by simp [ltL, cmpL]
 | [], b :: bs => by
   constructor
   ·intro _; exact ⟨0, by simp, by simp, fun y h => by omega, .inl rfl⟩
   ·intro _; simp [ltL, cmpL]
 | a :: us, [] => by simp [ltL, cmpL]
 | a :: us, b :: bs => by
   have ih := @ltL_iff us bs
   constructor
   ·intro h
    simp only [ltL, cmpL] at h
    by_cases h1 : a < b
    ·exact ⟨0, by simp, by simp, fun y h => by omega, .inr ⟨by simp, by simpa using h1⟩⟩
    ·by_cases h2 : b < a
     ·simp [h1, h2] at h
     ·simp [h1, h2] at h
      obtain ⟨x, hx1, hx2, hx3, hx4⟩ := ih.1 h
      have e : a = b := by omega
      subst e
      refine ⟨x + 1, by simp; omega, by simp; omega, ?_, ?_⟩
      ·intro y hy
       cases y with
       | zero => simp
       | succ y => simpa using hx3 y (by omega)
      ·rcases hx4 with hx4 | hx4
       ·left; simp [hx4]
       ·right; exact ⟨by simp; omega, by simpa using hx4.2⟩
   ·rintro ⟨x, hx1, hx2, hx3, hx4⟩
    cases x with
    | zero =>
      simp at hx4
      simp [ltL, cmpL, hx4]
    | succ x =>
      have e := hx3 0 (by omega)
      simp at e
      subst e
      have : ltL us bs := ih.2 ⟨x, by simpa using hx1, by simpa using hx2, fun y hy => by simpa using hx3 (y + 1) (by omega), by simpa using hx4⟩
      simp [ltL, cmpL] at this ⊢
      exact this
theorem ltL_mk {a b : List Int} (x : Nat) (h1 : x < a.length) (h2 : x < b.length) (h3 : ∀ y, y < x → a.getD y 0 = b.getD y 0) (h4 : a.getD x 0 < b.getD x 0) : ltL a b := by
 refine ltL_iff.2 ⟨x, by omega, h2, fun y hy => ?_, .inr ⟨h1, h4⟩⟩
 have := h3 y hy
 rw [List.getElem?_eq_getElem (by omega), List.getElem?_eq_getElem (by omega)]
 simp only [List.getD_eq_getElem?_getD, List.getElem?_eq_getElem (show y < a.length by omega), List.getElem?_eq_getElem (show y < b.length by omega)] at this
 simpa using this
theorem ltL_pre {a b : List Int} (h1 : a.length < b.length) (h3 : ∀ y, y < a.length → a.getD y 0 = b.getD y 0) : ltL a b := by
 refine ltL_iff.2 ⟨a.length, by omega, h1, fun y hy => ?_, .inl rfl⟩
 have := h3 y hy
 rw [List.getElem?_eq_getElem (by omega), List.getElem?_eq_getElem (by omega)]
 simp only [List.getD_eq_getElem?_getD, List.getElem?_eq_getElem (show y < a.length by omega), List.getElem?_eq_getElem (show y < b.length by omega)] at this
 simpa using this
end Go.Proofs.YtbbpplnnegdenaaGreat.MM
namespace Go.Proofs.YtbbpplnnegdenaaGreat.MM
theorem pigeon : ∀ (n : Nat) (a : List Int), a.Nodup → (∀ x ∈ a, 0 ≤ x ∧ x < (n : Int)) → a.length ≤ n
 | 0, a, _, h => by
   cases a with
   | nil => simp
   | cons x t => have := h x (by simp); omega
 | n + 1, a, hn, h => by
   have h1 := pigeon n (a.erase (n : Int)) (hn.erase _) (fun x hx => by
    have h2 := h x (List.mem_of_mem_erase hx)
    have h3 : x ≠ (n : Int) := fun e => by subst e; exact (List.Nodup.not_mem_erase hn) hx
    omega)
   by_cases hm : (n : Int) ∈ a
   ·rw [List.length_erase_of_mem hm] at h1; omega
   ·rw [List.erase_of_not_mem hm] at h1; omega
theorem pigeon_all {n : Nat} {a : List Int} (hn : a.Nodup) (h : ∀ x ∈ a, 0 ≤ x ∧ x < (n : Int)) (hl : a.length = n) {v : Int} (h0 : 0 ≤ v) (h1 : v < n) : v ∈ a := by
 by_cases hm : v ∈ a
 ·exact hm
 ·have := pigeon n (v :: a) (List.nodup_cons.2 ⟨hm, hn⟩) (fun x hx => by
   rcases List.mem_cons.1 hx with rfl | hx
   ·exact ⟨h0, h1⟩
   ·exact h x hx)
  simp at this; omega
def isPerm (a : List Int) : Prop := (∀ x ∈ a, 0 ≤ x ∧ x < (a.length : Int)) ∧ a.Nodup
instance (a : List Int) : Decidable (isPerm a) := by unfold isPerm; infer_instance
theorem isPerm.mem {a : List Int} (h : isPerm a) {v : Int} (h0 : 0 ≤ v) (h1 : v < a.length) : v ∈ a := pigeon_all h.2 h.1 rfl h0 h1
def inv (a : List Int) : List Int := (List.range a.length).map (fun (v : Nat) => ((a.idxOf (v : Int) : Nat) : Int))
theorem ext_getD {a b : List Int} (hl : a.length = b.length) (h : ∀ i, i < a.length → a.getD i 0 = b.getD i 0) : a = b := by
 apply List.ext_getElem hl
 intro i h1 h2
 have := h i h1
 simpa only [List.getD_eq_getElem?_getD, List.getElem?_eq_getElem h1, List.getElem?_eq_getElem h2, Option.getD_some] using this
theorem sorted_uniq {α : Type} {R : α → α → Prop} (has : ∀ x y, R x y → ¬ R y x) : ∀ {a b : List α}, a.Pairwise R → b.Pairwise R → (∀ x, x ∈ a ↔ x ∈ b) → a = b
 | [], [], _, _, _ => rfl
 | [], y :: b, _, _, h => by have := (h y).2 (by simp); simp at this
 | x :: a, [], _, _, h => by have := (h x).1 (by simp); simp at this
 | x :: a, y :: b, ha, hb, h => by
   rw [List.pairwise_cons] at ha hb
   have hxy : x = y := by
    rcases List.mem_cons.1 ((h x).1 (by simp)) with e | e
    ·exact e
    ·rcases List.mem_cons.1 ((h y).2 (by simp)) with e2 | e2
     ·exact e2.symm
     ·exact absurd (hb.1 x e) (has _ _ (ha.1 y e2))
   subst hxy
   have hir : ¬ R x x := fun hr => has _ _ hr hr
   congr 1
   refine sorted_uniq has ha.2 hb.2 (fun z => ?_)
   constructor
   ·intro hz
    rcases List.mem_cons.1 ((h z).1 (List.mem_cons_of_mem _ hz)) with e | e
    ·subst e; exact absurd (ha.1 z hz) hir
    ·exact e
   ·intro hz
    rcases List.mem_cons.1 ((h z).2 (List.mem_cons_of_mem _ hz)) with e | e
    ·subst e; exact absurd (hb.1 z hz) hir
    ·exact e
end Go.Proofs.YtbbpplnnegdenaaGreat.MM
namespace Go.Proofs.YtbbpplnnegdenaaGreat.MM
def sufLt (s : List Int) (x y : Int) : Prop := ltL (s.drop x.toNat) (s.drop y.toNat)
def IsSA (s a : List Int) : Prop := a.length = s.length ∧ (∀ x ∈ a, 0 ≤ x ∧ x < (s.length : Int)) ∧ a.Pairwise (sufLt s)
theorem sufLt_asymm {s : List Int} {x y : Int} (h : sufLt s x y) : ¬ sufLt s y x := ltL_asymm h
theorem IsSA.nodup {s a : List Int} (h : IsSA s a) : a.Nodup := by
 refine List.Pairwise.imp (fun {x y} hxy => ?_) h.2.2
 rintro rfl
 exact ltL_irrefl _ hxy
theorem IsSA.perm {s a : List Int} (h : IsSA s a) : isPerm a := ⟨fun x hx => by rw [h.1]; exact h.2.1 x hx, h.nodup⟩
theorem IsSA.mem {s a : List Int} (h : IsSA s a) (v : Int) : v ∈ a ↔ 0 ≤ v ∧ v < s.length :=
 ⟨fun hv => h.2.1 v hv, fun hv => h.perm.mem hv.1 (by rw [h.1]; exact hv.2)⟩
theorem IsSA.uniq {s a b : List Int} (h : IsSA s a) (k : IsSA s b) : a = b :=
 sorted_uniq (R := sufLt s) (fun _ _ => sufLt_asymm) h.2.2 k.2.2 (fun v => by rw [h.mem, k.mem])
theorem drop_cons_get {s : List Int} {x : Nat} (h : x < s.length) : s.drop x = s.getD x 0 :: s.drop (x + 1) := by
 rw [List.drop_eq_getElem_cons h, List.getD_eq_getElem?_getD, List.getElem?_eq_getElem h]; rfl
end Go.Proofs.YtbbpplnnegdenaaGreat.MM
namespace Go.Proofs.YtbbpplnnegdenaaGreat.MM
def isLyn (s : List Int) : Prop := s ≠ [] ∧ ∀ i, 0 < i → i < s.length → ltL s (s.drop i)
theorem getD_drop (l : List Int) (i y : Nat) : (l.drop i).getD y 0 = l.getD (i + y) 0 := by
 simp [List.getD_eq_getElem?_getD, List.getElem?_drop]
theorem getD_take (l : List Int) (m y : Nat) (h : y < m) : (l.take m).getD y 0 = l.getD y 0 := by
 simp [List.getD_eq_getElem?_getD, List.getElem?_take, h]
theorem lyn_grow {t : List Int} {p j : Nat} (hp : 0 < p) (hpj : p ≤ j) (hj : j < t.length) (hper : ∀ x, x < j → t.getD x 0 = t.getD (x % p) 0)
  (hl : isLyn (t.take p)) (hlt : t.getD (j - p) 0 < t.getD j 0) : isLyn (t.take (j + 1)) := by
 refine ⟨by intro h; have := congrArg List.length h; rw [List.length_take] at this; simp only [List.length_nil] at this; omega, fun i hi0 hi => ?_⟩
 rw [List.length_take] at hi
 have hi : i ≤ j := by omega
 have hlen : (t.take (j + 1)).length = j + 1 := by rw [List.length_take]; omega
 have hlend : ((t.take (j + 1)).drop i).length = j + 1 - i := by rw [List.length_drop, hlen]
 have hu : ∀ y, y ≤ j → (t.take (j + 1)).getD y 0 = t.getD y 0 := fun y hy => getD_take _ _ _ (by omega)
 have hv : ∀ y, i + y ≤ j → ((t.take (j + 1)).drop i).getD y 0 = t.getD (i + y) 0 := fun y hy => by rw [getD_drop, hu _ hy]
 have hjp : t.getD (j - p) 0 = t.getD (j % p) 0 := by
  rw [hper (j - p) (by omega)]
  congr 1
  rw [← Nat.mod_eq_sub_mod (by omega)]
 have hr := Nat.mod_lt i hp
 by_cases h0 : i % p = 0
 ·
  have hmod : ∀ y, (i + y) % p = y % p := fun y => by rw [Nat.add_mod, h0]; simp
  refine ltL_mk (j - i) (by omega) (by omega) (fun y hy => ?_) ?_
  ·rw [hu _ (by omega), hv _ (by omega), hper y (by omega), hper (i + y) (by omega), hmod]
  ·rw [hu _ (by omega), hv _ (by omega), show i + (j - i) = j by omega, hper (j - i) (by omega), ← hmod (j - i), show i + (j - i) = j by omega, ← hjp]
   exact hlt
 ·
  have hw := hl.2 (i % p) (by omega) (by rw [List.length_take]; omega)
  obtain ⟨x, hx1, hx2, hx3, hx4⟩ := ltL_iff.1 hw
  rw [List.length_drop, List.length_take] at hx2
  rw [List.length_take] at hx1 hx4
  have hx4 : t.getD x 0 < t.getD (i % p + x) 0 := by
   rcases hx4 with hx4 | hx4
   ·omega
   ·have := hx4.2
    rw [getD_drop, getD_take _ _ _ (by omega), getD_take _ _ _ (by omega)] at this
    exact this
  have hx3 : ∀ y, y < x → t.getD y 0 = t.getD (i % p + y) 0 := fun y hy => by
   have := hx3 y hy
   rw [List.getElem?_drop, List.getElem?_take, List.getElem?_take, if_pos (by omega), if_pos (by omega)] at this
   simp only [List.getD_eq_getElem?_getD, this]
  have hmod : ∀ y, y ≤ x → (i + y) % p = i % p + y := fun y hy => by
   rw [Nat.add_mod, Nat.mod_eq_of_lt (show y < p by omega), Nat.mod_eq_of_lt (by omega)]
  by_cases hij : i + x < j
  ·refine ltL_mk x (by omega) (by omega) (fun y hy => ?_) ?_
   ·rw [hu _ (by omega), hv _ (by omega), hper (i + y) (by omega), hmod y (by omega)]
    exact hx3 y hy
   ·rw [hu _ (by omega), hv _ (by omega), hper (i + x) (by omega), hmod x (by omega)]
    exact hx4
  ·refine ltL_mk (j - i) (by omega) (by omega) (fun y hy => ?_) ?_
   ·rw [hu _ (by omega), hv _ (by omega), hper (i + y) (by omega), hmod y (by omega)]
    exact hx3 y (by omega)
   ·rw [hu _ (by omega), hv _ (by omega), show i + (j - i) = j by omega]
    have e : j % p = i % p + (j - i) := by rw [← hmod (j - i) (by omega)]; congr 1; omega
    rw [hjp, e] at hlt
    by_cases hxe : j - i = x
    ·rw [hxe] at hlt ⊢; omega
    ·rw [hx3 (j - i) (by omega)]; exact hlt
theorem lyn_most {t : List Int} {p j : Nat} (hp : 0 < p) (hpj : p ≤ j) (_hj : j ≤ t.length) (hper : ∀ x, x < j → t.getD x 0 = t.getD (x % p) 0)
  (hend : j = t.length ∨ t.getD j 0 < t.getD (j - p) 0) {m : Nat} (hm : p < m) (hmt : m ≤ t.length) : ¬ isLyn (t.take m) := by
 intro hl
 have hlen : (t.take m).length = m := by rw [List.length_take]; omega
 have hlend : ((t.take m).drop p).length = m - p := by rw [List.length_drop, hlen]
 have hu : ∀ y, y < m → (t.take m).getD y 0 = t.getD y 0 := fun y hy => getD_take _ _ _ (by omega)
 have hv : ∀ y, p + y < m → ((t.take m).drop p).getD y 0 = t.getD (p + y) 0 := fun y hy => by rw [getD_drop, hu _ hy]
 refine ltL_asymm (hl.2 p hp (by omega)) ?_
 by_cases hmj : m ≤ j
 ·refine ltL_pre (by omega) (fun y hy => ?_)
  rw [hu _ (by omega), hv _ (by omega), hper (p + y) (by omega), hper y (by omega)]
  simp
 ·have hend : t.getD j 0 < t.getD (j - p) 0 := by omega
  refine ltL_mk (j - p) (by omega) (by omega) (fun y hy => ?_) ?_
  ·rw [hu _ (by omega), hv _ (by omega), hper (p + y) (by omega), hper y (by omega)]
   simp
  ·rw [hu _ (by omega), hv _ (by omega), show p + (j - p) = j by omega]
   exact hend
inductive Facts : List Int → List Int → Prop
 | nil : Facts [] []
 | cons {t l : List Int} {m : Nat} : m ≤ t.length → isLyn (t.take m) → (∀ m', m < m' → m' ≤ t.length → ¬ isLyn (t.take m')) → Facts (t.drop m) l → Facts t ((m : Int) :: l)
theorem isLyn_take_pos {t : List Int} {m : Nat} (h : isLyn (t.take m)) : 0 < m := by
 rcases Nat.eq_zero_or_pos m with h0 | h0
 ·subst h0; exact absurd rfl h.1
 ·exact h0
theorem Facts.det {t l l' : List Int} (h : Facts t l) (h' : Facts t l') : l = l' := by
 induction h generalizing l' with
 | nil =>
   cases h' with
   | nil => rfl
   | cons a b c d => exact absurd (by simp) b.1
 | @cons t l m a b c d ih =>
   cases h' with
   | nil => exact absurd (by simp) b.1
   | @cons _ l2 m2 a2 b2 c2 d2 =>
     have : m = m2 := by
      rcases Nat.lt_trichotomy m m2 with h | h | h
      ·exact absurd b2 (c _ h a2)
      ·exact h
      ·exact absurd b (c2 _ h a)
     subst this
     rw [ih d2]
theorem Facts.sum {t l : List Int} (h : Facts t l) : l.sum = t.length := by
 induction h with
 | nil => rfl
 | @cons t l m a b c d ih => simp only [List.sum_cons, ih, List.length_drop]; omega
theorem Facts.len {t l : List Int} (h : Facts t l) : l.length ≤ t.length := by
 induction h with
 | nil => simp
 | @cons t l m a b c d ih =>
   have := isLyn_take_pos b
   rw [List.length_drop] at ih
   rw [List.length_cons]; omega
theorem lyn_one (c : Int) : isLyn [c] := ⟨by simp, fun i h0 h1 => by simp at h1; omega⟩
theorem Facts.pos {t l : List Int} (h : Facts t l) : ∀ x ∈ l, 0 < x := by
 induction h with
 | nil => simp
 | @cons t l m a b c d ih =>
   intro x hx
   rcases List.mem_cons.1 hx with rfl | hx
   ·have := isLyn_take_pos b; omega
   ·exact ih x hx
end Go.Proofs.YtbbpplnnegdenaaGreat.MM
namespace Go.Proofs.YtbbpplnnegdenaaGreat.MM
instance (s : List Int) : Decidable (isLyn s) :=
 decidable_of_iff (s ≠ [] ∧ ∀ i, i < s.length → 0 < i → ltL s (s.drop i)) ⟨fun h => ⟨h.1, fun i h0 h1 => h.2 i h1 h0⟩, fun h => ⟨h.1, fun i h1 h0 => h.2 i h0 h1⟩⟩
end Go.Proofs.YtbbpplnnegdenaaGreat.MM
namespace Go.Proofs.YtbbpplnnegdenaaGreat.MM
def rot (s : List Int) (i : Nat) : List Int := s.drop i ++ s.take i
theorem rot_get {s : List Int} {i y : Nat} (hi : i < s.length) (hy : y < s.length) : (rot s i).getD y 0 = s.getD ((i + y) % s.length) 0 := by
 unfold rot
 by_cases h : i + y < s.length
 ·rw [List.getD_eq_getElem?_getD, List.getElem?_append_left (by rw [List.length_drop]; omega), List.getElem?_drop, Nat.mod_eq_of_lt h, ← List.getD_eq_getElem?_getD]
 ·rw [List.getD_eq_getElem?_getD, List.getElem?_append_right (by rw [List.length_drop]; omega), List.length_drop, List.getElem?_take, if_pos (by omega), ← List.getD_eq_getElem?_getD]
  congr 1
  rw [Nat.mod_eq_sub_mod (by omega), Nat.mod_eq_of_lt (by omega)]; omega
end Go.Proofs.YtbbpplnnegdenaaGreat.MM
namespace Go.Proofs.YtbbpplnnegdenaaGreat.PrintWords
open Go Go.ChangeShapes Go.WideShapes
theorem sized_ints {H : Type} {enc : TypeId × Value → H} {P : Program} {W : World} {base : Nat} {spare : Nat → Bool} {held : Bool} {t e : TypeId} {k : IntKind} {a : Option Addr} {len cap : Nat} {d : DataW H} {ps : List MemPlace} {ts : List TypeId} {ds : List (DataW H)} {j : Nat}
  (hsz : (DataW.weightsEach P ts ds).all (· ≤ reachBytes) = true) (ht : ts[j]? = some t) (hd : ds[j]? = some d) (hu : P.underlying t = some (.slice e)) (he : P.underlying e = some (.int k)) (hc : P.cellsOf e = 1) {B : Nat} (hB : P.bytesOf e = B)
  (h : DataW.Trod enc P W base spare held t (.slice a len cap) d ps) : len * B ≤ 140737488351232 :=
 Go.Proofs.YtbbpplnnegdenaaGreatW.PrintWords.sized_ints hsz ht hd hu he hc hB h
end Go.Proofs.YtbbpplnnegdenaaGreat.PrintWords
end
