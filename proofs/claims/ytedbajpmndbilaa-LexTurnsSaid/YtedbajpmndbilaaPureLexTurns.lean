/- LexTurns: what the statement LexTurns says of the printed functions, proved for every input that its guards let in. Conditions: none beside the statement's own. -/
import Derived.Test.YtedbajpmndbilaaHLexTurnsx2
import Derived.Test.YtedbajpmndbilaaMLexTurns
set_option linter.unusedVariables false
set_option linter.unusedSimpArgs false
namespace Go.Proofs.Ytedbajpmndbilaa.Pure
open Go Go.RowKit Go.Proofs.Ytedbajpmndbilaa.PLexTurns Go.Proofs.YtedbajpmndbilaaW.PrintWords Go.Proofs.YtedbajpmndbilaaW.PrintLast Go.Proofs.Ytedbajpmndbilaa.MM

theorem known_ev : Ev (fun k => whorllaw4_known.f k) true := Ev.of (whorllaw4_known.mono) (k := 100) (by decide +kernel)


-- math: W Base Perm SA
theorem bytes_at (l : List Int) (i : Nat) (hi : i < l.length) : (⟨(Go.Lib.bytesOf l).toArray⟩ : ByteArray)[i]! = UInt8.ofNat (l.getD i 0).toNat := by
  have h1 : i < (⟨(Go.Lib.bytesOf l).toArray⟩ : ByteArray).size := by
    show i < (Go.Lib.bytesOf l).toArray.size
    simp [Go.Lib.bytesOf, hi]
  rw [getElem!_pos (⟨(Go.Lib.bytesOf l).toArray⟩ : ByteArray) i h1]
  change ((Go.Lib.bytesOf l).toArray)[i]'h1 = _
  simp [Go.Lib.bytesOf, List.getD_eq_getElem?_getD, List.getElem?_eq_getElem hi]

theorem u8_ne {x y : Int} (hx : 0 ≤ x ∧ x ≤ 255) (hy : 0 ≤ y ∧ y ≤ 255) : (UInt8.ofNat x.toNat != UInt8.ofNat y.toNat) = decide (x ≠ y) := by
  rw [Bool.eq_iff_iff, bne_iff_ne, decide_eq_true_eq]
  constructor
  · intro h e; exact h (by rw [e])
  · intro h e
    have := congrArg UInt8.toNat e
    rw [UInt8.toNat_ofNat', UInt8.toNat_ofNat'] at this
    omega

theorem u8_lt {x y : Int} (hx : 0 ≤ x ∧ x ≤ 255) (hy : 0 ≤ y ∧ y ≤ 255) : UInt8.ofNat x.toNat < UInt8.ofNat y.toNat ↔ x < y := by
  rw [UInt8.lt_iff_toNat_lt, UInt8.toNat_ofNat', UInt8.toNat_ofNat']
  omega

theorem bytes_cmp (a b : List Int) (ha : ∀ x ∈ a, 0 ≤ x ∧ x ≤ 255) (hb : ∀ x ∈ b, 0 ≤ x ∧ x ≤ 255) : Go.Extern.BytealgCompare.cmp ⟨(Go.Lib.bytesOf a).toArray⟩ ⟨(Go.Lib.bytesOf b).toArray⟩ = cmpL a b := by
  have sa : (⟨(Go.Lib.bytesOf a).toArray⟩ : ByteArray).size = a.length := by
    show (Go.Lib.bytesOf a).toArray.size = _
    simp [Go.Lib.bytesOf]
  have sb : (⟨(Go.Lib.bytesOf b).toArray⟩ : ByteArray).size = b.length := by
    show (Go.Lib.bytesOf b).toArray.size = _
    simp [Go.Lib.bytesOf]
  unfold Go.Extern.BytealgCompare.cmp
  rw [sa, sb]
  cases hf : (List.range (min a.length b.length)).find? (fun i => (⟨(Go.Lib.bytesOf a).toArray⟩ : ByteArray)[i]! != (⟨(Go.Lib.bytesOf b).toArray⟩ : ByteArray)[i]!) with
  | some i =>
    rw [List.find?_range_eq_some] at hf
    obtain ⟨h1, h2, h3⟩ := hf
    rw [List.mem_range] at h2
    have ra := ha _ (getD_mem (a := a) (i := i) (by omega))
    have rb := hb _ (getD_mem (a := b) (i := i) (by omega))
    rw [bytes_at a i (by omega), bytes_at b i (by omega), u8_ne ra rb, decide_eq_true_eq] at h1
    have heq : ∀ y, y < i → a.getD y 0 = b.getD y 0 := fun y hy => by
      have := h3 y hy
      rw [bytes_at a y (by omega), bytes_at b y (by omega), u8_ne (ha _ (getD_mem (by omega))) (hb _ (getD_mem (by omega)))] at this
      simpa using this
    simp only
    rw [bytes_at a i (by omega), bytes_at b i (by omega)]
    by_cases hlt : a.getD i 0 < b.getD i 0
    · rw [if_pos ((u8_lt ra rb).2 hlt)]
      exact (ltL_mk i (by omega) (by omega) heq hlt).symm
    · rw [if_neg (fun h => hlt ((u8_lt ra rb).1 h))]
      exact (cmpL_gt.2 (ltL_mk i (by omega) (by omega) (fun y hy => (heq y hy).symm) (by omega))).symm
  | none =>
    rw [List.find?_range_eq_none] at hf
    have heq : ∀ y, y < min a.length b.length → a.getD y 0 = b.getD y 0 := fun y hy => by
      have := hf y hy
      rw [bytes_at a y (by omega), bytes_at b y (by omega), u8_ne (ha _ (getD_mem (by omega))) (hb _ (getD_mem (by omega)))] at this
      simpa using this
    simp only
    by_cases h1 : a.length < b.length
    · rw [if_pos h1]
      exact (ltL_pre h1 (fun y hy => heq y (by omega))).symm
    · rw [if_neg h1]
      by_cases h2 : a.length > b.length
      · rw [if_pos h2]
        exact (cmpL_gt.2 (ltL_pre h2 (fun y hy => (heq y (by omega)).symm))).symm
      · rw [if_neg h2]
        have : a = b := ext_getD (by omega) (fun y hy => heq y (by omega))
        rw [this, cmpL_self]


-- math: W Base Perm SA Rot
-- with: bytesCmp
theorem isTurn_eq (s : List Int) (i : Int) : lex_isTurn.f s i = some (decide (0 ≤ i ∧ i < s.length)) := by
  unfold lex_isTurn.f
  by_cases h : i ≥ 0
  · rw [if_pos h]; congr 1; rw [decide_eq_decide]; omega
  · rw [if_neg h]; congr 1; symm; rw [decide_eq_false_iff_not]; omega

theorem tmod_nat {a b : Nat} : Int.tmod (a : Int) (b : Int) = ((a % b : Nat) : Int) := by
  rw [Int.tmod_eq_emod_of_nonneg (by omega)]; omega

theorem one_at {s : List Int} {i : Nat} (hi : i < s.length) : (s.take (i + 1)).drop i = [s.getD i 0] := by
  rw [take_next hi, List.drop_append, List.drop_of_length_le (by rw [List.length_take]; omega), List.length_take, show i - min i s.length = 0 by omega]
  simp

theorem lex_Turns_l0 (s : List Int) (hn : s.length ≤ 140737488355328) (hb : ∀ x ∈ s, 0 ≤ x ∧ x ≤ 255) (i j : Nat) (hi : i < s.length) (hj : j < s.length) : ∀ (d c : Nat), c + d = s.length → (∀ y, y < c → s.getD ((i + y) % s.length) 0 = s.getD ((j + y) % s.length) 0) →
    Ev (fun k => lex_Turns.l0 k s (((i + c) % s.length : Nat) : Int) (((j + c) % s.length : Nat) : Int) (s.length : Int) (s.length : Int) (c : Int)) (cmpL (rot s i) (rot s j)) := by
  intro d
  induction d with
  | zero =>
    intro c hd h
    refine Ev.step (fun k => by rw [lex_Turns.l0]) ?_
    simp only [if_neg (show ¬ (c : Int) < s.length by omega)]
    rw [rot_eq hi hj (fun y hy => h y (by omega)), cmpL_self]
    exact Ev.now _
  | succ d ih =>
    intro c hd h
    have hc : c < s.length := by omega
    have hx := Nat.mod_lt (i + c) (show 0 < s.length by omega)
    have hy := Nat.mod_lt (j + c) (show 0 < s.length by omega)
    have ex : ((i + c) % s.length + 1) % s.length = (i + (c + 1)) % s.length := by rw [Nat.mod_add_mod]; rfl
    have ey : ((j + c) % s.length + 1) % s.length = (j + (c + 1)) % s.length := by rw [Nat.mod_add_mod]; rfl
    generalize hxe : (i + c) % s.length = x at hx ex ⊢
    generalize hye : (j + c) % s.length = y at hy ey ⊢
    refine Ev.step (fun k => by rw [lex_Turns.l0]) ?_
    simp only [if_pos (show (c : Int) < s.length by omega), if_pos (show 0 ≤ (x : Int) by omega), if_pos (show (x : Int) < s.length by omega), if_pos (show 0 ≤ (y : Int) by omega), if_pos (show (y : Int) < s.length by omega), rd_nat, wrap_nat hx hn, wrap_nat hy hn, wrap_nat hc hn, Int.toNat_natCast]
    by_cases he : s.getD x 0 = s.getD y 0
    · simp only [if_pos he, if_neg (show ¬ (s.length : Int) = 0 by omega), tmod_nat, ex, ey]
      refine ih (c + 1) (by omega) (fun z hz => ?_)
      by_cases e : z = c
      · rw [e, hxe, hye]; exact he
      · exact h z (by omega)
    · simp only [if_neg he, if_pos (show (x : Int) ≤ ((x + 1 : Nat) : Int) by omega), if_pos (show ((x + 1 : Nat) : Int) ≤ s.length by omega), if_pos (show (y : Int) ≤ ((y + 1 : Nat) : Int) by omega), if_pos (show ((y + 1 : Nat) : Int) ≤ s.length by omega)]
      have e2 : bytes_Compare.f ((s.take (x + 1)).drop x) ((s.take (y + 1)).drop y) = some (cmpL (rot s i) (rot s j)) := by
        unfold bytes_Compare.f
        rw [one_at hx, one_at hy, bytes_cmp _ _ (fun z hz => by rw [List.mem_singleton] at hz; rw [hz]; exact hb _ (getD_mem hx)) (fun z hz => by rw [List.mem_singleton] at hz; rw [hz]; exact hb _ (getD_mem hy))]
        congr 1
        simp only [cmpL]
        by_cases hlt : s.getD x 0 < s.getD y 0
        · rw [if_pos hlt]
          exact (rot_lt hi hj hc h (by rw [hxe, hye]; exact hlt)).symm
        · rw [if_neg hlt, if_pos (by omega)]
          exact (cmpL_gt.2 (rot_lt hj hi hc (fun z hz => (h z hz).symm) (by rw [hxe, hye]; omega))).symm
      rw [e2]
      exact Ev.now _

theorem lex_Turns_ev (s : List Int) (hn : s.length ≤ 140737488355328) (hb : ∀ x ∈ s, 0 ≤ x ∧ x ≤ 255) (i j : Int) : Ev (fun k => lex_Turns.f k s i j) (turnR s i j) := by
  refine Ev.congr (fun k => by rw [lex_Turns.f]) ?_
  simp only [isTurn_eq, Option.bind_some]
  have hg : ¬ (0 ≤ i ∧ i < s.length ∧ 0 ≤ j ∧ j < s.length) → Ev (fun k => lex_Turns.j0 k s i j true) (turnR s i j) := fun h => by
    refine Ev.step (fun k => by rw [lex_Turns.j0]) ?_
    simp only [if_true]
    unfold turnR
    rw [if_neg h]
    exact Ev.now _
  by_cases h1 : 0 ≤ i ∧ i < s.length
  · simp only [h1, and_self, decide_true, if_true]
    by_cases h2 : 0 ≤ j ∧ j < s.length
    · simp only [h2, and_self, decide_true, Bool.not_true]
      refine Ev.step (fun k => by rw [lex_Turns.j0]) ?_
      simp only [if_neg (show ¬ false = true by decide)]
      obtain ⟨i, rfl⟩ : ∃ m : Nat, i = m := ⟨i.toNat, by omega⟩
      obtain ⟨j, rfl⟩ : ∃ m : Nat, j = m := ⟨j.toNat, by omega⟩
      have := lex_Turns_l0 s hn hb i j (by omega) (by omega) s.length 0 (by omega) (fun y hy => by omega)
      rw [Nat.add_zero, Nat.add_zero, Nat.mod_eq_of_lt (by omega), Nat.mod_eq_of_lt (by omega)] at this
      unfold turnR
      rw [if_pos (by omega)]
      exact this
    · simp only [h2, decide_false, Bool.not_false]
      exact hg (by omega)
  · simp only [h1, decide_false, if_neg (show ¬ false = true by decide)]
    exact hg (by omega)


-- math: Pow
-- fn: known4 lex_Turns
theorem turns_l0 (w : List Int) (hb : ∀ x ∈ w, 0 ≤ x ∧ x ≤ 255) (h0 : 1 ≤ w.length) (hw : w.length ≤ 20) (n : Nat) (hn : 1 ≤ n) (hn6 : n ≤ 6) (i : Nat) (hi : i < n * w.length) : ∀ (d c : Nat), c + d = n → Ev (fun k => whorllaw4_LexTurns.l0 k w (n : Int) (i : Int) (powL w c) (c : Int)) true := by
  intro d
  have hlen : ∀ c, c ≤ n → (powL w c).length ≤ 120 := fun c hc => by
    rw [powL_length]
    exact Nat.le_trans (Nat.mul_le_mul (show c ≤ 6 by omega) hw) (by omega)
  induction d with
  | zero =>
    intro c hd
    obtain rfl : c = n := by omega
    have hl := hlen c (Nat.le_refl _)
    have hpl := powL_length w c
    refine Ev.step (fun k => by rw [whorllaw4_LexTurns.l0]) ?_
    have hp : 0 < (powL w c).length := by omega
    have hm := Nat.mod_lt (i + w.length) hp
    simp only [if_neg (show ¬ (c : Int) < c by omega), if_neg (show ¬ ((powL w c).length : Int) = 0 by omega)]
    have e1 : Int.tmod (wrap64 ((i : Int) + w.length)) ((powL w c).length : Int) = (((i + w.length) % (powL w c).length : Nat) : Int) := by
      rw [wrap64_id (by omega) (by omega), show (i : Int) + w.length = ((i + w.length : Nat) : Int) by omega, tmod_nat]
    simp only [e1]
    clear e1
    have hbp : ∀ x ∈ powL w c, 0 ≤ x ∧ x ≤ 255 := fun x hx => hb x (powL_mem hx)
    have T : ∀ y : Nat, y < (powL w c).length → rot (powL w c) i = rot (powL w c) y → turnR (powL w c) (i : Int) (y : Int) = 0 := fun y hy e => by
      unfold turnR
      rw [if_pos (by omega), Int.toNat_natCast, Int.toNat_natCast, e, cmpL_self]
    have e2 : rot (powL w c) i = rot (powL w c) ((i + w.length) % (powL w c).length) := by
      refine rot_eq (by omega) hm (fun y hy => ?_)
      have a1 := Nat.mod_lt (i + y) hp
      have a2 := Nat.mod_lt ((i + w.length) % (powL w c).length + y) hp
      rw [powL_get w (by omega) c _ (by omega), powL_get w (by omega) c _ (by omega)]
      congr 1
      rw [hpl, Nat.mod_mul_left_mod, Nat.mod_mul_left_mod, Nat.add_mod ((i + w.length) % (c * w.length)) y, Nat.mod_mul_left_mod, Nat.add_mod_right, ← Nat.add_mod]
    refine Ev.bind (lex_Turns_ev _ (by omega) hbp _ _) ?_
    rw [T _ hm e2]
    simp only [if_true]
    refine Ev.bind (lex_Turns_ev _ (by omega) hbp _ _) ?_
    rw [T i (by omega) rfl]
    simp only [if_true]
    exact Ev.bind known_ev (Ev.now _)
  | succ d ih =>
    intro c hd
    have hl := hlen c (by omega)
    refine Ev.step (fun k => by rw [whorllaw4_LexTurns.l0]) ?_
    simp only [if_pos (show (c : Int) < n by omega), if_pos (show (powL w c).length + w.length < 140737488355328 by omega), wrap_nat (show c < n by omega) (show n ≤ 140737488355328 by omega)]
    exact ih (c + 1) (by omega)

theorem LexTurns : whorllaw4_LexTurns.Pure := by
  intro s n i h1 h2 h3 h4 h5
  have hb : ∀ x ∈ s, 0 ≤ x ∧ x ≤ 255 := fun x hx => wf_u8 (h3 x hx)
  refine Ev.rounds ?_
  have hg : Ev (fun k => whorllaw4_LexTurns.j0 k s n i true) true := Ev.step (fun k => by rw [whorllaw4_LexTurns.j0]) (by simp only [if_true]; exact Ev.now _)
  refine Ev.congr (fun k => by rw [whorllaw4_LexTurns.f]) ?_
  by_cases g1 : (s.length : Int) < 1
  · simp only [if_pos g1]; exact hg
  by_cases g2 : (s.length : Int) > 20
  · simp only [if_neg g1, if_pos g2]; exact hg
  by_cases g3 : n < 1
  · simp only [if_neg g1, if_neg g2, if_pos g3]; exact hg
  by_cases g4 : n > 6
  · simp only [if_neg g1, if_neg g2, if_neg g3, if_pos g4]; exact hg
  by_cases g5 : i < 0
  · simp only [if_neg g1, if_neg g2, if_neg g3, if_neg g4, if_pos g5]; exact hg
  simp only [if_neg g1, if_neg g2, if_neg g3, if_neg g4, if_neg g5]
  obtain ⟨n, rfl⟩ : ∃ x : Nat, n = x := ⟨n.toNat, by omega⟩
  obtain ⟨i, rfl⟩ : ∃ x : Nat, i = x := ⟨i.toNat, by omega⟩
  have hm : s.length * n ≤ 120 := Nat.le_trans (Nat.mul_le_mul (show s.length ≤ 20 by omega) (show n ≤ 6 by omega)) (by omega)
  have hmm : (s.length : Int) * n = ((s.length * n : Nat) : Int) := by rw [Int.natCast_mul]
  rw [hmm, wrap64_id (by omega) (by omega)]
  by_cases g6 : (i : Int) ≥ ((s.length * n : Nat) : Int)
  · rw [show decide ((i : Int) ≥ ((s.length * n : Nat) : Int)) = true by simpa using g6]; exact hg
  rw [show decide ((i : Int) ≥ ((s.length * n : Nat) : Int)) = false by rw [decide_eq_false_iff_not]; exact g6]
  refine Ev.step (fun k => by rw [whorllaw4_LexTurns.j0]) ?_
  simp only [if_neg (show ¬ false = true by decide)]
  exact turns_l0 s hb (by omega) (by omega) n (by omega) (by omega) i (by rw [Nat.mul_comm]; omega) n 0 (by omega)

end Go.Proofs.Ytedbajpmndbilaa.Pure
