/- LexCompares: what the statement LexCompares says of the printed functions, proved for every input that its guards let in. Conditions: none beside the statement's own. -/
import Derived.Test.YtedbajpmndbilaaHLexComparesx3
import Derived.Test.YtedbajpmndbilaaMLexCompares
set_option linter.unusedVariables false
set_option linter.unusedSimpArgs false
namespace Go.Proofs.Ytedbajpmndbilaa.Pure
open Go Go.RowKit Go.Proofs.Ytedbajpmndbilaa.PLexCompares Go.Proofs.YtedbajpmndbilaaW.PrintWords Go.Proofs.YtedbajpmndbilaaW.PrintLast Go.Proofs.Ytedbajpmndbilaa.MM

theorem known_ev : Ev (fun k => whorllaw4_known.f k) true := Ev.of (whorllaw4_known.mono) (k := 100) (by decide +kernel)


-- math: W Base Perm SA
theorem bytes_at (l : List Int) (i : Nat) (hi : i < l.length) : (⟨(Go.Lib.bytesOf l).toArray⟩ : ByteArray)[i]! = UInt8.ofNat (l.getD i 0).toNat := by
  have h1 : i < (⟨(Go.Lib.bytesOf l).toArray⟩ : ByteArray).size := by
    show i < (Go.Lib.bytesOf l).toArray.size
    simp [Go.Lib.bytesOf, hi]
  rw [getElem!_pos (⟨(Go.Lib.bytesOf l).toArray⟩ : ByteArray) i h1]
  change ((Go.Lib.bytesOf l).toArray)[i]'h1 = _
  simp [Go.Lib.bytesOf, List.getD_eq_getElem?_getD, List.getElem?_eq_getElem hi]

theorem u8_ne {x y : Int} (hx : 0 ≤ x ∧ x ≤ 255) (hy : 0 ≤ y ∧ y ≤ 255) : (UInt8.ofNat x.toNat != UInt8.ofNat y.toNat) = decide (x ≠ y) := by
  rw [Bool.eq_iff_iff, bne_iff_ne, decide_eq_true_eq]
  constructor
  · intro h e; exact h (by rw [e])
  · intro h e
    have := congrArg UInt8.toNat e
    rw [UInt8.toNat_ofNat', UInt8.toNat_ofNat'] at this
    omega

theorem u8_lt {x y : Int} (hx : 0 ≤ x ∧ x ≤ 255) (hy : 0 ≤ y ∧ y ≤ 255) : UInt8.ofNat x.toNat < UInt8.ofNat y.toNat ↔ x < y := by
  rw [UInt8.lt_iff_toNat_lt, UInt8.toNat_ofNat', UInt8.toNat_ofNat']
  omega

theorem bytes_cmp (a b : List Int) (ha : ∀ x ∈ a, 0 ≤ x ∧ x ≤ 255) (hb : ∀ x ∈ b, 0 ≤ x ∧ x ≤ 255) : Go.Extern.BytealgCompare.cmp ⟨(Go.Lib.bytesOf a).toArray⟩ ⟨(Go.Lib.bytesOf b).toArray⟩ = cmpL a b := by
  have sa : (⟨(Go.Lib.bytesOf a).toArray⟩ : ByteArray).size = a.length := by
    show (Go.Lib.bytesOf a).toArray.size = _
    simp [Go.Lib.bytesOf]
  have sb : (⟨(Go.Lib.bytesOf b).toArray⟩ : ByteArray).size = b.length := by
    show (Go.Lib.bytesOf b).toArray.size = _
    simp [Go.Lib.bytesOf]
  unfold Go.Extern.BytealgCompare.cmp
  rw [sa, sb]
  cases hf : (List.range (min a.length b.length)).find? (fun i => (⟨(Go.Lib.bytesOf a).toArray⟩ : ByteArray)[i]! != (⟨(Go.Lib.bytesOf b).toArray⟩ : ByteArray)[i]!) with
  | some i =>
    rw [List.find?_range_eq_some] at hf
    obtain ⟨h1, h2, h3⟩ := hf
    rw [List.mem_range] at h2
    have ra := ha _ (getD_mem (a := a) (i := i) (by omega))
    have rb := hb _ (getD_mem (a := b) (i := i) (by omega))
    rw [bytes_at a i (by omega), bytes_at b i (by omega), u8_ne ra rb, decide_eq_true_eq] at h1
    have heq : ∀ y, y < i → a.getD y 0 = b.getD y 0 := fun y hy => by
      have := h3 y hy
      rw [bytes_at a y (by omega), bytes_at b y (by omega), u8_ne (ha _ (getD_mem (by omega))) (hb _ (getD_mem (by omega)))] at this
      simpa using this
    simp only
    rw [bytes_at a i (by omega), bytes_at b i (by omega)]
    by_cases hlt : a.getD i 0 < b.getD i 0
    · rw [if_pos ((u8_lt ra rb).2 hlt)]
      exact (ltL_mk i (by omega) (by omega) heq hlt).symm
    · rw [if_neg (fun h => hlt ((u8_lt ra rb).1 h))]
      exact (cmpL_gt.2 (ltL_mk i (by omega) (by omega) (fun y hy => (heq y hy).symm) (by omega))).symm
  | none =>
    rw [List.find?_range_eq_none] at hf
    have heq : ∀ y, y < min a.length b.length → a.getD y 0 = b.getD y 0 := fun y hy => by
      have := hf y hy
      rw [bytes_at a y (by omega), bytes_at b y (by omega), u8_ne (ha _ (getD_mem (by omega))) (hb _ (getD_mem (by omega)))] at this
      simpa using this
    simp only
    by_cases h1 : a.length < b.length
    · rw [if_pos h1]
      exact (ltL_pre h1 (fun y hy => heq y (by omega))).symm
    · rw [if_neg h1]
      by_cases h2 : a.length > b.length
      · rw [if_pos h2]
        exact (cmpL_gt.2 (ltL_pre h2 (fun y hy => (heq y (by omega)).symm))).symm
      · rw [if_neg h2]
        have : a = b := ext_getD (by omega) (fun y hy => heq y (by omega))
        rw [this, cmpL_self]


-- math: W Base Perm SA
-- with: bytesCmp
def endR' (s : List Int) (i j : Int) : Int := if 0 ≤ i ∧ i ≤ s.length ∧ 0 ≤ j ∧ j ≤ s.length then cmpL (s.drop i.toNat) (s.drop j.toNat) else 0

theorem isEnding_eq (s : List Int) (i : Int) : lex_isEnding.f s i = some (decide (0 ≤ i ∧ i ≤ s.length)) := by
  unfold lex_isEnding.f
  by_cases h : i ≥ 0
  · rw [if_pos h]; congr 1; rw [decide_eq_decide]; omega
  · rw [if_neg h]; congr 1; symm; rw [decide_eq_false_iff_not]; omega

theorem lex_Endings_eq (s : List Int) (hb : ∀ x ∈ s, 0 ≤ x ∧ x ≤ 255) (i j : Int) : lex_Endings.f s i j = some (endR' s i j) := by
  unfold lex_Endings.f endR'
  simp only [isEnding_eq, Option.bind_some]
  by_cases h1 : 0 ≤ i ∧ i ≤ s.length
  · by_cases h2 : 0 ≤ j ∧ j ≤ s.length
    · simp only [h1, h2, and_self, decide_true, if_true]
      unfold bytes_Compare.f
      rw [Option.bind_some, bytes_cmp _ _ (fun x hx => hb x (List.mem_of_mem_drop hx)) (fun x hx => hb x (List.mem_of_mem_drop hx))]
    · rw [if_neg (show ¬ (0 ≤ i ∧ i ≤ s.length ∧ 0 ≤ j ∧ j ≤ s.length) by omega)]
      simp only [h1, h2, and_self, decide_true, decide_false, if_true, if_neg (show ¬ false = true by decide)]
  · rw [if_neg (show ¬ (0 ≤ i ∧ i ≤ s.length ∧ 0 ≤ j ∧ j ≤ s.length) by omega)]
    simp only [h1, decide_false, if_neg (show ¬ false = true by decide)]


-- math: W Base Perm SA Rot
-- with: bytesCmp
theorem isTurn_eq (s : List Int) (i : Int) : lex_isTurn.f s i = some (decide (0 ≤ i ∧ i < s.length)) := by
  unfold lex_isTurn.f
  by_cases h : i ≥ 0
  · rw [if_pos h]; congr 1; rw [decide_eq_decide]; omega
  · rw [if_neg h]; congr 1; symm; rw [decide_eq_false_iff_not]; omega

theorem tmod_nat {a b : Nat} : Int.tmod (a : Int) (b : Int) = ((a % b : Nat) : Int) := by
  rw [Int.tmod_eq_emod_of_nonneg (by omega)]; omega

theorem one_at {s : List Int} {i : Nat} (hi : i < s.length) : (s.take (i + 1)).drop i = [s.getD i 0] := by
  rw [take_next hi, List.drop_append, List.drop_of_length_le (by rw [List.length_take]; omega), List.length_take, show i - min i s.length = 0 by omega]
  simp

theorem lex_Turns_l0 (s : List Int) (hn : s.length ≤ 140737488355328) (hb : ∀ x ∈ s, 0 ≤ x ∧ x ≤ 255) (i j : Nat) (hi : i < s.length) (hj : j < s.length) : ∀ (d c : Nat), c + d = s.length → (∀ y, y < c → s.getD ((i + y) % s.length) 0 = s.getD ((j + y) % s.length) 0) →
    Ev (fun k => lex_Turns.l0 k s (((i + c) % s.length : Nat) : Int) (((j + c) % s.length : Nat) : Int) (s.length : Int) (s.length : Int) (c : Int)) (cmpL (rot s i) (rot s j)) := by
  intro d
  induction d with
  | zero =>
    intro c hd h
    refine Ev.step (fun k => by rw [lex_Turns.l0]) ?_
    simp only [if_neg (show ¬ (c : Int) < s.length by omega)]
    rw [rot_eq hi hj (fun y hy => h y (by omega)), cmpL_self]
    exact Ev.now _
  | succ d ih =>
    intro c hd h
    have hc : c < s.length := by omega
    have hx := Nat.mod_lt (i + c) (show 0 < s.length by omega)
    have hy := Nat.mod_lt (j + c) (show 0 < s.length by omega)
    have ex : ((i + c) % s.length + 1) % s.length = (i + (c + 1)) % s.length := by rw [Nat.mod_add_mod]; rfl
    have ey : ((j + c) % s.length + 1) % s.length = (j + (c + 1)) % s.length := by rw [Nat.mod_add_mod]; rfl
    generalize hxe : (i + c) % s.length = x at hx ex ⊢
    generalize hye : (j + c) % s.length = y at hy ey ⊢
    refine Ev.step (fun k => by rw [lex_Turns.l0]) ?_
    simp only [if_pos (show (c : Int) < s.length by omega), if_pos (show 0 ≤ (x : Int) by omega), if_pos (show (x : Int) < s.length by omega), if_pos (show 0 ≤ (y : Int) by omega), if_pos (show (y : Int) < s.length by omega), rd_nat, wrap_nat hx hn, wrap_nat hy hn, wrap_nat hc hn, Int.toNat_natCast]
    by_cases he : s.getD x 0 = s.getD y 0
    · simp only [if_pos he, if_neg (show ¬ (s.length : Int) = 0 by omega), tmod_nat, ex, ey]
      refine ih (c + 1) (by omega) (fun z hz => ?_)
      by_cases e : z = c
      · rw [e, hxe, hye]; exact he
      · exact h z (by omega)
    · simp only [if_neg he, if_pos (show (x : Int) ≤ ((x + 1 : Nat) : Int) by omega), if_pos (show ((x + 1 : Nat) : Int) ≤ s.length by omega), if_pos (show (y : Int) ≤ ((y + 1 : Nat) : Int) by omega), if_pos (show ((y + 1 : Nat) : Int) ≤ s.length by omega)]
      have e2 : bytes_Compare.f ((s.take (x + 1)).drop x) ((s.take (y + 1)).drop y) = some (cmpL (rot s i) (rot s j)) := by
        unfold bytes_Compare.f
        rw [one_at hx, one_at hy, bytes_cmp _ _ (fun z hz => by rw [List.mem_singleton] at hz; rw [hz]; exact hb _ (getD_mem hx)) (fun z hz => by rw [List.mem_singleton] at hz; rw [hz]; exact hb _ (getD_mem hy))]
        congr 1
        simp only [cmpL]
        by_cases hlt : s.getD x 0 < s.getD y 0
        · rw [if_pos hlt]
          exact (rot_lt hi hj hc h (by rw [hxe, hye]; exact hlt)).symm
        · rw [if_neg hlt, if_pos (by omega)]
          exact (cmpL_gt.2 (rot_lt hj hi hc (fun z hz => (h z hz).symm) (by rw [hxe, hye]; omega))).symm
      rw [e2]
      exact Ev.now _

theorem lex_Turns_ev (s : List Int) (hn : s.length ≤ 140737488355328) (hb : ∀ x ∈ s, 0 ≤ x ∧ x ≤ 255) (i j : Int) : Ev (fun k => lex_Turns.f k s i j) (turnR s i j) := by
  refine Ev.congr (fun k => by rw [lex_Turns.f]) ?_
  simp only [isTurn_eq, Option.bind_some]
  have hg : ¬ (0 ≤ i ∧ i < s.length ∧ 0 ≤ j ∧ j < s.length) → Ev (fun k => lex_Turns.j0 k s i j true) (turnR s i j) := fun h => by
    refine Ev.step (fun k => by rw [lex_Turns.j0]) ?_
    simp only [if_true]
    unfold turnR
    rw [if_neg h]
    exact Ev.now _
  by_cases h1 : 0 ≤ i ∧ i < s.length
  · simp only [h1, and_self, decide_true, if_true]
    by_cases h2 : 0 ≤ j ∧ j < s.length
    · simp only [h2, and_self, decide_true, Bool.not_true]
      refine Ev.step (fun k => by rw [lex_Turns.j0]) ?_
      simp only [if_neg (show ¬ false = true by decide)]
      obtain ⟨i, rfl⟩ : ∃ m : Nat, i = m := ⟨i.toNat, by omega⟩
      obtain ⟨j, rfl⟩ : ∃ m : Nat, j = m := ⟨j.toNat, by omega⟩
      have := lex_Turns_l0 s hn hb i j (by omega) (by omega) s.length 0 (by omega) (fun y hy => by omega)
      rw [Nat.add_zero, Nat.add_zero, Nat.mod_eq_of_lt (by omega), Nat.mod_eq_of_lt (by omega)] at this
      unfold turnR
      rw [if_pos (by omega)]
      exact this
    · simp only [h2, decide_false, Bool.not_false]
      exact hg (by omega)
  · simp only [h1, decide_false, if_neg (show ¬ false = true by decide)]
    exact hg (by omega)


-- math: W Base Perm SA Kinds Lcp
theorem mx_eq (a b : Int) : mx a b = if a ≤ b then b else a := by unfold mx; split <;> (try split) <;> omega

theorem lex_isEnding_eq (s : List Int) (i : Int) : lex_isEnding.f s i = some (decide (0 ≤ i ∧ i ≤ s.length)) := by
  unfold lex_isEnding.f
  by_cases h : i ≥ 0
  · rw [if_pos h]; congr 1; rw [decide_eq_decide]; omega
  · rw [if_neg h]; congr 1; symm; rw [decide_eq_false_iff_not]; omega

theorem lex_Common_l0 (s : List Int) (hn : s.length ≤ 35184372088832) (i j : Nat) (hi : i ≤ s.length) (hj : j ≤ s.length) : ∀ (d n : Nat), i + n ≤ s.length → j + n ≤ s.length → s.length - n ≤ d → (∀ z, z < n → s.getD (i + z) 0 = s.getD (j + z) 0) →
    Ev (fun k => lex_Common.l0 k s (i : Int) (j : Int) (n : Int)) (lcp s i j : Int) := by
  intro d
  induction d with
  | zero =>
    intro n h1 h2 hd h
    refine Ev.step (fun k => by rw [lex_Common.l0]) ?_
    have hm : ¬ (mx (i : Int) j) + n < s.length := by rw [mx_eq]; split <;> omega
    have hm2 : mx (i : Int) j ≤ s.length ∧ 0 ≤ mx (i : Int) j := by rw [mx_eq]; split <;> omega
    rw [wrap64_id (x := mx (i : Int) j + n) (by omega) (by omega)]
    simp only [if_neg hm]
    rw [lcp_stop h1 h2 h (by omega)]
    exact Ev.now _
  | succ d ih =>
    intro n h1 h2 hd h
    refine Ev.step (fun k => by rw [lex_Common.l0]) ?_
    have hm2 : mx (i : Int) j ≤ s.length ∧ 0 ≤ mx (i : Int) j := by rw [mx_eq]; split <;> omega
    by_cases hm : (mx (i : Int) j) + n < s.length
    · have hij : i + n < s.length ∧ j + n < s.length := by rw [mx_eq] at hm; split at hm <;> omega
      have w1 : wrap64 ((i : Int) + n) = ((i + n : Nat) : Int) := by rw [wrap64_id (by omega) (by omega)]; omega
      have w2 : wrap64 ((j : Int) + n) = ((j + n : Nat) : Int) := by clear w1; rw [wrap64_id (by omega) (by omega)]; omega
      rw [wrap64_id (x := mx (i : Int) j + n) (by clear w1 w2; omega) (by clear w1 w2; omega)]
      simp only [w1, w2, rd_nat]
      clear w1 w2
      simp only [if_pos hm, if_pos (show (0 : Int) ≤ ((i + n : Nat) : Int) by omega), if_pos (show ((i + n : Nat) : Int) < s.length by omega), if_pos (show (0 : Int) ≤ ((j + n : Nat) : Int) by omega), if_pos (show ((j + n : Nat) : Int) < s.length by omega)]
      by_cases he : s.getD (i + n) 0 = s.getD (j + n) 0
      · simp only [if_pos he, wrap_nat (show n < s.length by omega) (show s.length ≤ 140737488355328 by omega)]
        refine ih (n + 1) (by omega) (by omega) (by omega) (fun z hz => ?_)
        by_cases e : z = n
        · rw [e]; exact he
        · exact h z (by omega)
      · simp only [if_neg he]
        rw [lcp_stop h1 h2 h (by omega)]
        exact Ev.now _
    · have hij : s.length ≤ i + n ∨ s.length ≤ j + n := by rw [mx_eq] at hm; split at hm <;> omega
      rw [wrap64_id (x := mx (i : Int) j + n) (by omega) (by omega)]
      simp only [if_neg hm]
      rw [lcp_stop h1 h2 h (by omega)]
      exact Ev.now _

theorem lex_Common_ev (s : List Int) (hn : s.length ≤ 35184372088832) (i j : Int) : Ev (fun k => lex_Common.f k s i j) (comR s i j) := by
  refine Ev.congr (fun k => by rw [lex_Common.f]) ?_
  simp only [lex_isEnding_eq, Option.bind_some]
  have hg : ¬ (0 ≤ i ∧ i ≤ s.length ∧ 0 ≤ j ∧ j ≤ s.length) → Ev (fun k => lex_Common.j0 k s i j true) (comR s i j) := fun h => by
    refine Ev.step (fun k => by rw [lex_Common.j0]) ?_
    simp only [if_true]
    unfold comR
    rw [if_neg h]
    exact Ev.now _
  by_cases h1 : 0 ≤ i ∧ i ≤ s.length
  · simp only [h1, and_self, decide_true, if_true]
    by_cases h2 : 0 ≤ j ∧ j ≤ s.length
    · simp only [h2, and_self, decide_true, Bool.not_true]
      refine Ev.step (fun k => by rw [lex_Common.j0]) ?_
      simp only [if_neg (show ¬ false = true by decide)]
      obtain ⟨i, rfl⟩ : ∃ m : Nat, i = m := ⟨i.toNat, by omega⟩
      obtain ⟨j, rfl⟩ : ∃ m : Nat, j = m := ⟨j.toNat, by omega⟩
      rw [comR_nat (by omega) (by omega)]
      exact lex_Common_l0 s hn i j (by omega) (by omega) s.length 0 (by omega) (by omega) (by omega) (fun z hz => by omega)
    · simp only [h2, decide_false, Bool.not_false]
      exact hg (by omega)
  · simp only [h1, decide_false, if_neg (show ¬ false = true by decide)]
    exact hg (by omega)


-- math: W Base Perm SA
theorem ref4_Words_l0 (a b : List Int) (ha : a.length ≤ 140737488355328) : ∀ (d i : Nat), i + d = a.length → i ≤ b.length → a.take i = b.take i → Ev (fun k => whorlref4_Words.l0 k a b (i : Int)) (cmpL a b) := by
  intro d
  induction d with
  | zero =>
    intro i hd hb h
    have e : cmpL a b = cmpL (a.drop i) (b.drop i) := by
      conv => lhs; rw [← List.take_append_drop i a, ← List.take_append_drop i b, h]
      rw [cmpL_append]
    refine Ev.step (fun k => by rw [whorlref4_Words.l0]) ?_
    simp only [if_neg (show ¬ (i : Int) < a.length by omega)]
    refine Ev.step (fun k => by rw [whorlref4_Words.j1]) ?_
    simp only [if_neg (show ¬ false = true by decide)]
    rw [e, List.drop_of_length_le (show a.length ≤ i by omega)]
    by_cases h1 : a.length < b.length
    · simp only [if_pos (show (a.length : Int) < b.length by omega)]
      have : ltL [] (b.drop i) := ltL_nil.2 (fun e => by have := congrArg List.length e; rw [List.length_drop] at this; simp only [List.length_nil] at this; omega)
      rw [this]; exact Ev.now _
    · simp only [if_neg (show ¬ (a.length : Int) < b.length by omega), if_neg (show ¬ (a.length : Int) > b.length by omega)]
      rw [List.drop_of_length_le (show b.length ≤ i by omega)]
      exact Ev.now _
  | succ d ih =>
    intro i hd hb h
    have hi : i < a.length := by omega
    have e : cmpL a b = cmpL (a.drop i) (b.drop i) := by
      conv => lhs; rw [← List.take_append_drop i a, ← List.take_append_drop i b, h]
      rw [cmpL_append]
    refine Ev.step (fun k => by rw [whorlref4_Words.l0]) ?_
    simp only [if_pos (show (i : Int) < a.length by omega)]
    refine Ev.step (fun k => by rw [whorlref4_Words.j1]) ?_
    by_cases hib : i < b.length
    · simp only [show decide ((i : Int) < b.length) = true by simpa using hib, if_true, if_pos (show 0 ≤ (i : Int) by omega), if_pos (show (i : Int) < a.length by omega), if_pos (show (i : Int) < b.length by omega), rd_nat, wrap_nat hi ha]
      have e2 : cmpL (a.drop i) (b.drop i) = if a.getD i 0 < b.getD i 0 then -1 else if b.getD i 0 < a.getD i 0 then 1 else cmpL (a.drop (i + 1)) (b.drop (i + 1)) := by
        rw [drop_cons_get hi, drop_cons_get hib, cmpL]
      rw [e, e2]
      by_cases h1 : a.getD i 0 = b.getD i 0
      · have e3 : cmpL (a.drop (i + 1)) (b.drop (i + 1)) = cmpL a b := by
          rw [e, e2, if_neg (by omega), if_neg (by omega)]
        simp only [if_pos h1]
        rw [if_neg (show ¬ a.getD i 0 < b.getD i 0 by omega), if_neg (show ¬ b.getD i 0 < a.getD i 0 by omega), e3]
        exact ih (i + 1) (by omega) (by omega) (by rw [take_next hi, take_next hib, h, h1])
      · by_cases h2 : a.getD i 0 < b.getD i 0
        · simp only [if_neg h1, if_pos h2]; exact Ev.now _
        · simp only [if_neg h1, if_neg h2]
          rw [if_pos (show b.getD i 0 < a.getD i 0 by omega)]
          exact Ev.now _
    · simp only [show decide ((i : Int) < b.length) = false by simpa using hib, if_neg (show ¬ false = true by decide), if_neg (show ¬ (a.length : Int) < b.length by omega), if_pos (show (a.length : Int) > b.length by omega)]
      rw [e, List.drop_of_length_le (show b.length ≤ i by omega), drop_cons_get hi]
      exact Ev.now _

theorem ref4_Words_ev (a b : List Int) (ha : a.length ≤ 140737488355328) : Ev (fun k => whorlref4_Words.f k a b) (cmpL a b) :=
  Ev.congr (fun k => rfl) (ref4_Words_l0 a b ha a.length 0 (by omega) (by omega) (by simp))


-- with: ref4_Words
def endR (s : List Int) (i j : Int) : Int := if 0 ≤ i ∧ i ≤ s.length ∧ 0 ≤ j ∧ j ≤ s.length then cmpL (s.drop i.toNat) (s.drop j.toNat) else 0

theorem ref4_Endings_ev (s : List Int) (hn : s.length ≤ 140737488355328) (i j : Int) : Ev (fun k => whorlref4_Endings.f k s i j) (endR s i j) := by
  refine Ev.congr (fun k => by rw [whorlref4_Endings.f]) ?_
  unfold endR
  by_cases h1 : i < 0
  · simp only [if_pos h1]; rw [if_neg (by omega)]; exact Ev.now _
  by_cases h2 : i > s.length
  · simp only [if_neg h1, if_pos h2]; rw [if_neg (by omega)]; exact Ev.now _
  by_cases h3 : j < 0
  · simp only [if_neg h1, if_neg h2, if_pos h3]; rw [if_neg (by omega)]; exact Ev.now _
  by_cases h4 : j > s.length
  · simp only [if_neg h1, if_neg h2, if_neg h3, if_pos h4]; rw [if_neg (by omega)]; exact Ev.now _
  simp only [if_neg h1, if_neg h2, if_neg h3, if_neg h4, if_pos (show 0 ≤ i by omega), if_pos (show i ≤ s.length by omega), if_pos (show 0 ≤ j by omega), if_pos (show j ≤ s.length by omega)]
  rw [if_pos (by omega)]
  exact Ev.bind (ref4_Words_ev _ _ (by rw [List.length_drop]; omega)) (Ev.now _)


-- math: W Base Perm SA Rot
-- with: ref4_Words
theorem ref4_Turn_eq (s : List Int) (hn : s.length ≤ 1000) (i : Nat) (hi : i ≤ s.length) : whorlref4_Turn.f s (i : Int) = some (rot s i) := by
  unfold whorlref4_Turn.f rot
  have h1 : (s.drop i).length = s.length - i := List.length_drop
  have h2 : (s.take i).length = min i s.length := List.length_take
  simp only [Option.bind_some, Int.toNat_natCast, if_pos (show 0 ≤ (i : Int) by omega), if_pos (show (i : Int) ≤ s.length by omega), List.nil_append, List.length_nil, Nat.zero_add]
  rw [if_pos (by omega), if_pos (by omega)]

theorem ref4_Turns_ev (s : List Int) (hn : s.length ≤ 1000) (i j : Int) : Ev (fun k => whorlref4_Turns.f k s i j) (turnR s i j) := by
  refine Ev.congr (fun k => by rw [whorlref4_Turns.f]) ?_
  have hg : ¬ (0 ≤ i ∧ i < s.length ∧ 0 ≤ j ∧ j < s.length) → Ev (fun k => whorlref4_Turns.j0 k s i j true) (turnR s i j) := fun h => by
    refine Ev.step (fun k => by rw [whorlref4_Turns.j0]) ?_
    simp only [if_true]
    unfold turnR
    rw [if_neg h]
    exact Ev.now _
  by_cases h1 : i < 0
  · simp only [if_pos h1]; exact hg (by omega)
  by_cases h2 : i ≥ s.length
  · simp only [if_neg h1, if_pos h2]; exact hg (by omega)
  by_cases h3 : j < 0
  · simp only [if_neg h1, if_neg h2, if_pos h3]; exact hg (by omega)
  by_cases h4 : j ≥ s.length
  · simp only [if_neg h1, if_neg h2, if_neg h3, h4, decide_true]; exact hg (by omega)
  simp only [if_neg h1, if_neg h2, if_neg h3, h4, decide_false]
  refine Ev.step (fun k => by rw [whorlref4_Turns.j0]) ?_
  simp only [if_neg (show ¬ false = true by decide)]
  obtain ⟨i, rfl⟩ : ∃ m : Nat, i = m := ⟨i.toNat, by omega⟩
  obtain ⟨j, rfl⟩ : ∃ m : Nat, j = m := ⟨j.toNat, by omega⟩
  rw [ref4_Turn_eq s hn i (by omega), ref4_Turn_eq s hn j (by omega)]
  simp only [Option.bind_some]
  unfold turnR
  rw [if_pos (by omega)]
  exact Ev.bind (ref4_Words_ev _ _ (by rw [rot_length (by omega)]; omega)) (Ev.now _)

-- math: W Base Perm SA Kinds Lcp
theorem mx_eq' (a b : Int) : mx a b = if a ≤ b then b else a := by unfold mx; split <;> (try split) <;> omega

theorem ref4_Common_l0 (s : List Int) (hn : s.length ≤ 35184372088832) (i j : Nat) (hi : i ≤ s.length) (hj : j ≤ s.length) : ∀ (d n : Nat), i + n ≤ s.length → j + n ≤ s.length → s.length - n ≤ d → (∀ z, z < n → s.getD (i + z) 0 = s.getD (j + z) 0) →
    Ev (fun k => whorlref4_Common.l0 k s (i : Int) (j : Int) (n : Int)) (lcp s i j : Int) := by
  intro d
  induction d with
  | zero =>
    intro n h1 h2 hd h
    refine Ev.step (fun k => by rw [whorlref4_Common.l0]) ?_
    have hm : ¬ (mx (i : Int) j) + n < s.length := by rw [mx_eq']; split <;> omega
    have hm2 : mx (i : Int) j ≤ s.length ∧ 0 ≤ mx (i : Int) j := by rw [mx_eq']; split <;> omega
    rw [wrap64_id (x := mx (i : Int) j + n) (by omega) (by omega)]
    simp only [if_neg hm]
    rw [lcp_stop h1 h2 h (by omega)]
    exact Ev.now _
  | succ d ih =>
    intro n h1 h2 hd h
    refine Ev.step (fun k => by rw [whorlref4_Common.l0]) ?_
    have hm2 : mx (i : Int) j ≤ s.length ∧ 0 ≤ mx (i : Int) j := by rw [mx_eq']; split <;> omega
    by_cases hm : (mx (i : Int) j) + n < s.length
    · have hij : i + n < s.length ∧ j + n < s.length := by rw [mx_eq'] at hm; split at hm <;> omega
      have w1 : wrap64 ((i : Int) + n) = ((i + n : Nat) : Int) := by rw [wrap64_id (by omega) (by omega)]; omega
      have w2 : wrap64 ((j : Int) + n) = ((j + n : Nat) : Int) := by clear w1; rw [wrap64_id (by omega) (by omega)]; omega
      rw [wrap64_id (x := mx (i : Int) j + n) (by clear w1 w2; omega) (by clear w1 w2; omega)]
      simp only [w1, w2, rd_nat]
      clear w1 w2
      simp only [if_pos hm, if_pos (show (0 : Int) ≤ ((i + n : Nat) : Int) by omega), if_pos (show ((i + n : Nat) : Int) < s.length by omega), if_pos (show (0 : Int) ≤ ((j + n : Nat) : Int) by omega), if_pos (show ((j + n : Nat) : Int) < s.length by omega)]
      by_cases he : s.getD (i + n) 0 = s.getD (j + n) 0
      · simp only [if_pos he, wrap_nat (show n < s.length by omega) (show s.length ≤ 140737488355328 by omega)]
        refine ih (n + 1) (by omega) (by omega) (by omega) (fun z hz => ?_)
        by_cases e : z = n
        · rw [e]; exact he
        · exact h z (by omega)
      · simp only [if_neg he]
        rw [lcp_stop h1 h2 h (by omega)]
        exact Ev.now _
    · have hij : s.length ≤ i + n ∨ s.length ≤ j + n := by rw [mx_eq'] at hm; split at hm <;> omega
      rw [wrap64_id (x := mx (i : Int) j + n) (by omega) (by omega)]
      simp only [if_neg hm]
      rw [lcp_stop h1 h2 h (by omega)]
      exact Ev.now _

theorem ref4_Common_ev (s : List Int) (hn : s.length ≤ 35184372088832) (i j : Int) : Ev (fun k => whorlref4_Common.f k s i j) (comR s i j) := by
  refine Ev.congr (fun k => by rw [whorlref4_Common.f]) ?_
  have hg : ¬ (0 ≤ i ∧ i ≤ s.length ∧ 0 ≤ j ∧ j ≤ s.length) → Ev (fun k => whorlref4_Common.j0 k s i j true) (comR s i j) := fun h => by
    refine Ev.step (fun k => by rw [whorlref4_Common.j0]) ?_
    simp only [if_true]
    unfold comR
    rw [if_neg h]
    exact Ev.now _
  by_cases h1 : i < 0
  · simp only [if_pos h1]; exact hg (by omega)
  by_cases h2 : i > s.length
  · simp only [if_neg h1, if_pos h2]; exact hg (by omega)
  by_cases h3 : j < 0
  · simp only [if_neg h1, if_neg h2, if_pos h3]; exact hg (by omega)
  by_cases h4 : j > s.length
  · simp only [if_neg h1, if_neg h2, if_neg h3, h4, decide_true]; exact hg (by omega)
  simp only [if_neg h1, if_neg h2, if_neg h3, h4, decide_false]
  refine Ev.step (fun k => by rw [whorlref4_Common.j0]) ?_
  simp only [if_neg (show ¬ false = true by decide)]
  obtain ⟨i, rfl⟩ : ∃ m : Nat, i = m := ⟨i.toNat, by omega⟩
  obtain ⟨j, rfl⟩ : ∃ m : Nat, j = m := ⟨j.toNat, by omega⟩
  rw [comR_nat (by omega) (by omega)]
  exact ref4_Common_l0 s hn i j (by omega) (by omega) s.length 0 (by omega) (by omega) (by omega) (fun z hz => by omega)


-- fn: known4 lex_Endings lex_Turns lex_Common ref4_Endings ref4_Turns ref4_Common
theorem LexCompares : whorllaw4_LexCompares.Pure := by
  intro s i j h1 h2 h3 h4 h5
  have hb : ∀ x ∈ s, 0 ≤ x ∧ x ≤ 255 := fun x hx => wf_u8 (h3 x hx)
  refine Ev.rounds ?_
  refine Ev.congr (fun k => by rw [whorllaw4_LexCompares.f]) ?_
  by_cases g1 : (s.length : Int) > 200
  · simp only [if_pos g1]; exact Ev.now _
  simp only [if_neg g1, lex_Endings_eq s hb, Option.bind_some]
  refine Ev.bind (ref4_Endings_ev s (by omega) i j) ?_
  simp only [if_pos (show endR' s i j = endR s i j from rfl)]
  refine Ev.bind (lex_Turns_ev s (by omega) hb i j) ?_
  refine Ev.bind (ref4_Turns_ev s (by omega) i j) ?_
  simp only [if_true]
  refine Ev.bind (lex_Common_ev s (by omega) i j) ?_
  refine Ev.bind (ref4_Common_ev s (by omega) i j) ?_
  simp only [if_true]
  exact Ev.bind known_ev (Ev.now _)

end Go.Proofs.Ytedbajpmndbilaa.Pure
