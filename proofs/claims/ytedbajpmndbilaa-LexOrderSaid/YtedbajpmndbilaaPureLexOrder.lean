/- LexOrder: what the statement LexOrder says of the printed functions, proved for every input that its guards let in. Conditions: none beside the statement's own. -/
import Derived.Test.YtedbajpmndbilaaHLexOrderx2
import Derived.Test.YtedbajpmndbilaaMLexOrder
set_option linter.unusedVariables false
set_option linter.unusedSimpArgs false
namespace Go.Proofs.Ytedbajpmndbilaa.Pure
open Go Go.RowKit Go.Proofs.Ytedbajpmndbilaa.PLexOrder Go.Proofs.YtedbajpmndbilaaW.PrintWords Go.Proofs.YtedbajpmndbilaaW.PrintLast Go.Proofs.Ytedbajpmndbilaa.MM

theorem known_ev : Ev (fun k => whorllaw4_known.f k) true := Ev.of (whorllaw4_known.mono) (k := 100) (by decide +kernel)


-- math: W Base Perm SA
theorem bytes_at (l : List Int) (i : Nat) (hi : i < l.length) : (⟨(Go.Lib.bytesOf l).toArray⟩ : ByteArray)[i]! = UInt8.ofNat (l.getD i 0).toNat := by
  have h1 : i < (⟨(Go.Lib.bytesOf l).toArray⟩ : ByteArray).size := by
    show i < (Go.Lib.bytesOf l).toArray.size
    simp [Go.Lib.bytesOf, hi]
  rw [getElem!_pos (⟨(Go.Lib.bytesOf l).toArray⟩ : ByteArray) i h1]
  change ((Go.Lib.bytesOf l).toArray)[i]'h1 = _
  simp [Go.Lib.bytesOf, List.getD_eq_getElem?_getD, List.getElem?_eq_getElem hi]

theorem u8_ne {x y : Int} (hx : 0 ≤ x ∧ x ≤ 255) (hy : 0 ≤ y ∧ y ≤ 255) : (UInt8.ofNat x.toNat != UInt8.ofNat y.toNat) = decide (x ≠ y) := by
  rw [Bool.eq_iff_iff, bne_iff_ne, decide_eq_true_eq]
  constructor
  · intro h e; exact h (by rw [e])
  · intro h e
    have := congrArg UInt8.toNat e
    rw [UInt8.toNat_ofNat', UInt8.toNat_ofNat'] at this
    omega

theorem u8_lt {x y : Int} (hx : 0 ≤ x ∧ x ≤ 255) (hy : 0 ≤ y ∧ y ≤ 255) : UInt8.ofNat x.toNat < UInt8.ofNat y.toNat ↔ x < y := by
  rw [UInt8.lt_iff_toNat_lt, UInt8.toNat_ofNat', UInt8.toNat_ofNat']
  omega

theorem bytes_cmp (a b : List Int) (ha : ∀ x ∈ a, 0 ≤ x ∧ x ≤ 255) (hb : ∀ x ∈ b, 0 ≤ x ∧ x ≤ 255) : Go.Extern.BytealgCompare.cmp ⟨(Go.Lib.bytesOf a).toArray⟩ ⟨(Go.Lib.bytesOf b).toArray⟩ = cmpL a b := by
  have sa : (⟨(Go.Lib.bytesOf a).toArray⟩ : ByteArray).size = a.length := by
    show (Go.Lib.bytesOf a).toArray.size = _
    simp [Go.Lib.bytesOf]
  have sb : (⟨(Go.Lib.bytesOf b).toArray⟩ : ByteArray).size = b.length := by
    show (Go.Lib.bytesOf b).toArray.size = _
    simp [Go.Lib.bytesOf]
  unfold Go.Extern.BytealgCompare.cmp
  rw [sa, sb]
  cases hf : (List.range (min a.length b.length)).find? (fun i => (⟨(Go.Lib.bytesOf a).toArray⟩ : ByteArray)[i]! != (⟨(Go.Lib.bytesOf b).toArray⟩ : ByteArray)[i]!) with
  | some i =>
    rw [List.find?_range_eq_some] at hf
    obtain ⟨h1, h2, h3⟩ := hf
    rw [List.mem_range] at h2
    have ra := ha _ (getD_mem (a := a) (i := i) (by omega))
    have rb := hb _ (getD_mem (a := b) (i := i) (by omega))
    rw [bytes_at a i (by omega), bytes_at b i (by omega), u8_ne ra rb, decide_eq_true_eq] at h1
    have heq : ∀ y, y < i → a.getD y 0 = b.getD y 0 := fun y hy => by
      have := h3 y hy
      rw [bytes_at a y (by omega), bytes_at b y (by omega), u8_ne (ha _ (getD_mem (by omega))) (hb _ (getD_mem (by omega)))] at this
      simpa using this
    simp only
    rw [bytes_at a i (by omega), bytes_at b i (by omega)]
    by_cases hlt : a.getD i 0 < b.getD i 0
    · rw [if_pos ((u8_lt ra rb).2 hlt)]
      exact (ltL_mk i (by omega) (by omega) heq hlt).symm
    · rw [if_neg (fun h => hlt ((u8_lt ra rb).1 h))]
      exact (cmpL_gt.2 (ltL_mk i (by omega) (by omega) (fun y hy => (heq y hy).symm) (by omega))).symm
  | none =>
    rw [List.find?_range_eq_none] at hf
    have heq : ∀ y, y < min a.length b.length → a.getD y 0 = b.getD y 0 := fun y hy => by
      have := hf y hy
      rw [bytes_at a y (by omega), bytes_at b y (by omega), u8_ne (ha _ (getD_mem (by omega))) (hb _ (getD_mem (by omega)))] at this
      simpa using this
    simp only
    by_cases h1 : a.length < b.length
    · rw [if_pos h1]
      exact (ltL_pre h1 (fun y hy => heq y (by omega))).symm
    · rw [if_neg h1]
      by_cases h2 : a.length > b.length
      · rw [if_pos h2]
        exact (cmpL_gt.2 (ltL_pre h2 (fun y hy => (heq y (by omega)).symm))).symm
      · rw [if_neg h2]
        have : a = b := ext_getD (by omega) (fun y hy => heq y (by omega))
        rw [this, cmpL_self]


-- math: W Base Perm SA
-- with: bytesCmp
def endR' (s : List Int) (i j : Int) : Int := if 0 ≤ i ∧ i ≤ s.length ∧ 0 ≤ j ∧ j ≤ s.length then cmpL (s.drop i.toNat) (s.drop j.toNat) else 0

theorem isEnding_eq (s : List Int) (i : Int) : lex_isEnding.f s i = some (decide (0 ≤ i ∧ i ≤ s.length)) := by
  unfold lex_isEnding.f
  by_cases h : i ≥ 0
  · rw [if_pos h]; congr 1; rw [decide_eq_decide]; omega
  · rw [if_neg h]; congr 1; symm; rw [decide_eq_false_iff_not]; omega

theorem lex_Endings_eq (s : List Int) (hb : ∀ x ∈ s, 0 ≤ x ∧ x ≤ 255) (i j : Int) : lex_Endings.f s i j = some (endR' s i j) := by
  unfold lex_Endings.f endR'
  simp only [isEnding_eq, Option.bind_some]
  by_cases h1 : 0 ≤ i ∧ i ≤ s.length
  · by_cases h2 : 0 ≤ j ∧ j ≤ s.length
    · simp only [h1, h2, and_self, decide_true, if_true]
      unfold bytes_Compare.f
      rw [Option.bind_some, bytes_cmp _ _ (fun x hx => hb x (List.mem_of_mem_drop hx)) (fun x hx => hb x (List.mem_of_mem_drop hx))]
    · rw [if_neg (show ¬ (0 ≤ i ∧ i ≤ s.length ∧ 0 ≤ j ∧ j ≤ s.length) by omega)]
      simp only [h1, h2, and_self, decide_true, decide_false, if_true, if_neg (show ¬ false = true by decide)]
  · rw [if_neg (show ¬ (0 ≤ i ∧ i ≤ s.length ∧ 0 ≤ j ∧ j ≤ s.length) by omega)]
    simp only [h1, decide_false, if_neg (show ¬ false = true by decide)]


-- math: W Base Perm SA Kinds Lcp
theorem mx_eq (a b : Int) : mx a b = if a ≤ b then b else a := by unfold mx; split <;> (try split) <;> omega

theorem lex_isEnding_eq (s : List Int) (i : Int) : lex_isEnding.f s i = some (decide (0 ≤ i ∧ i ≤ s.length)) := by
  unfold lex_isEnding.f
  by_cases h : i ≥ 0
  · rw [if_pos h]; congr 1; rw [decide_eq_decide]; omega
  · rw [if_neg h]; congr 1; symm; rw [decide_eq_false_iff_not]; omega

theorem lex_Common_l0 (s : List Int) (hn : s.length ≤ 35184372088832) (i j : Nat) (hi : i ≤ s.length) (hj : j ≤ s.length) : ∀ (d n : Nat), i + n ≤ s.length → j + n ≤ s.length → s.length - n ≤ d → (∀ z, z < n → s.getD (i + z) 0 = s.getD (j + z) 0) →
    Ev (fun k => lex_Common.l0 k s (i : Int) (j : Int) (n : Int)) (lcp s i j : Int) := by
  intro d
  induction d with
  | zero =>
    intro n h1 h2 hd h
    refine Ev.step (fun k => by rw [lex_Common.l0]) ?_
    have hm : ¬ (mx (i : Int) j) + n < s.length := by rw [mx_eq]; split <;> omega
    have hm2 : mx (i : Int) j ≤ s.length ∧ 0 ≤ mx (i : Int) j := by rw [mx_eq]; split <;> omega
    rw [wrap64_id (x := mx (i : Int) j + n) (by omega) (by omega)]
    simp only [if_neg hm]
    rw [lcp_stop h1 h2 h (by omega)]
    exact Ev.now _
  | succ d ih =>
    intro n h1 h2 hd h
    refine Ev.step (fun k => by rw [lex_Common.l0]) ?_
    have hm2 : mx (i : Int) j ≤ s.length ∧ 0 ≤ mx (i : Int) j := by rw [mx_eq]; split <;> omega
    by_cases hm : (mx (i : Int) j) + n < s.length
    · have hij : i + n < s.length ∧ j + n < s.length := by rw [mx_eq] at hm; split at hm <;> omega
      have w1 : wrap64 ((i : Int) + n) = ((i + n : Nat) : Int) := by rw [wrap64_id (by omega) (by omega)]; omega
      have w2 : wrap64 ((j : Int) + n) = ((j + n : Nat) : Int) := by clear w1; rw [wrap64_id (by omega) (by omega)]; omega
      rw [wrap64_id (x := mx (i : Int) j + n) (by clear w1 w2; omega) (by clear w1 w2; omega)]
      simp only [w1, w2, rd_nat]
      clear w1 w2
      simp only [if_pos hm, if_pos (show (0 : Int) ≤ ((i + n : Nat) : Int) by omega), if_pos (show ((i + n : Nat) : Int) < s.length by omega), if_pos (show (0 : Int) ≤ ((j + n : Nat) : Int) by omega), if_pos (show ((j + n : Nat) : Int) < s.length by omega)]
      by_cases he : s.getD (i + n) 0 = s.getD (j + n) 0
      · simp only [if_pos he, wrap_nat (show n < s.length by omega) (show s.length ≤ 140737488355328 by omega)]
        refine ih (n + 1) (by omega) (by omega) (by omega) (fun z hz => ?_)
        by_cases e : z = n
        · rw [e]; exact he
        · exact h z (by omega)
      · simp only [if_neg he]
        rw [lcp_stop h1 h2 h (by omega)]
        exact Ev.now _
    · have hij : s.length ≤ i + n ∨ s.length ≤ j + n := by rw [mx_eq] at hm; split at hm <;> omega
      rw [wrap64_id (x := mx (i : Int) j + n) (by omega) (by omega)]
      simp only [if_neg hm]
      rw [lcp_stop h1 h2 h (by omega)]
      exact Ev.now _

theorem lex_Common_ev (s : List Int) (hn : s.length ≤ 35184372088832) (i j : Int) : Ev (fun k => lex_Common.f k s i j) (comR s i j) := by
  refine Ev.congr (fun k => by rw [lex_Common.f]) ?_
  simp only [lex_isEnding_eq, Option.bind_some]
  have hg : ¬ (0 ≤ i ∧ i ≤ s.length ∧ 0 ≤ j ∧ j ≤ s.length) → Ev (fun k => lex_Common.j0 k s i j true) (comR s i j) := fun h => by
    refine Ev.step (fun k => by rw [lex_Common.j0]) ?_
    simp only [if_true]
    unfold comR
    rw [if_neg h]
    exact Ev.now _
  by_cases h1 : 0 ≤ i ∧ i ≤ s.length
  · simp only [h1, and_self, decide_true, if_true]
    by_cases h2 : 0 ≤ j ∧ j ≤ s.length
    · simp only [h2, and_self, decide_true, Bool.not_true]
      refine Ev.step (fun k => by rw [lex_Common.j0]) ?_
      simp only [if_neg (show ¬ false = true by decide)]
      obtain ⟨i, rfl⟩ : ∃ m : Nat, i = m := ⟨i.toNat, by omega⟩
      obtain ⟨j, rfl⟩ : ∃ m : Nat, j = m := ⟨j.toNat, by omega⟩
      rw [comR_nat (by omega) (by omega)]
      exact lex_Common_l0 s hn i j (by omega) (by omega) s.length 0 (by omega) (by omega) (by omega) (fun z hz => by omega)
    · simp only [h2, decide_false, Bool.not_false]
      exact hg (by omega)
  · simp only [h1, decide_false, if_neg (show ¬ false = true by decide)]
    exact hg (by omega)


-- fn: known4 lex_Endings lex_Common
theorem order_j2 (s : List Int) (hn : s.length ≤ 200) (i j : Nat) (hi : i ≤ s.length) (hj : j ≤ s.length) : Ev (fun k => whorllaw4_LexOrder.j2 k s (i : Int) (j : Int) (s.length : Int) false) true := by
  refine Ev.step (fun k => by rw [whorllaw4_LexOrder.j2]) ?_
  simp only [if_neg (show ¬ false = true by decide)]
  refine Ev.bind (lex_Common_ev s (by omega) _ _) ?_
  refine Ev.bind (lex_Common_ev s (by omega) _ _) ?_
  rw [comR_nat hi hj, comR_nat hj hi, lcp_comm s j i]
  simp only [if_true]
  refine Ev.bind (lex_Common_ev s (by omega) _ _) ?_
  rw [comR_nat hi hi, lcp_self (s.length - i) (by omega), wrap64_id (by omega) (by omega)]
  rw [show ((s.length - i : Nat) : Int) = (s.length : Int) - i by omega]
  simp only [if_true]
  exact Ev.bind known_ev (Ev.now _)

theorem LexOrder : whorllaw4_LexOrder.Pure := by
  intro s i j m h1 h2 h3 h4 h5 h6
  have hb : ∀ x ∈ s, 0 ≤ x ∧ x ≤ 255 := fun x hx => wf_u8 (h3 x hx)
  refine Ev.rounds ?_
  have hg : Ev (fun k => whorllaw4_LexOrder.j0 k s i j m (s.length : Int) true) true := Ev.step (fun k => by rw [whorllaw4_LexOrder.j0]) (by simp only [if_true]; exact Ev.now _)
  refine Ev.congr (fun k => by rw [whorllaw4_LexOrder.f]) ?_
  by_cases g1 : (s.length : Int) > 200
  · simp only [if_pos g1]; exact hg
  by_cases g2 : i < 0
  · simp only [if_neg g1, if_pos g2]; exact hg
  by_cases g3 : i > s.length
  · simp only [if_neg g1, if_neg g2, if_pos g3]; exact hg
  by_cases g4 : j < 0
  · simp only [if_neg g1, if_neg g2, if_neg g3, if_pos g4]; exact hg
  by_cases g5 : j > s.length
  · simp only [if_neg g1, if_neg g2, if_neg g3, if_neg g4, if_pos g5]; exact hg
  by_cases g6 : m < 0
  · simp only [if_neg g1, if_neg g2, if_neg g3, if_neg g4, if_neg g5, if_pos g6]; exact hg
  by_cases g7 : m > s.length
  · simp only [if_neg g1, if_neg g2, if_neg g3, if_neg g4, if_neg g5, if_neg g6, g7, decide_true]; exact hg
  simp only [if_neg g1, if_neg g2, if_neg g3, if_neg g4, if_neg g5, if_neg g6, g7, decide_false]
  obtain ⟨i, rfl⟩ : ∃ x : Nat, i = x := ⟨i.toNat, by omega⟩
  obtain ⟨j, rfl⟩ : ∃ x : Nat, j = x := ⟨j.toNat, by omega⟩
  obtain ⟨m, rfl⟩ : ∃ x : Nat, m = x := ⟨m.toNat, by omega⟩
  have hE : ∀ (x y : Nat), x ≤ s.length → y ≤ s.length → endR' s (x : Int) (y : Int) = cmpL (s.drop x) (s.drop y) := fun x y hx hy => by unfold endR'; rw [if_pos (by omega)]; simp
  refine Ev.step (fun k => by rw [whorllaw4_LexOrder.j0]) ?_
  simp only [if_neg (show ¬ false = true by decide), lex_Endings_eq s hb, Option.bind_some]
  rw [hE i j (by omega) (by omega), hE j m (by omega) (by omega), hE i m (by omega) (by omega), hE j i (by omega) (by omega), cmpL_anti (s.drop i) (s.drop j)]
  have ha := cmpL_vals (s.drop i) (s.drop j)
  have hbv := cmpL_vals (s.drop j) (s.drop m)
  have hcv := cmpL_vals (s.drop i) (s.drop m)
  have hw : wrap64 (- - cmpL (s.drop i) (s.drop j)) = cmpL (s.drop i) (s.drop j) := by rw [Int.neg_neg, wrap64_id (by omega) (by omega)]
  simp only [hw, if_true]
  clear hw
  have hz : cmpL (s.drop i) (s.drop j) = 0 ↔ i = j := by
    rw [cmpL_zero]
    constructor
    · intro e
      exact Classical.byContradiction fun h => suf_ne (by omega) (by omega) h e
    · intro e; rw [e]
  have e1 : ((cmpL (s.drop i) (s.drop j) == 0) != ((i : Int) == j)) = false := by
    by_cases e : i = j
    · rw [show (cmpL (s.drop i) (s.drop j) == 0) = true by simpa using hz.2 e, show ((i : Int) == j) = true by rw [beq_iff_eq, e]]; rfl
    · rw [show (cmpL (s.drop i) (s.drop j) == 0) = false by simpa using fun h => e (hz.1 h), show ((i : Int) == j) = false by rw [beq_eq_false_iff_ne]; omega]; rfl
  rw [e1]
  refine Ev.step (fun k => by rw [whorllaw4_LexOrder.j1]) ?_
  simp only [if_neg (show ¬ false = true by decide)]
  have hj2 := order_j2 s (by omega) i j (by omega) (by omega)
  by_cases c1 : cmpL (s.drop i) (s.drop j) ≤ 0
  · by_cases c2 : cmpL (s.drop j) (s.drop m) ≤ 0
    · simp only [if_pos c1, if_pos c2]
      have c3 : ¬ cmpL (s.drop i) (s.drop m) > 0 := by
        intro c3
        have h3 : ltL (s.drop m) (s.drop i) := cmpL_gt.1 (by omega)
        rcases (show cmpL (s.drop i) (s.drop j) = -1 ∨ cmpL (s.drop i) (s.drop j) = 0 by omega) with a | a
        · rcases (show cmpL (s.drop j) (s.drop m) = -1 ∨ cmpL (s.drop j) (s.drop m) = 0 by omega) with b | b
          · exact ltL_asymm (ltL_trans a b) h3
          · rw [cmpL_eq b] at a; exact ltL_asymm a h3
        · rw [cmpL_eq a] at h3
          rcases (show cmpL (s.drop j) (s.drop m) = -1 ∨ cmpL (s.drop j) (s.drop m) = 0 by omega) with b | b
          · exact ltL_asymm b h3
          · rw [cmpL_eq b] at h3; exact ltL_irrefl _ h3
      rw [show decide (cmpL (s.drop i) (s.drop m) > 0) = false by simpa using c3]
      exact hj2
    · simp only [if_pos c1, if_neg c2]; exact hj2
  · simp only [if_neg c1]; exact hj2

end Go.Proofs.Ytedbajpmndbilaa.Pure
