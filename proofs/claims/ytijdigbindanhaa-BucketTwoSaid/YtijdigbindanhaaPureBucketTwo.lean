/- BucketTwo: what the statement BucketTwo says of the printed functions, proved for every input that its guards let in. Conditions: none beside the statement's own. -/
import Derived.Test.YtijdigbindanhaaHBucketTwox3
import Derived.Test.YtijdigbindanhaaMBucketTwo
set_option linter.unusedVariables false
set_option linter.unusedSimpArgs false
namespace Go.Proofs.Ytijdigbindanhaa.Pure
open Go Go.RowKit Go.Proofs.Ytijdigbindanhaa.PBucketTwo Go.Proofs.YtijdigbindanhaaW.PrintWords Go.Proofs.YtijdigbindanhaaW.PrintLast Go.Proofs.Ytijdigbindanhaa.MM

-- math: W Base Perm Stab
def okKeys (keys : List Int) (k : Int) : Prop := 0 ≤ k ∧ k ≤ 1048576 ∧ ∀ x ∈ keys, 0 ≤ x ∧ x < k

instance (keys : List Int) (k : Int) : Decidable (okKeys keys k) := by unfold okKeys; infer_instance

def countsR (keys : List Int) (k : Int) : List Int × Bool := if okKeys keys k then (cntsOf id keys k.toNat, true) else ([], false)

theorem bucket_Counts_l0 (keys : List Int) (k : Int) (h0 : 0 ≤ k) (hk : k ≤ 1048576) (hn : keys.length ≤ 140737488355328) : ∀ (d i : Nat) (l : List Int), i + d = keys.length → l.length = k.toNat → (∀ c, c < k.toNat → l.getD c 0 = (kcnt id (keys.take i) c : Int)) →
    (∀ x ∈ keys.take i, 0 ≤ x ∧ x < k) → Ev (fun j => bucket_Counts.l0 j k l keys (keys.length : Int) (i : Int)) (countsR keys k) := by
  intro d
  induction d with
  | zero =>
    intro i l hd hl h hr
    refine Ev.step (fun k => by rw [bucket_Counts.l0]) ?_
    rw [List.take_of_length_le (by omega)] at h hr
    simp only [if_neg (show ¬ (i : Int) < keys.length by omega)]
    rw [countsR, if_pos ⟨h0, hk, hr⟩, ext_getD (a := l) (b := cntsOf id keys k.toNat) (by rw [hl, cntsOf_length]) (fun c hc => by rw [cntsOf_get (by omega), h c (by omega)])]
    exact Ev.now _
  | succ d ih =>
    intro i l hd hl h hr
    have hi : i < keys.length := by omega
    refine Ev.step (fun k => by rw [bucket_Counts.l0]) ?_
    simp only [if_pos (show (i : Int) < keys.length by omega), if_pos (show 0 ≤ (i : Int) by omega), rd_nat, wrap_nat hi hn]
    by_cases h1 : keys.getD i 0 < 0
    · simp only [if_pos h1]
      rw [countsR, if_neg (fun hq => by have := hq.2.2 _ (getD_mem hi); omega)]
      exact Ev.now _
    by_cases h2 : keys.getD i 0 ≥ k
    · simp only [if_neg h1, if_pos h2]
      rw [countsR, if_neg (fun hq => by have := hq.2.2 _ (getD_mem hi); omega)]
      exact Ev.now _
    have h3 := h (keys.getD i 0).toNat (by omega)
    have hle : kcnt id (keys.take i) (keys.getD i 0).toNat ≤ keys.length := Nat.le_trans kcnt_le (by rw [List.length_take]; omega)
    simp only [if_neg h1, if_neg h2, if_pos (show 0 ≤ keys.getD i 0 by omega), if_pos (show keys.getD i 0 < l.length by omega), rd, h3]
    rw [wrap64_id (by omega) (by omega)]
    refine ih (i + 1) _ (by omega) (by rw [List.length_set, hl]) (fun c hc => ?_) (fun x hx => ?_)
    · rw [lset (by omega), kcnt_next hi, id]
      by_cases e : (keys.getD i 0).toNat = c
      · rw [if_pos e, if_pos (by omega), ← e]; rfl
      · rw [if_neg e, if_neg (by omega)]; exact h c hc
    · rw [take_next hi, List.mem_append, List.mem_singleton] at hx
      rcases hx with hx | hx
      · exact hr x hx
      · omega

theorem bucket_Counts_ev (keys : List Int) (k : Int) (hn : keys.length ≤ 140737488355328) : Ev (fun j => bucket_Counts.f j keys k) (countsR keys k) := by
  have hno : ¬ (0 ≤ k ∧ k ≤ 1048576) → Ev (fun j => bucket_Counts.j0 j keys k true) (countsR keys k) := fun hno => by
    rw [countsR, if_neg (fun hq => hno ⟨hq.1, hq.2.1⟩)]
    refine Ev.step (fun k => by rw [bucket_Counts.j0]) ?_
    simp only [if_true]
    exact Ev.now _
  refine Ev.congr (fun k => by rw [bucket_Counts.f]) ?_
  by_cases h1 : k < 0
  · simp only [if_pos h1]; exact hno (by omega)
  by_cases h2 : k > 1048576
  · simp only [if_neg h1, h2, decide_true]; exact hno (by omega)
  simp only [if_neg h1, h2, decide_false]
  refine Ev.step (fun k => by rw [bucket_Counts.j0]) ?_
  simp only [if_neg (show ¬ false = true by decide), if_pos (show 0 ≤ k by omega), if_pos (show k.toNat ≤ 35184372088832 by omega)]
  exact bucket_Counts_l0 keys k (by omega) (by omega) hn keys.length 0 _ (by omega) (by simp) (fun c hc => by rw [getD_replicate]; simp [kcnt]) (by simp)

def sumsOk (l : List Int) : Prop := ∀ i, i ≤ l.length → -9223372036854775808 ≤ (l.take i).sum ∧ (l.take i).sum < 9223372036854775808

theorem bucket_Starts_l0 (c : List Int) (hn : c.length ≤ 140737488355328) (hs : sumsOk c) : ∀ (d i : Nat) (l : List Int), i + d = c.length → l.length = c.length → (∀ j, j < i → l.getD j 0 = (c.take j).sum) →
    Ev (fun j => bucket_Starts.l0 j l (c.take i).sum c (c.length : Int) (i : Int)) (startsOf c) := by
  intro d
  induction d with
  | zero =>
    intro i l hd hl h
    refine Ev.step (fun k => by rw [bucket_Starts.l0]) ?_
    simp only [if_neg (show ¬ (i : Int) < c.length by omega)]
    rw [ext_getD (a := l) (b := startsOf c) (by rw [hl, startsOf_length]) (fun j hj => by rw [startsOf_get (by omega), h j (by omega)])]
    exact Ev.now _
  | succ d ih =>
    intro i l hd hl h
    have hi : i < c.length := by omega
    refine Ev.step (fun k => by rw [bucket_Starts.l0]) ?_
    have hw := hs (i + 1) (by omega)
    rw [sum_next hi] at hw
    simp only [if_pos (show (i : Int) < c.length by omega), if_pos (show 0 ≤ (i : Int) by omega), if_pos (show (i : Int) < l.length by omega), rd_nat, wrap_nat hi hn, Int.toNat_natCast]
    rw [wrap64_id hw.1 hw.2, ← sum_next hi]
    refine ih (i + 1) _ (by omega) (by rw [List.length_set, hl]) (fun j hj => ?_)
    rw [lset (by omega)]
    by_cases e : i = j
    · rw [if_pos e, e]
    · rw [if_neg e]; exact h j (by omega)

theorem bucket_Starts_ev (c : List Int) (hn : c.length ≤ 35184372088832) (hs : sumsOk c) : Ev (fun j => bucket_Starts.f j c) (startsOf c) := by
  refine Ev.congr (fun k => by rw [bucket_Starts.f]) ?_
  simp only [Int.toNat_natCast]
  simp only [if_pos (show 0 ≤ (c.length : Int) by omega), if_pos hn]
  exact bucket_Starts_l0 c (by omega) hs c.length 0 _ (by omega) (by simp) (fun j hj => by omega)

theorem cnts_sumsOk {kf : Int → Int} {o : List Int} {k : Nat} (hr : ∀ x ∈ o, 0 ≤ kf x ∧ kf x < (k : Int)) (hn : o.length ≤ 140737488355328) : sumsOk (cntsOf kf o k) := by
  intro i hi
  rw [cntsOf_length] at hi
  rw [cnts_sum hi]
  have h2 := stab_all hr
  have h3 : (stab kf o i).length ≤ (stab kf o k).length := by
    rcases Nat.lt_or_ge i k with h | h
    · have := stab_mono (kf := kf) (o := o) h; omega
    · rw [show i = k by omega]; omega
  omega

/-- a place's key -/
def keyOf (keys : List Int) (i : Int) : Int := keys.getD i.toNat 0

def okPass (o keys : List Int) (k : Int) : Prop := okKeys keys k ∧ ∀ x ∈ o, 0 ≤ x ∧ x < (keys.length : Int)

instance (o keys : List Int) (k : Int) : Decidable (okPass o keys k) := by unfold okPass; infer_instance

def passR (o keys : List Int) (k : Int) : List Int × Bool := if okPass o keys k then (stab (keyOf keys) o k.toNat, true) else ([], false)

theorem key_ok {keys : List Int} {k : Int} (h : okKeys keys k) {x : Int} (h0 : 0 ≤ x) (h1 : x < keys.length) : 0 ≤ keyOf keys x ∧ keyOf keys x < k := h.2.2 _ (getD_mem (by omega))

theorem bucket_Pass_l1 (o keys : List Int) (k : Int) (hok : okPass o keys k) (hn : o.length ≤ 140737488355328) : ∀ (d i : Nat) (at_ l : List Int), i + d = o.length → at_.length = k.toNat → l.length = o.length →
    (∀ c, c < k.toNat → at_.getD c 0 = ((stab (keyOf keys) o c).length + kcnt (keyOf keys) (o.take i) c : Nat)) →
    (∀ c r, c < k.toNat → r < kcnt (keyOf keys) (o.take i) c → l.getD ((stab (keyOf keys) o c).length + r) 0 = (o.filter (fun i => keyOf keys i == (c : Int))).getD r 0) →
    Ev (fun j => bucket_Pass.l1 j keys at_ l o (o.length : Int) (i : Int)) (stab (keyOf keys) o k.toNat, true) := by
  have h0k : 0 ≤ k := hok.1.1
  have hko : ∀ x ∈ o, 0 ≤ keyOf keys x ∧ keyOf keys x < (k.toNat : Int) := fun x hx => by
    have h1 := hok.2 x hx
    have := key_ok hok.1 h1.1 h1.2
    omega
  intro d
  induction d with
  | zero =>
    intro i at_ l hd ha hl hat h
    refine Ev.step (fun k => by rw [bucket_Pass.l1]) ?_
    rw [List.take_of_length_le (by omega)] at h
    simp only [if_neg (show ¬ (i : Int) < o.length by omega)]
    rw [stab_ext (l := l) (by rw [hl, stab_all hko]) (fun c r hc hr => h c r hc hr)]
    exact Ev.now _
  | succ d ih =>
    intro i at_ l hd ha hl hat h
    have hi : i < o.length := by omega
    have hx := hok.2 _ (getD_mem hi)
    have hk := key_ok hok.1 hx.1 hx.2
    obtain ⟨c, hc⟩ : ∃ c : Nat, keyOf keys (o.getD i 0) = c := ⟨(keyOf keys (o.getD i 0)).toNat, by omega⟩
    have hck : c < k.toNat := by omega
    have hcl := kcnt_lt hi hc
    have hmo := stab_mono (kf := keyOf keys) (o := o) hck
    rw [stab_all hko] at hmo
    have h3 := hat c hck
    have e1 : rd keys (o.getD i 0) = (c : Int) := hc
    refine Ev.step (fun k => by rw [bucket_Pass.l1]) ?_
    simp only [if_pos (show (i : Int) < o.length by omega), if_pos (show 0 ≤ (i : Int) by omega), rd_nat, wrap_nat hi hn, if_pos hx.1, if_pos hx.2, e1, if_pos (show (0 : Int) ≤ (c : Int) by omega), if_pos (show (c : Int) < at_.length by omega), h3, Int.toNat_natCast]
    simp only [if_pos (show (0 : Int) ≤ (((stab (keyOf keys) o c).length + kcnt (keyOf keys) (o.take i) c : Nat) : Int) by omega), if_pos (show (((stab (keyOf keys) o c).length + kcnt (keyOf keys) (o.take i) c : Nat) : Int) < l.length by omega)]
    rw [wrap64_id (by omega) (by omega)]
    refine ih (i + 1) _ _ (by omega) (by rw [List.length_set, ha]) (by rw [List.length_set, hl]) (fun c' hc' => ?_) (fun c' r hc' hr => ?_)
    · rw [lset (by omega), kcnt_next hi, hc]
      by_cases e : c = c'
      · rw [if_pos e, if_pos (by omega), e]; omega
      · rw [if_neg e, if_neg (by omega)]; exact hat c' hc'
    · rw [lset (by omega)]
      rw [kcnt_next hi, hc] at hr
      by_cases e : c = c'
      · subst e
        rw [if_pos rfl] at hr
        by_cases e2 : r = kcnt (keyOf keys) (o.take i) c
        · rw [if_pos (by omega), e2, filter_at hi hc]
        · rw [if_neg (by omega)]; exact h c r hck (by omega)
      · rw [if_neg (by omega)] at hr
        have hr' : r < kcnt (keyOf keys) o c' := Nat.lt_of_lt_of_le (by omega) (kcnt_take i)
        rw [if_neg ?_]
        · exact h c' r hc' (by omega)
        · intro he
          rcases Nat.lt_or_ge c c' with hlt | hge
          · have := stab_mono (kf := keyOf keys) (o := o) hlt; omega
          · have := stab_mono (kf := keyOf keys) (o := o) (show c' < c by omega); omega

theorem bucket_Pass_l0 (o keys : List Int) (k : Int) (hok : okKeys keys k) (hn : o.length ≤ 35184372088832) : ∀ (d i : Nat) (l : List Int), i + d = o.length → l.length = k.toNat → (∀ c, c < k.toNat → l.getD c 0 = (kcnt (keyOf keys) (o.take i) c : Int)) →
    (∀ x ∈ o.take i, 0 ≤ x ∧ x < (keys.length : Int)) → Ev (fun j => bucket_Pass.l0 j o keys l o (o.length : Int) (i : Int)) (passR o keys k) := by
  have h0k : 0 ≤ k := hok.1
  have hkm : k ≤ 1048576 := hok.2.1
  intro d
  induction d with
  | zero =>
    intro i l hd hl h hr
    rw [List.take_of_length_le (by omega)] at h hr
    have hp : okPass o keys k := ⟨hok, hr⟩
    have hko : ∀ x ∈ o, 0 ≤ keyOf keys x ∧ keyOf keys x < (k.toNat : Int) := fun x hx => by
      have h1 := hr x hx
      have := key_ok hok h1.1 h1.2
      omega
    have hle : l = cntsOf (keyOf keys) o k.toNat := ext_getD (by rw [hl, cntsOf_length]) (fun c hc => by rw [cntsOf_get (by omega), h c (by omega)])
    refine Ev.step (fun k => by rw [bucket_Pass.l0]) ?_
    simp only [if_neg (show ¬ (i : Int) < o.length by omega)]
    refine Ev.bind (bucket_Starts_ev l (by omega) (by rw [hle]; exact cnts_sumsOk hko (by omega))) ?_
    simp only [Int.toNat_natCast]
    simp only [if_pos (show 0 ≤ (o.length : Int) by omega), if_pos hn]
    rw [passR, if_pos hp]
    refine bucket_Pass_l1 o keys k hp (by omega) o.length 0 _ _ (by omega) (by rw [startsOf_length, hl]) (by simp) (fun c hc => ?_) (fun c r hc hr2 => ?_)
    · rw [startsOf_get (by omega), hle, cnts_sum (by omega)]; simp [kcnt]
    · simp [kcnt] at hr2
  | succ d ih =>
    intro i l hd hl h hr
    have hi : i < o.length := by omega
    refine Ev.step (fun k => by rw [bucket_Pass.l0]) ?_
    simp only [if_pos (show (i : Int) < o.length by omega), if_pos (show 0 ≤ (i : Int) by omega), rd_nat, wrap_nat hi (show o.length ≤ 140737488355328 by omega)]
    by_cases h1 : o.getD i 0 < 0
    · simp only [if_pos h1]
      rw [passR, if_neg (fun hq => by have := hq.2 _ (getD_mem hi); omega)]
      exact Ev.now _
    by_cases h2 : o.getD i 0 ≥ keys.length
    · simp only [if_neg h1, if_pos h2]
      rw [passR, if_neg (fun hq => by have := hq.2 _ (getD_mem hi); omega)]
      exact Ev.now _
    have hk := key_ok hok (x := o.getD i 0) (by omega) (by omega)
    obtain ⟨c, hc⟩ : ∃ c : Nat, keyOf keys (o.getD i 0) = c := ⟨(keyOf keys (o.getD i 0)).toNat, by omega⟩
    have e1 : rd keys (o.getD i 0) = (c : Int) := hc
    have h3 := h c (by omega)
    have hle : kcnt (keyOf keys) (o.take i) c ≤ o.length := Nat.le_trans kcnt_le (by rw [List.length_take]; omega)
    simp only [if_neg h1, if_neg h2, if_pos (show 0 ≤ o.getD i 0 by omega), if_pos (show o.getD i 0 < keys.length by omega), e1, if_pos (show (0 : Int) ≤ (c : Int) by omega), if_pos (show (c : Int) < l.length by omega), rd_nat, h3, Int.toNat_natCast]
    rw [wrap64_id (by omega) (by omega)]
    refine ih (i + 1) _ (by omega) (by rw [List.length_set, hl]) (fun c' hc' => ?_) (fun x hx => ?_)
    · rw [lset (by omega), kcnt_next hi, hc]
      by_cases e : c = c'
      · rw [if_pos e, if_pos (by omega), ← e]; rfl
      · rw [if_neg e, if_neg (by omega)]; exact h c' hc'
    · rw [take_next hi, List.mem_append, List.mem_singleton] at hx
      rcases hx with hx | hx
      · exact hr x hx
      · omega

theorem bucket_Pass_ev (o keys : List Int) (k : Int) (hn : o.length ≤ 35184372088832) (hm : keys.length ≤ 140737488355328) : Ev (fun j => bucket_Pass.f j o keys k) (passR o keys k) := by
  refine Ev.congr (fun k => by rw [bucket_Pass.f]) ?_
  refine Ev.bind (bucket_Counts_ev keys k hm) ?_
  by_cases hok : okKeys keys k
  · rw [countsR, if_pos hok]
    have h1 := hok.1
    have h2 := hok.2.1
    simp only [if_true, if_pos h1, if_pos (show k.toNat ≤ 35184372088832 by omega)]
    exact bucket_Pass_l0 o keys k hok hn o.length 0 _ (by omega) (by simp) (fun c hc => by rw [getD_replicate]; simp [kcnt]) (by simp)
  · rw [countsR, if_neg hok]
    simp only [if_neg (show ¬ false = true by decide)]
    rw [passR, if_neg (fun hq => hok hq.1)]
    exact Ev.now _


-- math: W Base Perm
theorem ref4_Ints_l0 (a b : List Int) (hl : a.length = b.length) (hn : a.length ≤ 140737488355328) : ∀ (d i : Nat), i + d = a.length → (∀ j, j < i → a.getD j 0 = b.getD j 0) → Ev (fun k => whorlref4_Ints.l0 k a b (i : Int)) (decide (a = b)) := by
  intro d
  induction d with
  | zero =>
    intro i hd h
    refine Ev.step (fun k => by rw [whorlref4_Ints.l0]) ?_
    simp only [if_neg (show ¬ (i : Int) < a.length by omega)]
    rw [decide_eq_true (ext_getD hl (fun j hj => h j (by omega)))]
    exact Ev.now _
  | succ d ih =>
    intro i hd h
    have hi : i < a.length := by omega
    refine Ev.step (fun k => by rw [whorlref4_Ints.l0]) ?_
    simp only [if_pos (show (i : Int) < a.length by omega), if_pos (show 0 ≤ (i : Int) by omega), if_pos (show (i : Int) < b.length by omega), rd_nat, wrap_nat hi hn]
    by_cases e : a.getD i 0 = b.getD i 0
    · simp only [if_pos e]
      refine ih (i + 1) (by omega) (fun j hj => ?_)
      by_cases e2 : j = i
      · rw [e2]; exact e
      · exact h j (by omega)
    · simp only [if_neg e]
      rw [decide_eq_false (fun hab => e (by rw [hab]))]
      exact Ev.now _

theorem ref4_Ints_ev (a b : List Int) (hn : a.length ≤ 140737488355328) : Ev (fun k => whorlref4_Ints.f k a b) (decide (a = b)) := by
  refine Ev.congr (fun k => by rw [whorlref4_Ints.f]) ?_
  by_cases e : a.length = b.length
  · simp only [if_pos (show (a.length : Int) = b.length by omega)]
    exact ref4_Ints_l0 a b e hn a.length 0 (by omega) (fun j hj => by omega)
  · simp only [if_neg (show ¬ (a.length : Int) = b.length by omega)]
    rw [decide_eq_false (fun hab => e (by rw [hab]))]
    exact Ev.now _

-- with: bucket ref4_Ints
theorem known_ev : Ev (fun k => whorllaw10_known.f k) true := by
  refine Ev.congr (fun k => by rw [whorllaw10_known.f]) ?_
  refine Ev.bind (bucket_Pass_ev _ _ _ (by decide) (by decide)) ?_
  have e : passR [0, 1, 2] [1, 0, 1] 2 = ([1, 0, 2], true) := by decide
  simp only [e, if_true]
  refine Ev.bind (ref4_Ints_ev _ _ (by decide)) ?_
  exact Ev.now _


-- math: Kinds
-- fn: known10
def two (high low : List Int) (x y : Int) : Prop := keyOf high x < keyOf high y ∨ (keyOf high x = keyOf high y ∧ (keyOf low x < keyOf low y ∨ (keyOf low x = keyOf low y ∧ x < y)))

theorem two_l1 (high low b : List Int) (n : Nat) (hn : n ≤ 100) (hh : high.length = n) (hl : low.length = n) (hb : b.length = n) (hm : ∀ x ∈ b, 0 ≤ x ∧ x < (n : Int)) (hp : b.Pairwise (two high low)) :
    ∀ (d i : Nat), n ≤ i + d → 0 < i → Ev (fun k => whorllaw10_BucketTwo.l1 k high low (n : Int) b (i : Int)) true := by
  intro d
  induction d with
  | zero =>
    intro i hd h0
    refine Ev.step (fun k => by rw [whorllaw10_BucketTwo.l1]) ?_
    simp only [if_neg (show ¬ (i : Int) < n by omega)]
    exact Ev.bind known_ev (Ev.now _)
  | succ d ih =>
    intro i hd h0
    by_cases hi : i < n
    · have ih := ih (i + 1) (by omega) (by omega)
      have hx := hm _ (getD_mem (show i - 1 < b.length by omega))
      have hy := hm _ (getD_mem (show i < b.length by omega))
      have hr := pair_getD hp (show i - 1 < i by omega) (by omega)
      refine Ev.step (fun k => by rw [whorllaw10_BucketTwo.l1]) ?_
      have w : wrap64 ((i : Int) - 1) = ((i - 1 : Nat) : Int) := by rw [wrap64_id (by omega) (by omega)]; omega
      simp only [w, rd_nat]
      clear w
      generalize b.getD (i - 1) 0 = x at hx hr
      generalize b.getD i 0 = y at hy hr
      simp only [wrap_nat hi (show n ≤ 140737488355328 by omega), if_pos (show (i : Int) < n by omega), if_pos (show (0 : Int) ≤ ((i - 1 : Nat) : Int) by omega), if_pos (show ((i - 1 : Nat) : Int) < b.length by omega), if_pos (show 0 ≤ (i : Int) by omega), if_pos (show (i : Int) < b.length by omega),
        if_neg (show ¬ x < 0 by omega), if_neg (show ¬ x ≥ n by omega), if_neg (show ¬ y < 0 by omega), if_neg (show ¬ y ≥ n by omega), if_pos hx.1, if_pos hy.1, hh, hl, if_pos hx.2, if_pos hy.2]
      have ex : rd high x = keyOf high x := rfl
      have ey : rd high y = keyOf high y := rfl
      have lx : rd low x = keyOf low x := rfl
      have ly : rd low y = keyOf low y := rfl
      rw [ex, ey, lx, ly]
      have hj : Ev (fun k => whorllaw10_BucketTwo.j5 k high low (n : Int) b (i : Int) false) true := by
        refine Ev.step (fun k => by rw [whorllaw10_BucketTwo.j5]) ?_
        simp only [if_neg (show ¬ false = true by decide), wrap_nat (show i < n by omega) (show n ≤ 140737488355328 by omega)]
        exact ih
      unfold two at hr
      rcases hr with h1 | ⟨h1, h2 | ⟨h2, h3⟩⟩
      · simp only [if_neg (show ¬ keyOf high x > keyOf high y by omega), if_neg (show ¬ keyOf high x = keyOf high y by omega)]
        exact hj
      · simp only [if_neg (show ¬ keyOf high x > keyOf high y by omega), if_pos h1, if_neg (show ¬ keyOf low x > keyOf low y by omega), if_neg (show ¬ keyOf low x = keyOf low y by omega)]
        exact hj
      · simp only [if_neg (show ¬ keyOf high x > keyOf high y by omega), if_pos h1, if_neg (show ¬ keyOf low x > keyOf low y by omega), if_pos h2, decide_eq_false (show ¬ x ≥ y by omega)]
        exact hj
    · refine Ev.step (fun k => by rw [whorllaw10_BucketTwo.l1]) ?_
      simp only [if_neg (show ¬ (i : Int) < n by omega)]
      exact Ev.bind known_ev (Ev.now _)

theorem two_l0 (high low : List Int) (n : Nat) (hn : n ≤ 100) (hh : high.length = n) (hl : low.length = n) : ∀ (d i : Nat), i + d = n → (∀ x ∈ high.take i, 0 ≤ x ∧ x ≤ 99) → (∀ x ∈ low.take i, 0 ≤ x ∧ x ≤ 99) →
    Ev (fun k => whorllaw10_BucketTwo.l0 k high low (n : Int) (iota i) (i : Int)) true := by
  intro d
  induction d with
  | zero =>
    intro i hd h1 h2
    obtain rfl : i = n := by omega
    rw [List.take_of_length_le (by omega)] at h1 h2
    refine Ev.step (fun k => by rw [whorllaw10_BucketTwo.l0]) ?_
    simp only [if_neg (show ¬ (i : Int) < i by omega)]
    have kl : okKeys low 100 := ⟨by decide, by decide, fun x hx => by have := h2 x hx; omega⟩
    have kh : okKeys high 100 := ⟨by decide, by decide, fun x hx => by have := h1 x hx; omega⟩
    refine Ev.bind (bucket_Pass_ev _ _ _ (by rw [iota_length]; omega) (by omega)) ?_
    have p1 : okPass (iota i) low 100 := ⟨kl, fun x hx => by rw [iota_mem] at hx; omega⟩
    have hk1 : ∀ x ∈ iota i, 0 ≤ keyOf low x ∧ keyOf low x < ((100 : Int).toNat : Int) := fun x hx => by
      rw [iota_mem] at hx; exact key_ok kl (by omega) (by omega)
    rw [passR, if_pos p1]
    have len1 : (stab (keyOf low) (iota i) (100 : Int).toNat).length = i := by rw [stab_all hk1, iota_length]
    refine Ev.bind (bucket_Pass_ev (stab (keyOf low) (iota i) (100 : Int).toNat) high 100 (by omega) (by omega)) ?_
    have p2 : okPass (stab (keyOf low) (iota i) (100 : Int).toNat) high 100 := ⟨kh, fun x hx => by
      have := (stab_mem.1 hx).1; rw [iota_mem] at this; omega⟩
    have hk2 : ∀ x ∈ stab (keyOf low) (iota i) (100 : Int).toNat, 0 ≤ keyOf high x ∧ keyOf high x < ((100 : Int).toNat : Int) := fun x hx => by
      have := (stab_mem.1 hx).1; rw [iota_mem] at this; exact key_ok kh (by omega) (by omega)
    rw [passR, if_pos p2]
    have len2 : (stab (keyOf high) (stab (keyOf low) (iota i) (100 : Int).toNat) (100 : Int).toNat).length = i := by rw [stab_all hk2, len1]
    simp only [if_true, len2, bne_self_eq_false]
    refine Ev.step (fun k => by rw [whorllaw10_BucketTwo.j3]) ?_
    simp only [if_neg (show ¬ false = true by decide)]
    refine two_l1 high low _ i hn hh hl len2 (fun x hx => ?_) (stab_pairwise (stab_pairwise (iota_rises i) _) _) i 1 (by omega) (by omega)
    have := (stab_mem.1 (stab_mem.1 hx).1).1; rw [iota_mem] at this; exact this
  | succ d ih =>
    intro i hd h1 h2
    have hi : i < n := by omega
    have hg : Ev (fun k => whorllaw10_BucketTwo.j2 k high low (n : Int) (iota i) (i : Int) true) true := Ev.step (fun k => by rw [whorllaw10_BucketTwo.j2]) (by simp only [if_true]; exact Ev.now _)
    refine Ev.step (fun k => by rw [whorllaw10_BucketTwo.l0]) ?_
    simp only [if_pos (show (i : Int) < n by omega), if_pos (show 0 ≤ (i : Int) by omega), hh, hl, rd_nat]
    by_cases g1 : high.getD i 0 < 0
    · simp only [if_pos g1]; exact hg
    by_cases g2 : high.getD i 0 > 99
    · simp only [if_neg g1, if_pos g2]; exact hg
    by_cases g3 : low.getD i 0 < 0
    · simp only [if_neg g1, if_neg g2, if_pos g3]; exact hg
    by_cases g4 : low.getD i 0 > 99
    · simp only [if_neg g1, if_neg g2, if_neg g3, decide_eq_true g4]; exact hg
    simp only [if_neg g1, if_neg g2, if_neg g3, decide_eq_false g4]
    refine Ev.step (fun k => by rw [whorllaw10_BucketTwo.j2]) ?_
    simp only [if_neg (show ¬ false = true by decide), iota_length, if_pos (show i < 17592186044416 by omega), wrap_nat hi (show n ≤ 140737488355328 by omega)]
    rw [← iota_succ]
    refine ih (i + 1) (by omega) (fun x hx => ?_) (fun x hx => ?_)
    · rw [take_next (by omega), List.mem_append, List.mem_singleton] at hx
      rcases hx with hx | hx
      · exact h1 x hx
      · omega
    · rw [take_next (by omega), List.mem_append, List.mem_singleton] at hx
      rcases hx with hx | hx
      · exact h2 x hx
      · omega

theorem BucketTwo : whorllaw10_BucketTwo.Pure := by
  intro high low h1 h2 h3 h4 h5 h6
  refine Ev.rounds ?_
  have hg : Ev (fun k => whorllaw10_BucketTwo.j0 k high low (high.length : Int) true) true := Ev.step (fun k => by rw [whorllaw10_BucketTwo.j0]) (by simp only [if_true]; exact Ev.now _)
  refine Ev.congr (fun k => by rw [whorllaw10_BucketTwo.f]) ?_
  by_cases g1 : (high.length : Int) > 100
  · simp only [if_pos g1]; exact hg
  by_cases g2 : low.length = high.length
  · simp only [if_neg g1, g2, bne_self_eq_false]
    refine Ev.step (fun k => by rw [whorllaw10_BucketTwo.j0]) ?_
    simp only [if_neg (show ¬ false = true by decide)]
    exact two_l0 high low high.length (by omega) rfl g2 high.length 0 (by omega) (by simp) (by simp)
  · have e : ((low.length : Int) != (high.length : Int)) = true := by rw [bne_iff_ne]; omega
    simp only [if_neg g1, e]; exact hg

end Go.Proofs.Ytijdigbindanhaa.Pure
