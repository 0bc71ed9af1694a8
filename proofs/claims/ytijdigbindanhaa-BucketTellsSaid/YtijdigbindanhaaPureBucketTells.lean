/- BucketTells: what the statement BucketTells says of the printed functions, proved for every input that its guards let in. Conditions: none beside the statement's own. -/
import Derived.Test.YtijdigbindanhaaHBucketTellsx4
import Derived.Test.YtijdigbindanhaaMBucketTells
set_option linter.unusedVariables false
set_option linter.unusedSimpArgs false
namespace Go.Proofs.Ytijdigbindanhaa.Pure
open Go Go.RowKit Go.Proofs.Ytijdigbindanhaa.PBucketTells Go.Proofs.YtijdigbindanhaaW.PrintWords Go.Proofs.YtijdigbindanhaaW.PrintLast Go.Proofs.Ytijdigbindanhaa.MM

-- math: W Base Perm Stab
def okKeys (keys : List Int) (k : Int) : Prop := 0 ≤ k ∧ k ≤ 1048576 ∧ ∀ x ∈ keys, 0 ≤ x ∧ x < k

instance (keys : List Int) (k : Int) : Decidable (okKeys keys k) := by unfold okKeys; infer_instance

def countsR (keys : List Int) (k : Int) : List Int × Bool := if okKeys keys k then (cntsOf id keys k.toNat, true) else ([], false)

theorem bucket_Counts_l0 (keys : List Int) (k : Int) (h0 : 0 ≤ k) (hk : k ≤ 1048576) (hn : keys.length ≤ 140737488355328) : ∀ (d i : Nat) (l : List Int), i + d = keys.length → l.length = k.toNat → (∀ c, c < k.toNat → l.getD c 0 = (kcnt id (keys.take i) c : Int)) →
    (∀ x ∈ keys.take i, 0 ≤ x ∧ x < k) → Ev (fun j => bucket_Counts.l0 j k l keys (keys.length : Int) (i : Int)) (countsR keys k) := by
  intro d
  induction d with
  | zero =>
    intro i l hd hl h hr
    refine Ev.step (fun k => by rw [bucket_Counts.l0]) ?_
    rw [List.take_of_length_le (by omega)] at h hr
    simp only [if_neg (show ¬ (i : Int) < keys.length by omega)]
    rw [countsR, if_pos ⟨h0, hk, hr⟩, ext_getD (a := l) (b := cntsOf id keys k.toNat) (by rw [hl, cntsOf_length]) (fun c hc => by rw [cntsOf_get (by omega), h c (by omega)])]
    exact Ev.now _
  | succ d ih =>
    intro i l hd hl h hr
    have hi : i < keys.length := by omega
    refine Ev.step (fun k => by rw [bucket_Counts.l0]) ?_
    simp only [if_pos (show (i : Int) < keys.length by omega), if_pos (show 0 ≤ (i : Int) by omega), rd_nat, wrap_nat hi hn]
    by_cases h1 : keys.getD i 0 < 0
    · simp only [if_pos h1]
      rw [countsR, if_neg (fun hq => by have := hq.2.2 _ (getD_mem hi); omega)]
      exact Ev.now _
    by_cases h2 : keys.getD i 0 ≥ k
    · simp only [if_neg h1, if_pos h2]
      rw [countsR, if_neg (fun hq => by have := hq.2.2 _ (getD_mem hi); omega)]
      exact Ev.now _
    have h3 := h (keys.getD i 0).toNat (by omega)
    have hle : kcnt id (keys.take i) (keys.getD i 0).toNat ≤ keys.length := Nat.le_trans kcnt_le (by rw [List.length_take]; omega)
    simp only [if_neg h1, if_neg h2, if_pos (show 0 ≤ keys.getD i 0 by omega), if_pos (show keys.getD i 0 < l.length by omega), rd, h3]
    rw [wrap64_id (by omega) (by omega)]
    refine ih (i + 1) _ (by omega) (by rw [List.length_set, hl]) (fun c hc => ?_) (fun x hx => ?_)
    · rw [lset (by omega), kcnt_next hi, id]
      by_cases e : (keys.getD i 0).toNat = c
      · rw [if_pos e, if_pos (by omega), ← e]; rfl
      · rw [if_neg e, if_neg (by omega)]; exact h c hc
    · rw [take_next hi, List.mem_append, List.mem_singleton] at hx
      rcases hx with hx | hx
      · exact hr x hx
      · omega

theorem bucket_Counts_ev (keys : List Int) (k : Int) (hn : keys.length ≤ 140737488355328) : Ev (fun j => bucket_Counts.f j keys k) (countsR keys k) := by
  have hno : ¬ (0 ≤ k ∧ k ≤ 1048576) → Ev (fun j => bucket_Counts.j0 j keys k true) (countsR keys k) := fun hno => by
    rw [countsR, if_neg (fun hq => hno ⟨hq.1, hq.2.1⟩)]
    refine Ev.step (fun k => by rw [bucket_Counts.j0]) ?_
    simp only [if_true]
    exact Ev.now _
  refine Ev.congr (fun k => by rw [bucket_Counts.f]) ?_
  by_cases h1 : k < 0
  · simp only [if_pos h1]; exact hno (by omega)
  by_cases h2 : k > 1048576
  · simp only [if_neg h1, h2, decide_true]; exact hno (by omega)
  simp only [if_neg h1, h2, decide_false]
  refine Ev.step (fun k => by rw [bucket_Counts.j0]) ?_
  simp only [if_neg (show ¬ false = true by decide), if_pos (show 0 ≤ k by omega), if_pos (show k.toNat ≤ 35184372088832 by omega)]
  exact bucket_Counts_l0 keys k (by omega) (by omega) hn keys.length 0 _ (by omega) (by simp) (fun c hc => by rw [getD_replicate]; simp [kcnt]) (by simp)

def sumsOk (l : List Int) : Prop := ∀ i, i ≤ l.length → -9223372036854775808 ≤ (l.take i).sum ∧ (l.take i).sum < 9223372036854775808

theorem bucket_Starts_l0 (c : List Int) (hn : c.length ≤ 140737488355328) (hs : sumsOk c) : ∀ (d i : Nat) (l : List Int), i + d = c.length → l.length = c.length → (∀ j, j < i → l.getD j 0 = (c.take j).sum) →
    Ev (fun j => bucket_Starts.l0 j l (c.take i).sum c (c.length : Int) (i : Int)) (startsOf c) := by
  intro d
  induction d with
  | zero =>
    intro i l hd hl h
    refine Ev.step (fun k => by rw [bucket_Starts.l0]) ?_
    simp only [if_neg (show ¬ (i : Int) < c.length by omega)]
    rw [ext_getD (a := l) (b := startsOf c) (by rw [hl, startsOf_length]) (fun j hj => by rw [startsOf_get (by omega), h j (by omega)])]
    exact Ev.now _
  | succ d ih =>
    intro i l hd hl h
    have hi : i < c.length := by omega
    refine Ev.step (fun k => by rw [bucket_Starts.l0]) ?_
    have hw := hs (i + 1) (by omega)
    rw [sum_next hi] at hw
    simp only [if_pos (show (i : Int) < c.length by omega), if_pos (show 0 ≤ (i : Int) by omega), if_pos (show (i : Int) < l.length by omega), rd_nat, wrap_nat hi hn, Int.toNat_natCast]
    rw [wrap64_id hw.1 hw.2, ← sum_next hi]
    refine ih (i + 1) _ (by omega) (by rw [List.length_set, hl]) (fun j hj => ?_)
    rw [lset (by omega)]
    by_cases e : i = j
    · rw [if_pos e, e]
    · rw [if_neg e]; exact h j (by omega)

theorem bucket_Starts_ev (c : List Int) (hn : c.length ≤ 35184372088832) (hs : sumsOk c) : Ev (fun j => bucket_Starts.f j c) (startsOf c) := by
  refine Ev.congr (fun k => by rw [bucket_Starts.f]) ?_
  simp only [Int.toNat_natCast]
  simp only [if_pos (show 0 ≤ (c.length : Int) by omega), if_pos hn]
  exact bucket_Starts_l0 c (by omega) hs c.length 0 _ (by omega) (by simp) (fun j hj => by omega)

theorem cnts_sumsOk {kf : Int → Int} {o : List Int} {k : Nat} (hr : ∀ x ∈ o, 0 ≤ kf x ∧ kf x < (k : Int)) (hn : o.length ≤ 140737488355328) : sumsOk (cntsOf kf o k) := by
  intro i hi
  rw [cntsOf_length] at hi
  rw [cnts_sum hi]
  have h2 := stab_all hr
  have h3 : (stab kf o i).length ≤ (stab kf o k).length := by
    rcases Nat.lt_or_ge i k with h | h
    · have := stab_mono (kf := kf) (o := o) h; omega
    · rw [show i = k by omega]; omega
  omega

/-- a place's key -/
def keyOf (keys : List Int) (i : Int) : Int := keys.getD i.toNat 0

def okPass (o keys : List Int) (k : Int) : Prop := okKeys keys k ∧ ∀ x ∈ o, 0 ≤ x ∧ x < (keys.length : Int)

instance (o keys : List Int) (k : Int) : Decidable (okPass o keys k) := by unfold okPass; infer_instance

def passR (o keys : List Int) (k : Int) : List Int × Bool := if okPass o keys k then (stab (keyOf keys) o k.toNat, true) else ([], false)

theorem key_ok {keys : List Int} {k : Int} (h : okKeys keys k) {x : Int} (h0 : 0 ≤ x) (h1 : x < keys.length) : 0 ≤ keyOf keys x ∧ keyOf keys x < k := h.2.2 _ (getD_mem (by omega))

theorem bucket_Pass_l1 (o keys : List Int) (k : Int) (hok : okPass o keys k) (hn : o.length ≤ 140737488355328) : ∀ (d i : Nat) (at_ l : List Int), i + d = o.length → at_.length = k.toNat → l.length = o.length →
    (∀ c, c < k.toNat → at_.getD c 0 = ((stab (keyOf keys) o c).length + kcnt (keyOf keys) (o.take i) c : Nat)) →
    (∀ c r, c < k.toNat → r < kcnt (keyOf keys) (o.take i) c → l.getD ((stab (keyOf keys) o c).length + r) 0 = (o.filter (fun i => keyOf keys i == (c : Int))).getD r 0) →
    Ev (fun j => bucket_Pass.l1 j keys at_ l o (o.length : Int) (i : Int)) (stab (keyOf keys) o k.toNat, true) := by
  have h0k : 0 ≤ k := hok.1.1
  have hko : ∀ x ∈ o, 0 ≤ keyOf keys x ∧ keyOf keys x < (k.toNat : Int) := fun x hx => by
    have h1 := hok.2 x hx
    have := key_ok hok.1 h1.1 h1.2
    omega
  intro d
  induction d with
  | zero =>
    intro i at_ l hd ha hl hat h
    refine Ev.step (fun k => by rw [bucket_Pass.l1]) ?_
    rw [List.take_of_length_le (by omega)] at h
    simp only [if_neg (show ¬ (i : Int) < o.length by omega)]
    rw [stab_ext (l := l) (by rw [hl, stab_all hko]) (fun c r hc hr => h c r hc hr)]
    exact Ev.now _
  | succ d ih =>
    intro i at_ l hd ha hl hat h
    have hi : i < o.length := by omega
    have hx := hok.2 _ (getD_mem hi)
    have hk := key_ok hok.1 hx.1 hx.2
    obtain ⟨c, hc⟩ : ∃ c : Nat, keyOf keys (o.getD i 0) = c := ⟨(keyOf keys (o.getD i 0)).toNat, by omega⟩
    have hck : c < k.toNat := by omega
    have hcl := kcnt_lt hi hc
    have hmo := stab_mono (kf := keyOf keys) (o := o) hck
    rw [stab_all hko] at hmo
    have h3 := hat c hck
    have e1 : rd keys (o.getD i 0) = (c : Int) := hc
    refine Ev.step (fun k => by rw [bucket_Pass.l1]) ?_
    simp only [if_pos (show (i : Int) < o.length by omega), if_pos (show 0 ≤ (i : Int) by omega), rd_nat, wrap_nat hi hn, if_pos hx.1, if_pos hx.2, e1, if_pos (show (0 : Int) ≤ (c : Int) by omega), if_pos (show (c : Int) < at_.length by omega), h3, Int.toNat_natCast]
    simp only [if_pos (show (0 : Int) ≤ (((stab (keyOf keys) o c).length + kcnt (keyOf keys) (o.take i) c : Nat) : Int) by omega), if_pos (show (((stab (keyOf keys) o c).length + kcnt (keyOf keys) (o.take i) c : Nat) : Int) < l.length by omega)]
    rw [wrap64_id (by omega) (by omega)]
    refine ih (i + 1) _ _ (by omega) (by rw [List.length_set, ha]) (by rw [List.length_set, hl]) (fun c' hc' => ?_) (fun c' r hc' hr => ?_)
    · rw [lset (by omega), kcnt_next hi, hc]
      by_cases e : c = c'
      · rw [if_pos e, if_pos (by omega), e]; omega
      · rw [if_neg e, if_neg (by omega)]; exact hat c' hc'
    · rw [lset (by omega)]
      rw [kcnt_next hi, hc] at hr
      by_cases e : c = c'
      · subst e
        rw [if_pos rfl] at hr
        by_cases e2 : r = kcnt (keyOf keys) (o.take i) c
        · rw [if_pos (by omega), e2, filter_at hi hc]
        · rw [if_neg (by omega)]; exact h c r hck (by omega)
      · rw [if_neg (by omega)] at hr
        have hr' : r < kcnt (keyOf keys) o c' := Nat.lt_of_lt_of_le (by omega) (kcnt_take i)
        rw [if_neg ?_]
        · exact h c' r hc' (by omega)
        · intro he
          rcases Nat.lt_or_ge c c' with hlt | hge
          · have := stab_mono (kf := keyOf keys) (o := o) hlt; omega
          · have := stab_mono (kf := keyOf keys) (o := o) (show c' < c by omega); omega

theorem bucket_Pass_l0 (o keys : List Int) (k : Int) (hok : okKeys keys k) (hn : o.length ≤ 35184372088832) : ∀ (d i : Nat) (l : List Int), i + d = o.length → l.length = k.toNat → (∀ c, c < k.toNat → l.getD c 0 = (kcnt (keyOf keys) (o.take i) c : Int)) →
    (∀ x ∈ o.take i, 0 ≤ x ∧ x < (keys.length : Int)) → Ev (fun j => bucket_Pass.l0 j o keys l o (o.length : Int) (i : Int)) (passR o keys k) := by
  have h0k : 0 ≤ k := hok.1
  have hkm : k ≤ 1048576 := hok.2.1
  intro d
  induction d with
  | zero =>
    intro i l hd hl h hr
    rw [List.take_of_length_le (by omega)] at h hr
    have hp : okPass o keys k := ⟨hok, hr⟩
    have hko : ∀ x ∈ o, 0 ≤ keyOf keys x ∧ keyOf keys x < (k.toNat : Int) := fun x hx => by
      have h1 := hr x hx
      have := key_ok hok h1.1 h1.2
      omega
    have hle : l = cntsOf (keyOf keys) o k.toNat := ext_getD (by rw [hl, cntsOf_length]) (fun c hc => by rw [cntsOf_get (by omega), h c (by omega)])
    refine Ev.step (fun k => by rw [bucket_Pass.l0]) ?_
    simp only [if_neg (show ¬ (i : Int) < o.length by omega)]
    refine Ev.bind (bucket_Starts_ev l (by omega) (by rw [hle]; exact cnts_sumsOk hko (by omega))) ?_
    simp only [Int.toNat_natCast]
    simp only [if_pos (show 0 ≤ (o.length : Int) by omega), if_pos hn]
    rw [passR, if_pos hp]
    refine bucket_Pass_l1 o keys k hp (by omega) o.length 0 _ _ (by omega) (by rw [startsOf_length, hl]) (by simp) (fun c hc => ?_) (fun c r hc hr2 => ?_)
    · rw [startsOf_get (by omega), hle, cnts_sum (by omega)]; simp [kcnt]
    · simp [kcnt] at hr2
  | succ d ih =>
    intro i l hd hl h hr
    have hi : i < o.length := by omega
    refine Ev.step (fun k => by rw [bucket_Pass.l0]) ?_
    simp only [if_pos (show (i : Int) < o.length by omega), if_pos (show 0 ≤ (i : Int) by omega), rd_nat, wrap_nat hi (show o.length ≤ 140737488355328 by omega)]
    by_cases h1 : o.getD i 0 < 0
    · simp only [if_pos h1]
      rw [passR, if_neg (fun hq => by have := hq.2 _ (getD_mem hi); omega)]
      exact Ev.now _
    by_cases h2 : o.getD i 0 ≥ keys.length
    · simp only [if_neg h1, if_pos h2]
      rw [passR, if_neg (fun hq => by have := hq.2 _ (getD_mem hi); omega)]
      exact Ev.now _
    have hk := key_ok hok (x := o.getD i 0) (by omega) (by omega)
    obtain ⟨c, hc⟩ : ∃ c : Nat, keyOf keys (o.getD i 0) = c := ⟨(keyOf keys (o.getD i 0)).toNat, by omega⟩
    have e1 : rd keys (o.getD i 0) = (c : Int) := hc
    have h3 := h c (by omega)
    have hle : kcnt (keyOf keys) (o.take i) c ≤ o.length := Nat.le_trans kcnt_le (by rw [List.length_take]; omega)
    simp only [if_neg h1, if_neg h2, if_pos (show 0 ≤ o.getD i 0 by omega), if_pos (show o.getD i 0 < keys.length by omega), e1, if_pos (show (0 : Int) ≤ (c : Int) by omega), if_pos (show (c : Int) < l.length by omega), rd_nat, h3, Int.toNat_natCast]
    rw [wrap64_id (by omega) (by omega)]
    refine ih (i + 1) _ (by omega) (by rw [List.length_set, hl]) (fun c' hc' => ?_) (fun x hx => ?_)
    · rw [lset (by omega), kcnt_next hi, hc]
      by_cases e : c = c'
      · rw [if_pos e, if_pos (by omega), ← e]; rfl
      · rw [if_neg e, if_neg (by omega)]; exact h c' hc'
    · rw [take_next hi, List.mem_append, List.mem_singleton] at hx
      rcases hx with hx | hx
      · exact hr x hx
      · omega

theorem bucket_Pass_ev (o keys : List Int) (k : Int) (hn : o.length ≤ 35184372088832) (hm : keys.length ≤ 140737488355328) : Ev (fun j => bucket_Pass.f j o keys k) (passR o keys k) := by
  refine Ev.congr (fun k => by rw [bucket_Pass.f]) ?_
  refine Ev.bind (bucket_Counts_ev keys k hm) ?_
  by_cases hok : okKeys keys k
  · rw [countsR, if_pos hok]
    have h1 := hok.1
    have h2 := hok.2.1
    simp only [if_true, if_pos h1, if_pos (show k.toNat ≤ 35184372088832 by omega)]
    exact bucket_Pass_l0 o keys k hok hn o.length 0 _ (by omega) (by simp) (fun c hc => by rw [getD_replicate]; simp [kcnt]) (by simp)
  · rw [countsR, if_neg hok]
    simp only [if_neg (show ¬ false = true by decide)]
    rw [passR, if_neg (fun hq => hok hq.1)]
    exact Ev.now _


-- math: W Base Perm
theorem ref4_Ints_l0 (a b : List Int) (hl : a.length = b.length) (hn : a.length ≤ 140737488355328) : ∀ (d i : Nat), i + d = a.length → (∀ j, j < i → a.getD j 0 = b.getD j 0) → Ev (fun k => whorlref4_Ints.l0 k a b (i : Int)) (decide (a = b)) := by
  intro d
  induction d with
  | zero =>
    intro i hd h
    refine Ev.step (fun k => by rw [whorlref4_Ints.l0]) ?_
    simp only [if_neg (show ¬ (i : Int) < a.length by omega)]
    rw [decide_eq_true (ext_getD hl (fun j hj => h j (by omega)))]
    exact Ev.now _
  | succ d ih =>
    intro i hd h
    have hi : i < a.length := by omega
    refine Ev.step (fun k => by rw [whorlref4_Ints.l0]) ?_
    simp only [if_pos (show (i : Int) < a.length by omega), if_pos (show 0 ≤ (i : Int) by omega), if_pos (show (i : Int) < b.length by omega), rd_nat, wrap_nat hi hn]
    by_cases e : a.getD i 0 = b.getD i 0
    · simp only [if_pos e]
      refine ih (i + 1) (by omega) (fun j hj => ?_)
      by_cases e2 : j = i
      · rw [e2]; exact e
      · exact h j (by omega)
    · simp only [if_neg e]
      rw [decide_eq_false (fun hab => e (by rw [hab]))]
      exact Ev.now _

theorem ref4_Ints_ev (a b : List Int) (hn : a.length ≤ 140737488355328) : Ev (fun k => whorlref4_Ints.f k a b) (decide (a = b)) := by
  refine Ev.congr (fun k => by rw [whorlref4_Ints.f]) ?_
  by_cases e : a.length = b.length
  · simp only [if_pos (show (a.length : Int) = b.length by omega)]
    exact ref4_Ints_l0 a b e hn a.length 0 (by omega) (fun j hj => by omega)
  · simp only [if_neg (show ¬ (a.length : Int) = b.length by omega)]
    rw [decide_eq_false (fun hab => e (by rw [hab]))]
    exact Ev.now _

-- with: bucket ref4_Ints
theorem known_ev : Ev (fun k => whorllaw10_known.f k) true := by
  refine Ev.congr (fun k => by rw [whorllaw10_known.f]) ?_
  refine Ev.bind (bucket_Pass_ev _ _ _ (by decide) (by decide)) ?_
  have e : passR [0, 1, 2] [1, 0, 1] 2 = ([1, 0, 2], true) := by decide
  simp only [e, if_true]
  refine Ev.bind (ref4_Ints_ev _ _ (by decide)) ?_
  exact Ev.now _


-- with: bucket
theorem ref10_Counts_l0 (keys : List Int) (k : Int) (h0 : 0 ≤ k) (hk : k ≤ 1048576) (hn : keys.length ≤ 140737488355328) : ∀ (d i : Nat) (l : List Int), i + d = keys.length → l.length = k.toNat → (∀ c, c < k.toNat → l.getD c 0 = (kcnt id (keys.take i) c : Int)) →
    (∀ x ∈ keys.take i, 0 ≤ x ∧ x < k) → Ev (fun j => whorlref10_Counts.l0 j keys k l (i : Int)) (countsR keys k) := by
  intro d
  induction d with
  | zero =>
    intro i l hd hl h hr
    refine Ev.step (fun k => by rw [whorlref10_Counts.l0]) ?_
    rw [List.take_of_length_le (by omega)] at h hr
    simp only [if_neg (show ¬ (i : Int) < keys.length by omega)]
    rw [countsR, if_pos ⟨h0, hk, hr⟩, ext_getD (a := l) (b := cntsOf id keys k.toNat) (by rw [hl, cntsOf_length]) (fun c hc => by rw [cntsOf_get (by omega), h c (by omega)])]
    exact Ev.now _
  | succ d ih =>
    intro i l hd hl h hr
    have hi : i < keys.length := by omega
    refine Ev.step (fun k => by rw [whorlref10_Counts.l0]) ?_
    simp only [if_pos (show (i : Int) < keys.length by omega), if_pos (show 0 ≤ (i : Int) by omega), rd_nat, wrap_nat hi hn]
    by_cases h1 : keys.getD i 0 < 0
    · simp only [if_pos h1]
      rw [countsR, if_neg (fun hq => by have := hq.2.2 _ (getD_mem hi); omega)]
      exact Ev.now _
    by_cases h2 : keys.getD i 0 ≥ k
    · simp only [if_neg h1, if_pos h2]
      rw [countsR, if_neg (fun hq => by have := hq.2.2 _ (getD_mem hi); omega)]
      exact Ev.now _
    have h3 := h (keys.getD i 0).toNat (by omega)
    have hle : kcnt id (keys.take i) (keys.getD i 0).toNat ≤ keys.length := Nat.le_trans kcnt_le (by rw [List.length_take]; omega)
    simp only [if_neg h1, if_neg h2, if_pos (show 0 ≤ keys.getD i 0 by omega), if_pos (show keys.getD i 0 < l.length by omega), rd, h3]
    rw [wrap64_id (by omega) (by omega)]
    refine ih (i + 1) _ (by omega) (by rw [List.length_set, hl]) (fun c hc => ?_) (fun x hx => ?_)
    · rw [lset (by omega), kcnt_next hi, id]
      by_cases e : (keys.getD i 0).toNat = c
      · rw [if_pos e, if_pos (by omega), ← e]; rfl
      · rw [if_neg e, if_neg (by omega)]; exact h c hc
    · rw [take_next hi, List.mem_append, List.mem_singleton] at hx
      rcases hx with hx | hx
      · exact hr x hx
      · omega

theorem ref10_Counts_ev (keys : List Int) (k : Int) (hn : keys.length ≤ 140737488355328) : Ev (fun j => whorlref10_Counts.f j keys k) (countsR keys k) := by
  have hno : ¬ (0 ≤ k ∧ k ≤ 1048576) → Ev (fun j => whorlref10_Counts.j0 j keys k true) (countsR keys k) := fun hno => by
    rw [countsR, if_neg (fun hq => hno ⟨hq.1, hq.2.1⟩)]
    refine Ev.step (fun k => by rw [whorlref10_Counts.j0]) ?_
    simp only [if_true]
    exact Ev.now _
  refine Ev.congr (fun k => by rw [whorlref10_Counts.f]) ?_
  by_cases h1 : k < 0
  · simp only [if_pos h1]; exact hno (by omega)
  by_cases h2 : k > 1048576
  · simp only [if_neg h1, h2, decide_true]; exact hno (by omega)
  simp only [if_neg h1, h2, decide_false]
  refine Ev.step (fun k => by rw [whorlref10_Counts.j0]) ?_
  simp only [if_neg (show ¬ false = true by decide), if_pos (show 0 ≤ k by omega), if_pos (show k.toNat ≤ 35184372088832 by omega)]
  exact ref10_Counts_l0 keys k (by omega) (by omega) hn keys.length 0 _ (by omega) (by simp) (fun c hc => by rw [getD_replicate]; simp [kcnt]) (by simp)

theorem ref10_Pass_l1 (o keys : List Int) (k : Int) (hok : okKeys keys k) (hn : o.length < 17592186044416) (i : Nat) (hi : i < o.length) (hx : 0 ≤ o.getD i 0 ∧ o.getD i 0 < (keys.length : Int)) (P C : List Int)
    (hP : ∀ y ∈ P, keyOf keys y ≤ keyOf keys (o.getD i 0)) (hC : ∀ y ∈ C, keyOf keys (o.getD i 0) < keyOf keys y) (hr : ∀ y ∈ P ++ C, 0 ≤ y ∧ y < (keys.length : Int)) (hlen : (P ++ C).length = i) (R : List Int × Bool)
    (K : Ev (fun j => whorlref10_Pass.l0 j o keys (P ++ o.getD i 0 :: C) ((i + 1 : Nat) : Int)) R) : ∀ (m : Nat), m ≤ C.length → Ev (fun j => whorlref10_Pass.l1 j o keys (P ++ C) (i : Int) ((P.length + m : Nat) : Int)) R := by
  have e1 : rd o (i : Int) = o.getD i 0 := rd_nat o i
  have ek : rd keys (o.getD i 0) = keyOf keys (o.getD i 0) := rfl
  have hpc : P.length + C.length = i := by rw [← List.length_append]; exact hlen
  intro m
  induction m with
  | zero =>
    intro hm
    have fin : Ev (fun n => (some ([] : List Int)).bind fun y154 => (if 0 ≤ ((P.length + 0 : Nat) : Int) then (if ((P.length + 0 : Nat) : Int) ≤ ((P ++ C).length : Int) then ((some ((P ++ C).take ((P.length + 0 : Nat) : Int).toNat)).bind fun y157 => (if y154.length + y157.length < 17592186044416 then ((some (y154 ++ y157 : List Int)).bind fun y161 => ((some (([o.getD i 0] : List Int) : List Int)).bind fun y165 => (if y161.length + y165.length < 17592186044416 then ((some (y161 ++ y165 : List Int)).bind fun y168 => ((some ((P ++ C).drop ((P.length + 0 : Nat) : Int).toNat : List Int)).bind fun y171 => (if y168.length + y171.length < 17592186044416 then (whorlref10_Pass.l0 n o keys (y168 ++ y171) ((i + 1 : Nat) : Int)) else (none)))) else (none)))) else (none))) else (none)) else (none))) R := by
      simp only [Option.bind_some, Int.toNat_natCast, Nat.add_zero, List.take_left, List.drop_left, List.nil_append, List.length_nil, List.length_append, List.length_singleton]
      simp only [if_pos (show (0 : Int) ≤ (P.length : Int) by omega), if_pos (show (P.length : Int) ≤ ((P.length + C.length : Nat) : Int) by omega), if_pos (show 0 + P.length < 17592186044416 by omega), if_pos (show 0 + P.length + 1 < 17592186044416 by omega), if_pos (show 0 + P.length + 1 + C.length < 17592186044416 by omega)]
      rw [List.append_assoc, List.singleton_append]
      exact K
    refine Ev.step (fun j => by rw [whorlref10_Pass.l1]) ?_
    by_cases h0 : P.length = 0
    · simp only [if_neg (show ¬ ((P.length + 0 : Nat) : Int) > 0 by omega), e1, wrap_nat hi (show o.length ≤ 140737488355328 by omega), if_pos (show 0 ≤ (i : Int) by omega), if_pos (show (i : Int) < o.length by omega)]
      exact fin
    · have w : wrap64 (((P.length + 0 : Nat) : Int) - 1) = ((P.length - 1 : Nat) : Int) := by rw [wrap64_id (by omega) (by omega)]; omega
      have hg : (P ++ C).getD (P.length - 1) 0 = P.getD (P.length - 1) 0 := by rw [List.getD_eq_getElem?_getD, List.getElem?_append_left (by omega), ← List.getD_eq_getElem?_getD]
      have hm := getD_mem (a := P) (i := P.length - 1) (by omega)
      have hle := hP _ hm
      have hrr := hr _ (List.mem_append_left _ hm)
      have ek2 : rd keys (P.getD (P.length - 1) 0) = keyOf keys (P.getD (P.length - 1) 0) := rfl
      simp only [w, rd_nat, hg, e1, ek, ek2]
      clear w
      simp only [if_pos (show ((P.length + 0 : Nat) : Int) > 0 by omega), if_pos (show 0 ≤ (i : Int) by omega), if_pos (show (i : Int) < o.length by omega), if_pos hx.1, if_pos hx.2, if_pos (show (0 : Int) ≤ ((P.length - 1 : Nat) : Int) by omega), if_pos (show ((P.length - 1 : Nat) : Int) < (P ++ C).length by omega), if_pos hrr.1, if_pos hrr.2,
        if_neg (show ¬ keyOf keys (o.getD i 0) < keyOf keys (P.getD (P.length - 1) 0) by omega), wrap_nat hi (show o.length ≤ 140737488355328 by omega)]
      exact fin
  | succ m ih =>
    intro hm
    have w : wrap64 (((P.length + (m + 1) : Nat) : Int) - 1) = ((P.length + m : Nat) : Int) := by rw [wrap64_id (by omega) (by omega)]; omega
    have hg : (P ++ C).getD (P.length + m) 0 = C.getD m 0 := by rw [List.getD_eq_getElem?_getD, List.getElem?_append_right (by omega), ← List.getD_eq_getElem?_getD]; congr 1; omega
    have hmm := getD_mem (a := C) (i := m) (by omega)
    have hlt := hC _ hmm
    have hrr := hr _ (List.mem_append_right _ hmm)
    have ek2 : rd keys (C.getD m 0) = keyOf keys (C.getD m 0) := rfl
    refine Ev.step (fun j => by rw [whorlref10_Pass.l1]) ?_
    simp only [w, rd_nat, hg, ek, ek2]
    clear w
    simp only [if_pos (show ((P.length + (m + 1) : Nat) : Int) > 0 by omega), if_pos (show 0 ≤ (i : Int) by omega), if_pos (show (i : Int) < o.length by omega), if_pos hx.1, if_pos hx.2, if_pos (show (0 : Int) ≤ ((P.length + m : Nat) : Int) by omega), if_pos (show ((P.length + m : Nat) : Int) < (P ++ C).length by omega), if_pos hrr.1, if_pos hrr.2, if_pos hlt]
    exact ih (by omega)

theorem ref10_Pass_l0 (o keys : List Int) (k : Int) (hok : okKeys keys k) (hn : o.length < 17592186044416) : ∀ (d i : Nat), i + d = o.length → (∀ x ∈ o.take i, 0 ≤ x ∧ x < (keys.length : Int)) → Ev (fun j => whorlref10_Pass.l0 j o keys (stab (keyOf keys) (o.take i) k.toNat) (i : Int)) (passR o keys k) := by
  have h0k : 0 ≤ k := hok.1
  intro d
  induction d with
  | zero =>
    intro i hd hr
    rw [List.take_of_length_le (by omega)] at hr ⊢
    refine Ev.step (fun j => by rw [whorlref10_Pass.l0]) ?_
    simp only [if_neg (show ¬ (i : Int) < o.length by omega)]
    rw [passR, if_pos ⟨hok, hr⟩]
    exact Ev.now _
  | succ d ih =>
    intro i hd hr
    have hi : i < o.length := by omega
    have hno : ¬ (0 ≤ o.getD i 0 ∧ o.getD i 0 < (keys.length : Int)) → Ev (fun j => whorlref10_Pass.j1 j o keys (stab (keyOf keys) (o.take i) k.toNat) (i : Int) true) (passR o keys k) := fun hno => by
      refine Ev.step (fun j => by rw [whorlref10_Pass.j1]) ?_
      simp only [if_true]
      rw [passR, if_neg (fun hq => hno (hq.2 _ (getD_mem hi)))]
      exact Ev.now _
    refine Ev.step (fun j => by rw [whorlref10_Pass.l0]) ?_
    simp only [if_pos (show (i : Int) < o.length by omega), if_pos (show 0 ≤ (i : Int) by omega), rd_nat]
    by_cases h1 : o.getD i 0 < 0
    · simp only [if_pos h1]; exact hno (by omega)
    by_cases h2 : o.getD i 0 ≥ keys.length
    · simp only [if_neg h1, h2, decide_true]; exact hno (by omega)
    simp only [if_neg h1, h2, decide_false]
    refine Ev.step (fun j => by rw [whorlref10_Pass.j1]) ?_
    simp only [if_neg (show ¬ false = true by decide)]
    have hk := key_ok hok (x := o.getD i 0) (by omega) (by omega)
    have hko : ∀ x ∈ o.take i, 0 ≤ keyOf keys x ∧ keyOf keys x < (k.toNat : Int) := fun x hx => by
      have h1 := hr x hx
      have := key_ok hok h1.1 h1.2
      omega
    obtain ⟨P, C, e1, e2, e3, e4⟩ := stab_snoc (kf := keyOf keys) (o := o.take i) (x := o.getD i 0) (k := k.toNat) hk.1 (by omega)
    have hlen := stab_all hko
    rw [List.length_take] at hlen
    have hnext := ih (i + 1) (by omega) (fun x hx => by
      rw [take_next hi, List.mem_append, List.mem_singleton] at hx
      rcases hx with hx | hx
      · exact hr x hx
      · omega)
    rw [take_next hi, e2] at hnext
    rw [e1] at hlen ⊢
    have := ref10_Pass_l1 o keys k hok hn i hi (by omega) P C e3 e4 (fun y hy => by
      rw [← e1] at hy
      exact hr y (stab_mem.1 hy).1) (by omega) _ hnext C.length (Nat.le_refl _)
    rw [← List.length_append] at this
    exact this

theorem ref10_Pass_ev (o keys : List Int) (k : Int) (hn : o.length < 17592186044416) (hm : keys.length ≤ 140737488355328) : Ev (fun j => whorlref10_Pass.f j o keys k) (passR o keys k) := by
  refine Ev.congr (fun k => by rw [whorlref10_Pass.f]) ?_
  refine Ev.bind (ref10_Counts_ev keys k hm) ?_
  by_cases hok : okKeys keys k
  · rw [countsR, if_pos hok]
    simp only [if_true]
    have := ref10_Pass_l0 o keys k hok hn o.length 0 (by omega) (by simp)
    have e : stab (keyOf keys) (o.take 0) k.toNat = [] := by
      apply List.eq_nil_of_length_eq_zero
      rw [stab_all (by simp)]; rfl
    rw [e] at this
    exact this
  · rw [countsR, if_neg hok]
    simp only [if_neg (show ¬ false = true by decide)]
    rw [passR, if_neg (fun hq => hok hq.1)]
    exact Ev.now _


-- fn: known10 ref10_Pass
theorem BucketTells : whorllaw10_BucketTells.Pure := by
  intro o keys k h1 h2 h3 h4 h5 h6 h7
  refine Ev.rounds ?_
  have hg : Ev (fun j => whorllaw10_BucketTells.j0 j o keys k true) true := Ev.step (fun k => by rw [whorllaw10_BucketTells.j0]) (by simp only [if_true]; exact Ev.now _)
  refine Ev.congr (fun k => by rw [whorllaw10_BucketTells.f]) ?_
  by_cases g1 : (o.length : Int) > 200
  · simp only [if_pos g1]; exact hg
  by_cases g2 : (keys.length : Int) > 200
  · simp only [if_neg g1, if_pos g2]; exact hg
  have main : Ev (fun j => whorllaw10_BucketTells.j0 j o keys k false) true := by
    refine Ev.step (fun k => by rw [whorllaw10_BucketTells.j0]) ?_
    simp only [if_neg (show ¬ false = true by decide)]
    have l1 : (countsR keys k).1.length ≤ 140737488355328 := by
      unfold countsR; split
      · rename_i h; have := h.2.1; simp only [cntsOf_length]; omega
      · simp
    have l2 : (passR o keys k).1.length ≤ 140737488355328 := by
      unfold passR; split
      · rename_i h
        simp only
        rw [stab_all (fun x hx => by
          have h1 := h.2 x hx
          have := key_ok h.1 h1.1 h1.2
          have := h.1.1
          omega)]
        omega
      · simp
    refine Ev.bind (bucket_Counts_ev keys k (by omega)) ?_
    refine Ev.bind (ref10_Counts_ev keys k (by omega)) ?_
    refine Ev.bind (bucket_Pass_ev o keys k (by omega) (by omega)) ?_
    refine Ev.bind (ref10_Pass_ev o keys k (by omega) (by omega)) ?_
    refine Ev.bind (ref4_Ints_ev _ _ l1) ?_
    simp only [decide_true, if_true, beq_self_eq_true]
    refine Ev.bind (ref4_Ints_ev _ _ l2) ?_
    simp only [decide_true, if_true]
    exact Ev.bind known_ev (Ev.now _)
  simp only [if_neg g1, if_neg g2]
  by_cases g3 : k > 5000
  · simp only [if_pos g3]
    by_cases g4 : k ≤ 1048576
    · simp only [g4, decide_true]; exact hg
    · simp only [g4, decide_false]; exact main
  · simp only [if_neg g3]; exact main

end Go.Proofs.Ytijdigbindanhaa.Pure
