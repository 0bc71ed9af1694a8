/- Words, functions, walks and plain mathematics for TopThree, part 7: laid together by a program of this session (pack.py). -/
import Derived.Test.YtbbpplnnegdenaaKTopThreef
set_option linter.unusedVariables false
set_option linter.unusedSimpArgs false
section
set_option linter.unusedVariables false
set_option linter.unusedSimpArgs false
namespace Go.Proofs.Ytbbpplnnegdenaa.Pure
open Go Go.RowKit Go.Proofs.Ytbbpplnnegdenaa.PTopThree Go.Proofs.YtbbpplnnegdenaaW.PrintWords Go.Proofs.YtbbpplnnegdenaaW.PrintLast Go.Proofs.Ytbbpplnnegdenaa.MM
def okKeys (keys : List Int) (k : Int) : Prop := 0 ≤ k ∧ k ≤ 1048576 ∧ ∀ x ∈ keys, 0 ≤ x ∧ x < k
instance (keys : List Int) (k : Int) : Decidable (okKeys keys k) := by unfold okKeys; infer_instance
def countsR (keys : List Int) (k : Int) : List Int × Bool := if okKeys keys k then (cntsOf id keys k.toNat, true) else ([], false)
theorem bucket_Counts_l0 (keys : List Int) (k : Int) (h0 : 0 ≤ k) (hk : k ≤ 1048576) (hn : keys.length ≤ 140737488355328) : ∀ (d i : Nat) (l : List Int), i + d = keys.length → l.length = k.toNat → (∀ c, c < k.toNat → l.getD c 0 = (kcnt id (keys.take i) c : Int)) →
    (∀ x ∈ keys.take i, 0 ≤ x ∧ x < k) → Ev (fun j => bucket_Counts.l0 j k l keys (keys.length : Int) (i : Int)) (countsR keys k) := by
  intro d
  induction d with
  | zero =>
    intro i l hd hl h hr
    refine Ev.step (fun k => by rw [bucket_Counts.l0]) ?_
    rw [List.take_of_length_le (by omega)] at h hr
    simp only [if_neg (show ¬ (i : Int) < keys.length by omega)]
    rw [countsR, if_pos ⟨h0, hk, hr⟩, ext_getD (a := l) (b := cntsOf id keys k.toNat) (by rw [hl, cntsOf_length]) (fun c hc => by rw [cntsOf_get (by omega), h c (by omega)])]
    exact Ev.now _
  | succ d ih =>
    intro i l hd hl h hr
    have hi : i < keys.length := by omega
    refine Ev.step (fun k => by rw [bucket_Counts.l0]) ?_
    simp only [if_pos (show (i : Int) < keys.length by omega), if_pos (show 0 ≤ (i : Int) by omega), rd_nat, wrap_nat hi hn]
    by_cases h1 : keys.getD i 0 < 0
    · simp only [if_pos h1]
      rw [countsR, if_neg (fun hq => by have := hq.2.2 _ (getD_mem hi); omega)]
      exact Ev.now _
    by_cases h2 : keys.getD i 0 ≥ k
    · simp only [if_neg h1, if_pos h2]
      rw [countsR, if_neg (fun hq => by have := hq.2.2 _ (getD_mem hi); omega)]
      exact Ev.now _
    have h3 := h (keys.getD i 0).toNat (by omega)
    have hle : kcnt id (keys.take i) (keys.getD i 0).toNat ≤ keys.length := Nat.le_trans kcnt_le (by rw [List.length_take]; omega)
    simp only [if_neg h1, if_neg h2, if_pos (show 0 ≤ keys.getD i 0 by omega), if_pos (show keys.getD i 0 < l.length by omega), rd, h3]
    rw [wrap64_id (by omega) (by omega)]
    refine ih (i + 1) _ (by omega) (by rw [List.length_set, hl]) (fun c hc => ?_) (fun x hx => ?_)
    · rw [lset (by omega), kcnt_next hi, id]
      by_cases e : (keys.getD i 0).toNat = c
      · rw [if_pos e, if_pos (by omega), ← e]; rfl
      · rw [if_neg e, if_neg (by omega)]; exact h c hc
    · rw [take_next hi, List.mem_append, List.mem_singleton] at hx
      rcases hx with hx | hx
      · exact hr x hx
      · omega
theorem bucket_Counts_ev (keys : List Int) (k : Int) (hn : keys.length ≤ 140737488355328) : Ev (fun j => bucket_Counts.f j keys k) (countsR keys k) := by
  have hno : ¬ (0 ≤ k ∧ k ≤ 1048576) → Ev (fun j => bucket_Counts.j0 j keys k true) (countsR keys k) := fun hno => by
    rw [countsR, if_neg (fun hq => hno ⟨hq.1, hq.2.1⟩)]
    refine Ev.step (fun k => by rw [bucket_Counts.j0]) ?_
    simp only [if_true]
    exact Ev.now _
  refine Ev.congr (fun k => by rw [bucket_Counts.f]) ?_
  by_cases h1 : k < 0
  · simp only [if_pos h1]; exact hno (by omega)
  by_cases h2 : k > 1048576
  · simp only [if_neg h1, h2, decide_true]; exact hno (by omega)
  simp only [if_neg h1, h2, decide_false]
  refine Ev.step (fun k => by rw [bucket_Counts.j0]) ?_
  simp only [if_neg (show ¬ false = true by decide), if_pos (show 0 ≤ k by omega), if_pos (show k.toNat ≤ 35184372088832 by omega)]
  exact bucket_Counts_l0 keys k (by omega) (by omega) hn keys.length 0 _ (by omega) (by simp) (fun c hc => by rw [getD_replicate]; simp [kcnt]) (by simp)
def sumsOk (l : List Int) : Prop := ∀ i, i ≤ l.length → -9223372036854775808 ≤ (l.take i).sum ∧ (l.take i).sum < 9223372036854775808
theorem bucket_Starts_l0 (c : List Int) (hn : c.length ≤ 140737488355328) (hs : sumsOk c) : ∀ (d i : Nat) (l : List Int), i + d = c.length → l.length = c.length → (∀ j, j < i → l.getD j 0 = (c.take j).sum) →
    Ev (fun j => bucket_Starts.l0 j l (c.take i).sum c (c.length : Int) (i : Int)) (startsOf c) := by
  intro d
  induction d with
  | zero =>
    intro i l hd hl h
    refine Ev.step (fun k => by rw [bucket_Starts.l0]) ?_
    simp only [if_neg (show ¬ (i : Int) < c.length by omega)]
    rw [ext_getD (a := l) (b := startsOf c) (by rw [hl, startsOf_length]) (fun j hj => by rw [startsOf_get (by omega), h j (by omega)])]
    exact Ev.now _
  | succ d ih =>
    intro i l hd hl h
    have hi : i < c.length := by omega
    refine Ev.step (fun k => by rw [bucket_Starts.l0]) ?_
    have hw := hs (i + 1) (by omega)
    rw [sum_next hi] at hw
    simp only [if_pos (show (i : Int) < c.length by omega), if_pos (show 0 ≤ (i : Int) by omega), if_pos (show (i : Int) < l.length by omega), rd_nat, wrap_nat hi hn, Int.toNat_natCast]
    rw [wrap64_id hw.1 hw.2, ← sum_next hi]
    refine ih (i + 1) _ (by omega) (by rw [List.length_set, hl]) (fun j hj => ?_)
    rw [lset (by omega)]
    by_cases e : i = j
    · rw [if_pos e, e]
    · rw [if_neg e]; exact h j (by omega)
theorem bucket_Starts_ev (c : List Int) (hn : c.length ≤ 35184372088832) (hs : sumsOk c) : Ev (fun j => bucket_Starts.f j c) (startsOf c) := by
  refine Ev.congr (fun k => by rw [bucket_Starts.f]) ?_
  simp only [Int.toNat_natCast]
  simp only [if_pos (show 0 ≤ (c.length : Int) by omega), if_pos hn]
  exact bucket_Starts_l0 c (by omega) hs c.length 0 _ (by omega) (by simp) (fun j hj => by omega)
theorem cnts_sumsOk {kf : Int → Int} {o : List Int} {k : Nat} (hr : ∀ x ∈ o, 0 ≤ kf x ∧ kf x < (k : Int)) (hn : o.length ≤ 140737488355328) : sumsOk (cntsOf kf o k) := by
  intro i hi
  rw [cntsOf_length] at hi
  rw [cnts_sum hi]
  have h2 := stab_all hr
  have h3 : (stab kf o i).length ≤ (stab kf o k).length := by
    rcases Nat.lt_or_ge i k with h | h
    · have := stab_mono (kf := kf) (o := o) h; omega
    · rw [show i = k by omega]; omega
  omega
def keyOf (keys : List Int) (i : Int) : Int := keys.getD i.toNat 0
def okPass (o keys : List Int) (k : Int) : Prop := okKeys keys k ∧ ∀ x ∈ o, 0 ≤ x ∧ x < (keys.length : Int)
instance (o keys : List Int) (k : Int) : Decidable (okPass o keys k) := by unfold okPass; infer_instance
def passR (o keys : List Int) (k : Int) : List Int × Bool := if okPass o keys k then (stab (keyOf keys) o k.toNat, true) else ([], false)
theorem key_ok {keys : List Int} {k : Int} (h : okKeys keys k) {x : Int} (h0 : 0 ≤ x) (h1 : x < keys.length) : 0 ≤ keyOf keys x ∧ keyOf keys x < k := h.2.2 _ (getD_mem (by omega))
theorem bucket_Pass_l1 (o keys : List Int) (k : Int) (hok : okPass o keys k) (hn : o.length ≤ 140737488355328) : ∀ (d i : Nat) (at_ l : List Int), i + d = o.length → at_.length = k.toNat → l.length = o.length →
    (∀ c, c < k.toNat → at_.getD c 0 = ((stab (keyOf keys) o c).length + kcnt (keyOf keys) (o.take i) c : Nat)) →
    (∀ c r, c < k.toNat → r < kcnt (keyOf keys) (o.take i) c → l.getD ((stab (keyOf keys) o c).length + r) 0 = (o.filter (fun i => keyOf keys i == (c : Int))).getD r 0) →
    Ev (fun j => bucket_Pass.l1 j keys at_ l o (o.length : Int) (i : Int)) (stab (keyOf keys) o k.toNat, true) := by
  have h0k : 0 ≤ k := hok.1.1
  have hko : ∀ x ∈ o, 0 ≤ keyOf keys x ∧ keyOf keys x < (k.toNat : Int) := fun x hx => by
    have h1 := hok.2 x hx
    have := key_ok hok.1 h1.1 h1.2
    omega
  intro d
  induction d with
  | zero =>
    intro i at_ l hd ha hl hat h
    refine Ev.step (fun k => by rw [bucket_Pass.l1]) ?_
    rw [List.take_of_length_le (by omega)] at h
    simp only [if_neg (show ¬ (i : Int) < o.length by omega)]
    rw [stab_ext (l := l) (by rw [hl, stab_all hko]) (fun c r hc hr => h c r hc hr)]
    exact Ev.now _
  | succ d ih =>
    intro i at_ l hd ha hl hat h
    have hi : i < o.length := by omega
    have hx := hok.2 _ (getD_mem hi)
    have hk := key_ok hok.1 hx.1 hx.2
    obtain ⟨c, hc⟩ : ∃ c : Nat, keyOf keys (o.getD i 0) = c := ⟨(keyOf keys (o.getD i 0)).toNat, by omega⟩
    have hck : c < k.toNat := by omega
    have hcl := kcnt_lt hi hc
    have hmo := stab_mono (kf := keyOf keys) (o := o) hck
    rw [stab_all hko] at hmo
    have h3 := hat c hck
    have e1 : rd keys (o.getD i 0) = (c : Int) := hc
    refine Ev.step (fun k => by rw [bucket_Pass.l1]) ?_
    simp only [if_pos (show (i : Int) < o.length by omega), if_pos (show 0 ≤ (i : Int) by omega), rd_nat, wrap_nat hi hn, if_pos hx.1, if_pos hx.2, e1, if_pos (show (0 : Int) ≤ (c : Int) by omega), if_pos (show (c : Int) < at_.length by omega), h3, Int.toNat_natCast]
    simp only [if_pos (show (0 : Int) ≤ (((stab (keyOf keys) o c).length + kcnt (keyOf keys) (o.take i) c : Nat) : Int) by omega), if_pos (show (((stab (keyOf keys) o c).length + kcnt (keyOf keys) (o.take i) c : Nat) : Int) < l.length by omega)]
    rw [wrap64_id (by omega) (by omega)]
    refine ih (i + 1) _ _ (by omega) (by rw [List.length_set, ha]) (by rw [List.length_set, hl]) (fun c' hc' => ?_) (fun c' r hc' hr => ?_)
    · rw [lset (by omega), kcnt_next hi, hc]
      by_cases e : c = c'
      · rw [if_pos e, if_pos (by omega), e]; omega
      · rw [if_neg e, if_neg (by omega)]; exact hat c' hc'
    · rw [lset (by omega)]
      rw [kcnt_next hi, hc] at hr
      by_cases e : c = c'
      · subst e
        rw [if_pos rfl] at hr
        by_cases e2 : r = kcnt (keyOf keys) (o.take i) c
        · rw [if_pos (by omega), e2, filter_at hi hc]
        · rw [if_neg (by omega)]; exact h c r hck (by omega)
      · rw [if_neg (by omega)] at hr
        have hr' : r < kcnt (keyOf keys) o c' := Nat.lt_of_lt_of_le (by omega) (kcnt_take i)
        rw [if_neg ?_]
        · exact h c' r hc' (by omega)
        · intro he
          rcases Nat.lt_or_ge c c' with hlt | hge
          · have := stab_mono (kf := keyOf keys) (o := o) hlt; omega
          · have := stab_mono (kf := keyOf keys) (o := o) (show c' < c by omega); omega
theorem bucket_Pass_l0 (o keys : List Int) (k : Int) (hok : okKeys keys k) (hn : o.length ≤ 35184372088832) : ∀ (d i : Nat) (l : List Int), i + d = o.length → l.length = k.toNat → (∀ c, c < k.toNat → l.getD c 0 = (kcnt (keyOf keys) (o.take i) c : Int)) →
    (∀ x ∈ o.take i, 0 ≤ x ∧ x < (keys.length : Int)) → Ev (fun j => bucket_Pass.l0 j o keys l o (o.length : Int) (i : Int)) (passR o keys k) := by
  have h0k : 0 ≤ k := hok.1
  have hkm : k ≤ 1048576 := hok.2.1
  intro d
  induction d with
  | zero =>
    intro i l hd hl h hr
    rw [List.take_of_length_le (by omega)] at h hr
    have hp : okPass o keys k := ⟨hok, hr⟩
    have hko : ∀ x ∈ o, 0 ≤ keyOf keys x ∧ keyOf keys x < (k.toNat : Int) := fun x hx => by
      have h1 := hr x hx
      have := key_ok hok h1.1 h1.2
      omega
    have hle : l = cntsOf (keyOf keys) o k.toNat := ext_getD (by rw [hl, cntsOf_length]) (fun c hc => by rw [cntsOf_get (by omega), h c (by omega)])
    refine Ev.step (fun k => by rw [bucket_Pass.l0]) ?_
    simp only [if_neg (show ¬ (i : Int) < o.length by omega)]
    refine Ev.bind (bucket_Starts_ev l (by omega) (by rw [hle]; exact cnts_sumsOk hko (by omega))) ?_
    simp only [Int.toNat_natCast]
    simp only [if_pos (show 0 ≤ (o.length : Int) by omega), if_pos hn]
    rw [passR, if_pos hp]
    refine bucket_Pass_l1 o keys k hp (by omega) o.length 0 _ _ (by omega) (by rw [startsOf_length, hl]) (by simp) (fun c hc => ?_) (fun c r hc hr2 => ?_)
    · rw [startsOf_get (by omega), hle, cnts_sum (by omega)]; simp [kcnt]
    · simp [kcnt] at hr2
  | succ d ih =>
    intro i l hd hl h hr
    have hi : i < o.length := by omega
    refine Ev.step (fun k => by rw [bucket_Pass.l0]) ?_
    simp only [if_pos (show (i : Int) < o.length by omega), if_pos (show 0 ≤ (i : Int) by omega), rd_nat, wrap_nat hi (show o.length ≤ 140737488355328 by omega)]
    by_cases h1 : o.getD i 0 < 0
    · simp only [if_pos h1]
      rw [passR, if_neg (fun hq => by have := hq.2 _ (getD_mem hi); omega)]
      exact Ev.now _
    by_cases h2 : o.getD i 0 ≥ keys.length
    · simp only [if_neg h1, if_pos h2]
      rw [passR, if_neg (fun hq => by have := hq.2 _ (getD_mem hi); omega)]
      exact Ev.now _
    have hk := key_ok hok (x := o.getD i 0) (by omega) (by omega)
    obtain ⟨c, hc⟩ : ∃ c : Nat, keyOf keys (o.getD i 0) = c := ⟨(keyOf keys (o.getD i 0)).toNat, by omega⟩
    have e1 : rd keys (o.getD i 0) = (c : Int) := hc
    have h3 := h c (by omega)
    have hle : kcnt (keyOf keys) (o.take i) c ≤ o.length := Nat.le_trans kcnt_le (by rw [List.length_take]; omega)
    simp only [if_neg h1, if_neg h2, if_pos (show 0 ≤ o.getD i 0 by omega), if_pos (show o.getD i 0 < keys.length by omega), e1, if_pos (show (0 : Int) ≤ (c : Int) by omega), if_pos (show (c : Int) < l.length by omega), rd_nat, h3, Int.toNat_natCast]
    rw [wrap64_id (by omega) (by omega)]
    refine ih (i + 1) _ (by omega) (by rw [List.length_set, hl]) (fun c' hc' => ?_) (fun x hx => ?_)
    · rw [lset (by omega), kcnt_next hi, hc]
      by_cases e : c = c'
      · rw [if_pos e, if_pos (by omega), ← e]; rfl
      · rw [if_neg e, if_neg (by omega)]; exact h c' hc'
    · rw [take_next hi, List.mem_append, List.mem_singleton] at hx
      rcases hx with hx | hx
      · exact hr x hx
      · omega
theorem bucket_Pass_ev (o keys : List Int) (k : Int) (hn : o.length ≤ 35184372088832) (hm : keys.length ≤ 140737488355328) : Ev (fun j => bucket_Pass.f j o keys k) (passR o keys k) := by
  refine Ev.congr (fun k => by rw [bucket_Pass.f]) ?_
  refine Ev.bind (bucket_Counts_ev keys k hm) ?_
  by_cases hok : okKeys keys k
  · rw [countsR, if_pos hok]
    have h1 := hok.1
    have h2 := hok.2.1
    simp only [if_true, if_pos h1, if_pos (show k.toNat ≤ 35184372088832 by omega)]
    exact bucket_Pass_l0 o keys k hok hn o.length 0 _ (by omega) (by simp) (fun c hc => by rw [getD_replicate]; simp [kcnt]) (by simp)
  · rw [countsR, if_neg hok]
    simp only [if_neg (show ¬ false = true by decide)]
    rw [passR, if_neg (fun hq => hok hq.1)]
    exact Ev.now _
theorem kinds_Small_l0 (s : List Int) (hn : s.length ≤ 140737488355328) : ∀ (d : Nat) (l : List Bool), l.length = s.length → d + 1 ≤ s.length → (∀ j, d ≤ j → j < s.length → l.getD j false = sml s j) →
    Ev (fun k => kinds_Small.l0 k s l ((d : Int) - 1)) (smls s) := by
  intro d
  induction d with
  | zero =>
    intro l hl hd h
    refine Ev.step (fun k => by rw [kinds_Small.l0]) ?_
    simp only [if_neg (show ¬ ((0 : Nat) : Int) - 1 ≥ 0 by omega)]
    rw [extB (a := l) (b := smls s) (by rw [hl, smls_length]) (fun i hi => by rw [smls_get (by omega)]; exact h i (by omega) (by omega))]
    exact Ev.now _
  | succ d ih =>
    intro l hl hd h
    refine Ev.step (fun k => by rw [kinds_Small.l0]) ?_
    have e : ((d + 1 : Nat) : Int) - 1 = (d : Int) := by omega
    have w1 : wrap64 ((d : Int) + 1) = ((d + 1 : Nat) : Int) := wrap_nat (n := d + 1) (by omega) (by omega)
    have w2 : wrap64 ((d : Int) - 1) = (d : Int) - 1 := wrap64_id (by omega) (by omega)
    simp only [e, w1, w2, rd_nat, rdB_nat, Int.toNat_natCast]
    simp only [if_pos (show (d : Int) ≥ 0 by omega), if_pos (show 0 ≤ (d : Int) by omega), if_pos (show (d : Int) < s.length by omega), if_pos (show (0 : Int) ≤ ((d + 1 : Nat) : Int) by omega), if_pos (show ((d + 1 : Nat) : Int) < s.length by omega),
      if_pos (show (d : Int) < l.length by omega), if_pos (show ((d + 1 : Nat) : Int) < l.length by omega)]
    have hs := sml_step (s := s) (i := d) (by omega)
    have key : ∀ b : Bool, b = sml s d → Ev (fun k => kinds_Small.l0 k s (l.set d b) ((d : Int) - 1)) (smls s) := fun b hb => by
      refine ih _ (by rw [List.length_set, hl]) (by omega) (fun j hj1 hj2 => ?_)
      rw [lset (by omega)]
      by_cases e2 : d = j
      · rw [if_pos e2, hb, e2]
      · rw [if_neg e2]; exact h j (by omega) hj2
    by_cases h1 : s.getD d 0 < s.getD (d + 1) 0
    · simp only [if_pos h1]
      exact key _ (by rw [hs]; simp only [h1, decide_true, Bool.true_or])
    · by_cases h2 : s.getD d 0 = s.getD (d + 1) 0
      · simp only [if_neg h1, if_pos h2]
        exact key _ (by rw [hs, h (d + 1) (by omega) (by omega)]; simp only [h1, h2, decide_true, decide_false, Bool.false_or, Bool.true_and]; simp)
      · simp only [if_neg h1, if_neg h2]
        exact key _ (by rw [hs]; simp only [h1, h2, decide_false, Bool.false_and, Bool.or_self])
theorem kinds_Small_ev (s : List Int) (hn : s.length ≤ 140737488355328) : Ev (fun k => kinds_Small.f k s) (smls s) := by
  refine Ev.congr (fun k => by rw [kinds_Small.f]) ?_
  simp only [Int.toNat_natCast]
  simp only [if_pos (show 0 ≤ (s.length : Int) by omega), if_pos (show s.length ≤ 281474976710656 by omega)]
  rw [wrap64_id (by omega) (by omega)]
  by_cases h0 : s.length = 0
  · refine Ev.step (fun k => by rw [kinds_Small.l0]) ?_
    simp only [if_neg (show ¬ (s.length : Int) - 2 ≥ 0 by omega), h0]
    have : s = [] := List.eq_nil_of_length_eq_zero h0
    subst this
    exact Ev.now _
  · have e : (s.length : Int) - 2 = ((s.length - 1 : Nat) : Int) - 1 := by omega
    rw [e]
    refine kinds_Small_l0 s hn (s.length - 1) _ (by simp) (by omega) (fun j h1 h2 => ?_)
    rw [getD_replicate, sml_last (by omega)]
theorem kinds_First_l0 (s : List Int) (hn : s.length ≤ 140737488355328) : ∀ (d i : Nat) (acc : List Int), i + d = s.length → acc = frs s i → s.length ≤ 17592186044416 →
    Ev (fun k => kinds_First.l0 k acc (smls s) (s.length : Int) (i : Int)) (frs s s.length) := by
  intro d
  induction d with
  | zero =>
    intro i acc hd ha hm
    obtain rfl : i = s.length := by omega
    subst ha
    refine Ev.step (fun k => by rw [kinds_First.l0]) ?_
    simp only [if_neg (show ¬ (s.length : Int) < s.length by omega)]
    exact Ev.now _
  | succ d ih =>
    intro i acc hd ha hm
    have hi : i < s.length := by omega
    refine Ev.step (fun k => by rw [kinds_First.l0]) ?_
    have hl := frs_len s i
    rw [← ha] at hl
    simp only [if_pos (show (i : Int) < s.length by omega), if_pos (show 0 ≤ (i : Int) by omega), wrap_nat hi hn, smls_length, rdB_nat, smls_get hi]
    have key : ∀ acc' : List Int, acc' = acc ++ (if isFr s i = true then [(i : Int)] else []) → Ev (fun k => kinds_First.l0 k acc' (smls s) (s.length : Int) ((i + 1 : Nat) : Int)) (frs s s.length) := fun acc' h => ih (i + 1) acc' (by omega) (by rw [h, ha, frs_succ]) hm
    by_cases h0 : 0 < i
    · have w : wrap64 ((i : Int) - 1) = ((i - 1 : Nat) : Int) := by rw [wrap64_id (by omega) (by omega)]; omega
      simp only [if_pos (show (i : Int) > 0 by omega), w, rdB_nat, smls_get (show i - 1 < s.length by omega)]
      simp only [if_pos (show (0 : Int) ≤ ((i - 1 : Nat) : Int) by omega), if_pos (show ((i - 1 : Nat) : Int) < s.length by omega)]
      by_cases h1 : sml s i = true
      · simp only [h1, if_true]
        by_cases h2 : sml s (i - 1) = true
        · simp only [h2, if_true]
          exact key _ (by simp [isFr, h2])
        · have h2' : sml s (i - 1) = false := by simpa using h2
          simp only [h2', if_neg (show ¬ false = true by decide), if_pos (show acc.length < 17592186044416 by omega)]
          exact key _ (by simp [isFr, h0, h1, h2'])
      · have h1' : sml s i = false := by simpa using h1
        simp only [h1', if_neg (show ¬ false = true by decide)]
        exact key _ (by simp [isFr, h1'])
    · simp only [if_neg (show ¬ (i : Int) > 0 by omega)]
      exact key _ (by simp [isFr, h0])
theorem kinds_First_ev (s : List Int) (hn : s.length ≤ 17592186044416) : Ev (fun k => kinds_First.f k s) (frs s s.length) := by
  refine Ev.congr (fun k => by rw [kinds_First.f]) ?_
  refine Ev.bind (kinds_Small_ev s (by omega)) ?_
  exact kinds_First_l0 s (by omega) s.length 0 [] (by omega) (by simp [frs]) hn
theorem slices_Equal_l0 (a b : List Int) (hl : a.length = b.length) (hn : a.length ≤ 140737488355328) : ∀ (d i : Nat), i + d = a.length → (∀ j, j < i → a.getD j 0 = b.getD j 0) → Ev (fun k => slices_Equal_int_int.l0 k a b (a.length : Int) (i : Int)) (decide (a = b)) := by
  intro d
  induction d with
  | zero =>
    intro i hd h
    refine Ev.step (fun k => by rw [slices_Equal_int_int.l0]) ?_
    simp only [if_neg (show ¬ (i : Int) < a.length by omega)]
    rw [decide_eq_true (ext_getD hl (fun j hj => h j (by omega)))]
    exact Ev.now _
  | succ d ih =>
    intro i hd h
    have hi : i < a.length := by omega
    refine Ev.step (fun k => by rw [slices_Equal_int_int.l0]) ?_
    simp only [if_pos (show (i : Int) < a.length by omega), if_pos (show 0 ≤ (i : Int) by omega), if_pos (show (i : Int) < b.length by omega), rd_nat, wrap_nat hi hn]
    by_cases e : a.getD i 0 = b.getD i 0
    · simp only [if_pos e]
      refine ih (i + 1) (by omega) (fun j hj => ?_)
      by_cases e2 : j = i
      · rw [e2]; exact e
      · exact h j (by omega)
    · simp only [if_neg e]
      rw [decide_eq_false (fun hab => e (by rw [hab]))]
      exact Ev.now _
theorem slices_Equal_ev (a b : List Int) (hn : a.length ≤ 140737488355328) : Ev (fun k => slices_Equal_int_int.f k a b) (decide (a = b)) := by
  refine Ev.congr (fun k => by rw [slices_Equal_int_int.f]) ?_
  by_cases e : a.length = b.length
  · simp only [if_pos (show (a.length : Int) = b.length by omega)]
    exact slices_Equal_l0 a b e hn a.length 0 (by omega) (fun j hj => by omega)
  · simp only [if_neg (show ¬ (a.length : Int) = b.length by omega)]
    rw [decide_eq_false (fun hab => e (by rw [hab]))]
    exact Ev.now _
open Go.Proofs.Ytbbpplnnegdenaa.So Go.Proofs.Ytbbpplnnegdenaa.St
theorem firstF_eq {s st row : List Int} {j v : Nat} (hj : j < s.length) (hs0 : 0 ≤ s.getD j 0) (hs1 : s.getD j 0 < st.length) (hv : st.getD (s.getD j 0).toNat 0 = (v : Int)) (hvl : v < row.length) (hb : row.length ≤ 1000000) :
    firstF s st row (j : Int) = some (st.set (s.getD j 0).toNat ((v : Int) + 1), row.set v (j : Int)) := by
  unfold firstF
  rw [Int.toNat_natCast, hv, if_pos ⟨by omega, by omega⟩, if_pos ⟨hs0, hs1⟩, if_pos ⟨by omega, by omega, by omega⟩, Int.toNat_natCast]
theorem lastF_eq {s en row : List Int} {j v : Nat} (hj : j < s.length) (hs0 : 0 ≤ s.getD j 0) (hs1 : s.getD j 0 < en.length) (hv : en.getD (s.getD j 0).toNat 0 = (v : Int) + 1) (hvl : v < row.length) (hb : row.length ≤ 1000000) :
    lastF s en row (j : Int) = some (en.set (s.getD j 0).toNat (v : Int), row.set v (j : Int)) := by
  unfold lastF
  rw [Int.toNat_natCast, hv, if_pos ⟨by omega, by omega⟩, if_pos ⟨hs0, hs1⟩, if_pos ⟨by omega, by omega, by omega⟩, show (v : Int) + 1 - 1 = v by omega, Int.toNat_natCast]
def cdOf (l : List Int) (x : Nat) : Int := (l.idxOf (x : Int) : Int)
theorem cdOf_ok {s l : List Int} (hs : ∀ x ∈ s, 0 ≤ x) (hf : ∀ x, x ∈ l ↔ x ∈ frs s s.length) : cdOk s (cdOf l) := by
  refine ⟨hs, fun a b ha hb h => ?_⟩
  have h1 := idxOf_getD ((hf (a : Int)).2 (frs_iff.2 ⟨a, rfl, ha⟩))
  have h2 := idxOf_getD ((hf (b : Int)).2 (frs_iff.2 ⟨b, rfl, hb⟩))
  unfold cdOf at h
  have h3 : l.idxOf (a : Int) = l.idxOf (b : Int) := by omega
  rw [h3, h2] at h1
  omega
theorem cdOf_at {l : List Int} (hnd : l.Nodup) {m q : Nat} (hm : m < l.length) (h : l.getD m 0 = (q : Int)) : cdOf l q = m := by
  unfold cdOf
  have h1 : (q : Int) ∈ l := by rw [← h]; exact getD_mem hm
  have := getD_inj hnd (List.idxOf_lt_length_of_mem h1) hm (by rw [idxOf_getD h1, h])
  rw [this]
theorem lastAll_go {s first : List Int} {k : Nat} (hn : s.length ≤ 1000000) (hv : ∀ x ∈ s, 0 ≤ x ∧ x < (k : Int)) (hf : ∀ x, x ∈ first ↔ x ∈ frs s s.length) (hnd : first.Nodup) :
    ∀ (m : Nat), m ≤ first.length → ∀ (en row : List Int), en.length = k →
    (∀ c : Nat, c < k → en.getD c 0 + (cN s.length (fun x => isFr s x && (decide (s.getD x 0 = (c : Int)) && decide ((m : Int) ≤ cdOf first x))) : Nat) = (eN s c : Int)) →
    RowI s.length (posU s (cdOf first)) (fun x => isFr s x = true ∧ (m : Int) ≤ cdOf first x) row →
    ∃ X, lastAll s (first.take m).reverse en row = some X ∧ RowI s.length (posU s (cdOf first)) (fun x => isFr s x = true) X.2 := by
  have hc : cdOk s (cdOf first) := cdOf_ok (fun x hx => (hv x hx).1) hf
  intro m
  induction m with
  | zero =>
    intro hm en row hl he hr
    refine ⟨(en, row), by simp [lastAll], hr.congr (fun x _ => ⟨fun h => ⟨h, by unfold cdOf; omega⟩, fun h => h.1⟩) (fun _ _ _ => rfl)⟩
  | succ m ih =>
    intro hm en row hl he hr
    obtain ⟨q, hq, hqf⟩ := frs_iff.1 ((hf _).1 (getD_mem (show m < first.length by omega)))
    have hcq := cdOf_at hnd (by omega) hq
    have hqn := fr_in hqf
    have hvq := hv _ (getD_mem hqn)
    obtain ⟨c, hcc⟩ : ∃ c : Nat, s.getD q 0 = (c : Int) := ⟨(s.getD q 0).toNat, by omega⟩
    have hck : c < k := by omega
    have hone : cN s.length (fun x => isFr s x && (decide (s.getD x 0 = (c : Int)) && decide ((m : Int) ≤ cdOf first x))) = cN s.length (fun x => isFr s x && (decide (s.getD x 0 = (c : Int)) && decide (((m + 1 : Nat) : Int) ≤ cdOf first x))) + 1 := by
      refine cN_one hqn (by simp [hcq]; omega) (fun x hx => ?_)
      rw [Bool.eq_iff_iff]
      simp only [Bool.or_eq_true, Bool.and_eq_true, decide_eq_true_eq, beq_iff_eq]
      constructor
      · rintro ⟨h1, h2, h3⟩
        by_cases e : x = q
        · exact .inr e
        · refine .inl ⟨h1, h2, ?_⟩
          have : cdOf first x ≠ m := fun h => e (hc.2 x q h1 hqf (by rw [h, hcq]))
          omega
      · rintro (⟨h1, h2, h3⟩ | rfl)
        · exact ⟨h1, h2, by omega⟩
        · exact ⟨hqf, hcc, by omega⟩
    have hpos := pos_fr (cd := cdOf first) hqf
    rw [hcc, hcq] at hpos
    have hen := he c hck
    have hlf := lastF_eq (s := s) (en := en) (row := row) (j := q) (v := posU s (cdOf first) q) hqn hvq.1 (by omega) (by rw [hcc, Int.toNat_natCast]; omega) (by rw [hr.len]; exact pos_lt hqn) (by rw [hr.len]; exact hn)
    rw [take_next (by omega), List.reverse_append, List.reverse_singleton, List.singleton_append, lastAll, hq, hlf, Option.bind_some, hcc, Int.toNat_natCast]
    refine ih (by omega) _ _ (by rw [List.length_set, hl]) (fun c' hc' => ?_) (hr.set hqn (pos_lt hqn) (fun x hx hx2 hne h => hne (pos_inj hc hx hqn (.inr hx2.1) (.inr hqf) h)) (fun x hx => ?_))
    · rw [lset (by omega)]
      by_cases e : c = c'
      · rw [if_pos e, ← e]; omega
      · rw [if_neg e]
        have := he c' hc'
        rw [cN_congr (q := fun x => isFr s x && (decide (s.getD x 0 = (c' : Int)) && decide (((m + 1 : Nat) : Int) ≤ cdOf first x)))]
        · exact this
        · intro x hx
          rw [Bool.eq_iff_iff]
          simp only [Bool.and_eq_true, decide_eq_true_eq]
          constructor
          · rintro ⟨h1, h2, h3⟩
            refine ⟨h1, h2, ?_⟩
            have : cdOf first x ≠ m := fun h => by
              have := hc.2 x q h1 hqf (by rw [h, hcq])
              subst this; omega
            omega
          · rintro ⟨h1, h2, h3⟩; exact ⟨h1, h2, by omega⟩
    · constructor
      · rintro ⟨h1, h2⟩
        by_cases e : x = q
        · exact .inr e
        · have : cdOf first x ≠ m := fun h => e (hc.2 x q h1 hqf (by rw [h, hcq]))
          exact .inl ⟨h1, by omega⟩
      · rintro (⟨h1, h2⟩ | rfl)
        · exact ⟨h1, by omega⟩
        · exact ⟨hqf, by omega⟩
theorem largeL_go {s : List Int} {cd : Nat → Int} {k : Nat} (hc : cdOk s cd) (hn : s.length ≤ 1000000) (hv : ∀ x ∈ s, 0 ≤ x ∧ x < (k : Int)) :
    ∀ (d i : Nat) (st row : List Int), i + d = s.length → st.length = k →
    (∀ c : Nat, c < k → st.getD c 0 = ((bN s c + cN s.length (fun x => !sml s x && (decide (s.getD x 0 = (c : Int)) && (decide (x + 1 = s.length) || decide (posU s cd (x + 1) < i)))) : Nat) : Int)) →
    RowI s.length (posU s cd) (fun x => isFr s x = true ∨ (sml s x = false ∧ (x + 1 = s.length ∨ posU s cd (x + 1) < i))) row →
    ∃ r, largeL s (smls s) d i st row = some r ∧ RowI s.length (posU s cd) (fun x => isFr s x = true ∨ sml s x = false) r := by
  intro d
  induction d with
  | zero =>
    intro i st row hd hl hst hr
    refine ⟨row, rfl, hr.congr (fun x hx => ⟨fun h => h.imp id (fun h => ⟨h, ?_⟩), fun h => h.imp id (fun h => h.1)⟩) (fun _ _ _ => rfl)⟩
    by_cases e : x + 1 = s.length
    · exact .inl e
    · have := pos_lt (cd := cd) (show x + 1 < s.length by omega)
      exact .inr (by omega)
  | succ d ih =>
    intro i st row hd hl hst hr
    have hi : i < s.length := by omega
    have hG : ∀ q, q < s.length → inU s q → posU s cd q = i → row.getD i 0 = (q : Int) := fun q hq uq he => by
      rw [← he]
      refine hr.at_ q hq ?_
      cases h1 : isFr s q
      · have h2 : sml s q = false := uq.elim id (fun k => by rw [h1] at k; cases k)
        refine .inr ⟨h2, ?_⟩
        by_cases e : q + 1 = s.length
        · exact .inl e
        · have := pos_next hc (show q + 1 < s.length by omega) h2
          exact .inr (by omega)
      · exact .inl rfl
    have keep : (∀ x, x < s.length → sml s x = false → x + 1 < s.length → posU s cd (x + 1) ≠ i) → ∃ r, largeL s (smls s) d (i + 1) st row = some r ∧ RowI s.length (posU s cd) (fun x => isFr s x = true ∨ sml s x = false) r := fun hno => by
      refine ih (i + 1) st row (by omega) hl (fun c hck => ?_) (hr.congr (fun x hx => ?_) (fun _ _ _ => rfl))
      · rw [hst c hck]
        congr 2
        refine cN_congr (fun x hx => ?_)
        rw [Bool.eq_iff_iff]
        simp only [Bool.and_eq_true, Bool.or_eq_true, decide_eq_true_eq, Bool.not_eq_true']
        constructor
        · rintro ⟨h1, h2, h3⟩; exact ⟨h1, h2, h3.imp id (fun h => by omega)⟩
        · rintro ⟨h1, h2, h3⟩
          refine ⟨h1, h2, ?_⟩
          by_cases e : x + 1 = s.length
          · exact .inl e
          · have := hno x hx h1 (by omega)
            exact h3.imp id (fun h => by omega)
      · constructor
        · rintro (h | ⟨h1, h3⟩)
          · exact .inl h
          · refine .inr ⟨h1, ?_⟩
            by_cases e : x + 1 = s.length
            · exact .inl e
            · have := hno x hx h1 (by omega)
              exact h3.imp id (fun h => by omega)
        · rintro (h | ⟨h1, h3⟩)
          · exact .inl h
          · exact .inr ⟨h1, h3.imp id (fun h => by omega)⟩
    rw [largeL]
    rcases hr.read hi with h1 | ⟨p, hp, hpl, hpi, h1⟩
    · rw [h1, if_neg (by omega)]
      refine keep (fun x hx h2 h3 h4 => ?_)
      have := hG (x + 1) h3 (inU_next h2) h4
      omega
    · have up : inU s p := hpl.elim .inr (fun h => .inl h.1)
      have hone : ∀ x, x < s.length → sml s x = false → x + 1 < s.length → (posU s cd (x + 1) = i ↔ x + 1 = p) := fun x hx h2 h3 => by
        constructor
        · intro h4; exact pos_inj hc h3 hp (inU_next h2) up (by rw [h4, hpi])
        · intro h4; rw [h4, hpi]
      rw [h1]
      by_cases hp0 : p = 0
      · rw [if_neg (by omega)]
        exact keep (fun x hx h2 h3 h4 => by have := (hone x hx h2 h3).1 h4; omega)
      · obtain ⟨j, rfl⟩ : ∃ j, p = j + 1 := ⟨p - 1, by omega⟩
        have hj : j < s.length := by omega
        rw [show ((j + 1 : Nat) : Int) - 1 = (j : Int) by omega, if_pos (by omega), smls_length, if_pos (by omega), Int.toNat_natCast, smls_get hj]
        cases hs : sml s j
        · rw [if_neg (by simp)]
          have hvj := hv _ (getD_mem hj)
          obtain ⟨c, hcc⟩ : ∃ c : Nat, s.getD j 0 = (c : Int) := ⟨(s.getD j 0).toNat, by omega⟩
          have hck : c < k := by omega
          have hpr := pos_rec hc hp hs
          rw [hpi, hcc] at hpr
          have hff := firstF_eq (s := s) (st := st) (row := row) (j := j) (v := posU s cd j) hj hvj.1 (by omega) (by rw [hcc, Int.toNat_natCast, hst c hck, hpr]) (by rw [hr.len]; exact pos_lt hj) (by rw [hr.len]; exact hn)
          rw [hff, Option.bind_some, hcc, Int.toNat_natCast]
          refine ih (i + 1) _ _ (by omega) (by rw [List.length_set, hl]) (fun c' hc' => ?_) (hr.set hj (pos_lt hj) (fun x hx hx2 hne h => hne (pos_inj hc hx hj (hx2.elim .inr (fun h => .inl h.1)) (.inl hs) h)) (fun x hx => ?_))
          · rw [lset (by omega)]
            by_cases e : c = c'
            · rw [if_pos e, ← e, hpr]
              have : cN s.length (fun x => !sml s x && (decide (s.getD x 0 = (c : Int)) && (decide (x + 1 = s.length) || decide (posU s cd (x + 1) < i + 1)))) = cN s.length (fun x => !sml s x && (decide (s.getD x 0 = (c : Int)) && (decide (x + 1 = s.length) || decide (posU s cd (x + 1) < i)))) + 1 := by
                refine cN_one hj (by
                  have e1 : ¬ j + 1 = s.length := by omega
                  have e2 : ¬ posU s cd (j + 1) < i := by omega
                  simp [e1, e2]) (fun x hx => ?_)
                rw [Bool.eq_iff_iff]
                simp only [Bool.and_eq_true, Bool.or_eq_true, decide_eq_true_eq, Bool.not_eq_true', beq_iff_eq]
                constructor
                · rintro ⟨g1, g2, g3⟩
                  by_cases e1 : x + 1 = s.length
                  · exact .inl ⟨g1, g2, .inl e1⟩
                  · by_cases e2 : posU s cd (x + 1) = i
                    · have := (hone x hx g1 (by omega)).1 e2
                      exact .inr (by omega)
                    · exact .inl ⟨g1, g2, .inr (by rcases g3 with g3 | g3 <;> omega)⟩
                · rintro (⟨g1, g2, g3⟩ | rfl)
                  · exact ⟨g1, g2, g3.imp id (fun h => by omega)⟩
                  · exact ⟨hs, hcc, .inr (by omega)⟩
              omega
            · rw [if_neg e, hst c' hc']
              congr 2
              refine cN_congr (fun x hx => ?_)
              rw [Bool.eq_iff_iff]
              simp only [Bool.and_eq_true, Bool.or_eq_true, decide_eq_true_eq, Bool.not_eq_true']
              constructor
              · rintro ⟨g1, g2, g3⟩; exact ⟨g1, g2, g3.imp id (fun h => by omega)⟩
              · rintro ⟨g1, g2, g3⟩
                refine ⟨g1, g2, ?_⟩
                by_cases e1 : x + 1 = s.length
                · exact .inl e1
                · by_cases e2 : posU s cd (x + 1) = i
                  · have := (hone x hx g1 (by omega)).1 e2
                    obtain rfl : x = j := by omega
                    omega
                  · exact .inr (by rcases g3 with g3 | g3 <;> omega)
          · constructor
            · rintro (h | ⟨g1, g3⟩)
              · exact .inl (.inl h)
              · by_cases e1 : x + 1 = s.length
                · exact .inl (.inr ⟨g1, .inl e1⟩)
                · by_cases e2 : posU s cd (x + 1) = i
                  · have := (hone x hx g1 (by omega)).1 e2
                    exact .inr (by omega)
                  · exact .inl (.inr ⟨g1, .inr (by rcases g3 with g3 | g3 <;> omega)⟩)
            · rintro ((h | ⟨g1, g3⟩) | rfl)
              · exact .inl h
              · exact .inr ⟨g1, g3.imp id (fun h => by omega)⟩
              · exact .inr ⟨hs, .inr (by omega)⟩
        · rw [if_pos rfl]
          exact keep (fun x hx h2 h3 h4 => by
            have := (hone x hx h2 h3).1 h4
            obtain rfl : x = j := by omega
            rw [hs] at h2; cases h2)
theorem clearL_go {s : List Int} {cd : Nat → Int} (hc : cdOk s cd) : ∀ (d i : Nat) (row : List Int), i + d = s.length →
    RowI s.length (posU s cd) (fun x => sml s x = false ∨ (isFr s x = true ∧ i ≤ posU s cd x)) row →
    ∃ r, clearL (smls s) d i row = some r ∧ RowI s.length (posU s cd) (fun x => sml s x = false) r := by
  intro d
  induction d with
  | zero =>
    intro i row hd hr
    refine ⟨row, rfl, hr.congr (fun x hx => ⟨.inl, fun h => h.elim id (fun h => ?_)⟩) (fun _ _ _ => rfl)⟩
    have := pos_lt (cd := cd) hx
    omega
  | succ d ih =>
    intro i row hd hr
    have hi : i < s.length := by omega
    rw [clearL]
    rcases hr.read hi with h1 | ⟨p, hp, hpl, hpi, h1⟩
    · rw [h1, if_neg (by omega)]
      refine ih (i + 1) row (by omega) (hr.congr (fun x hx => ⟨fun h => h.imp id (fun h => ⟨h.1, by omega⟩), fun h => h.imp id (fun h => ⟨h.1, ?_⟩)⟩) (fun _ _ _ => rfl))
      have : posU s cd x ≠ i := fun e => by
        have := hr.at_ x hx (.inr h)
        rw [e, h1] at this; omega
      omega
    · have up : inU s p := hpl.elim .inl (fun h => .inr h.1)
      rw [h1, if_pos (by omega), smls_length, if_pos (by omega), Int.toNat_natCast, smls_get hp]
      cases hs : sml s p
      · rw [if_neg (by simp)]
        refine ih (i + 1) row (by omega) (hr.congr (fun x hx => ⟨fun h => h.imp id (fun h => ⟨h.1, by omega⟩), fun h => h.imp id (fun h => ⟨h.1, ?_⟩)⟩) (fun _ _ _ => rfl))
        have : posU s cd x ≠ i := fun e => by
          have := pos_inj hc hx hp (.inr h.1) up (by rw [e, hpi])
          subst this
          rw [fr_sml h.1] at hs; cases hs
        omega
      · have hf : isFr s p = true := up.elim (fun h => by rw [hs] at h; cases h) id
        rw [if_pos rfl, ← hpi]
        have hset := hr.del (pl' := fun x => sml s x = false ∨ (isFr s x = true ∧ i + 1 ≤ posU s cd x)) hp (pos_lt hp) (fun x hx hx2 hne h => hne (pos_inj hc hx hp (hx2.elim .inl (fun h => .inr h.1)) up h)) (fun x hx => ?_)
        · rw [hpi] at hset ⊢
          exact ih (i + 1) _ (by omega) hset
        · constructor
          · rintro (h | ⟨h2, h3⟩)
            · exact ⟨.inl h, fun e => by subst e; rw [hs] at h; cases h⟩
            · exact ⟨.inr ⟨h2, by omega⟩, fun e => by subst e; omega⟩
          · rintro ⟨h | ⟨h2, h3⟩, h4⟩
            · exact .inl h
            · refine .inr ⟨h2, ?_⟩
              have : posU s cd x ≠ i := fun e => h4 (pos_inj hc hx hp (.inr h2) up (by rw [e, hpi]))
              omega
theorem smallL_go {s : List Int} {cd : Nat → Int} {k : Nat} (hc : cdOk s cd) (hn : s.length ≤ 1000000) (hv : ∀ x ∈ s, 0 ≤ x ∧ x < (k : Int)) :
    ∀ (d : Nat) (en row : List Int), d ≤ s.length → en.length = k →
    (∀ c : Nat, c < k → en.getD c 0 + (cN s.length (fun x => sml s x && (decide (s.getD x 0 = (c : Int)) && decide (d ≤ ixK s cd (x + 1)))) : Nat) = (eN s c : Int)) →
    RowI s.length (ixK s cd) (fun x => sml s x = false ∨ d ≤ ixK s cd (x + 1)) row →
    ∃ r, smallL s (smls s) d en row = some r ∧ RowI s.length (ixK s cd) (fun _ => True) r := by
  intro d
  induction d with
  | zero =>
    intro en row hd hl hen hr
    exact ⟨row, rfl, hr.congr (fun x hx => ⟨fun _ => .inr (by omega), fun _ => trivial⟩) (fun _ _ _ => rfl)⟩
  | succ d ih =>
    intro en row hd hl hen hr
    obtain ⟨q, hq, hqd⟩ := ix_onto hc (show d < s.length by omega)
    have hrow : row.getD d 0 = (q : Int) := by
      rw [← hqd]
      refine hr.at_ q hq ?_
      cases h : sml s q
      · exact .inl rfl
      · have := ix_next (cd := cd) h
        exact .inr (by omega)
    have hone : ∀ x, sml s x = true → (ixK s cd (x + 1) = d ↔ x + 1 = q) := fun x h1 => by
      constructor
      · intro h2; exact ix_inj hc (sml_in h1) hq (by rw [h2, hqd])
      · intro h2; rw [h2, hqd]
    have keep : (∀ x, sml s x = true → x + 1 ≠ q) → ∃ r, smallL s (smls s) d en row = some r ∧ RowI s.length (ixK s cd) (fun _ => True) r := fun hno => by
      refine ih en row (by omega) hl (fun c hck => ?_) (hr.congr (fun x hx => ?_) (fun _ _ _ => rfl))
      · rw [← hen c hck]
        congr 2
        refine cN_congr (fun x hx => ?_)
        rw [Bool.eq_iff_iff]
        simp only [Bool.and_eq_true, decide_eq_true_eq]
        constructor
        · rintro ⟨h1, h2, h3⟩
          have : ixK s cd (x + 1) ≠ d := fun e => hno x h1 ((hone x h1).1 e)
          exact ⟨h1, h2, by omega⟩
        · rintro ⟨h1, h2, h3⟩; exact ⟨h1, h2, by omega⟩
      · constructor
        · rintro (h | h)
          · exact .inl h
          · cases h1 : sml s x
            · exact .inl rfl
            · have : ixK s cd (x + 1) ≠ d := fun e => hno x h1 ((hone x h1).1 e)
              exact .inr (by omega)
        · rintro (h | h)
          · exact .inl h
          · exact .inr (by omega)
    rw [smallL, hrow]
    by_cases hq0 : q = 0
    · rw [if_neg (by omega)]
      exact keep (fun x _ => by omega)
    · obtain ⟨j, rfl⟩ : ∃ j, q = j + 1 := ⟨q - 1, by omega⟩
      have hj : j < s.length := by omega
      rw [show ((j + 1 : Nat) : Int) - 1 = (j : Int) by omega, if_pos (by omega), smls_length, if_pos (by omega), Int.toNat_natCast, smls_get hj]
      cases hs : sml s j
      · rw [if_neg (by simp)]
        exact keep (fun x h1 h2 => by obtain rfl : x = j := by omega
                                      rw [hs] at h1; cases h1)
      · rw [if_pos rfl]
        have hvj := hv _ (getD_mem hj)
        obtain ⟨c, hcc⟩ : ∃ c : Nat, s.getD j 0 = (c : Int) := ⟨(s.getD j 0).toNat, by omega⟩
        have hck : c < k := by omega
        have hir := ix_rec hc hs
        rw [hqd, hcc] at hir
        have he := hen c hck
        have hsame : cN s.length (fun x => sml s x && (decide (s.getD x 0 = (c : Int)) && decide (d + 1 ≤ ixK s cd (x + 1)))) = cN s.length (fun x => sml s x && (decide (s.getD x 0 = (c : Int)) && decide (d < ixK s cd (x + 1)))) := cN_congr (fun x hx => rfl)
        have hlf := lastF_eq (s := s) (en := en) (row := row) (j := j) (v := ixK s cd j) hj hvj.1 (by omega) (by rw [hcc, Int.toNat_natCast]; omega) (by rw [hr.len]; exact ix_lt hj) (by rw [hr.len]; exact hn)
        rw [hlf, Option.bind_some, hcc, Int.toNat_natCast]
        refine ih _ _ (by omega) (by rw [List.length_set, hl]) (fun c' hc' => ?_) (hr.set hj (ix_lt hj) (fun x hx hx2 hne h => hne (ix_inj hc hx hj h)) (fun x hx => ?_))
        · rw [lset (by omega)]
          by_cases e : c = c'
          · rw [if_pos e, ← e]
            have : cN s.length (fun x => sml s x && (decide (s.getD x 0 = (c : Int)) && decide (d ≤ ixK s cd (x + 1)))) = cN s.length (fun x => sml s x && (decide (s.getD x 0 = (c : Int)) && decide (d + 1 ≤ ixK s cd (x + 1)))) + 1 := by
              refine cN_one hj (by
                have e1 : ¬ d + 1 ≤ ixK s cd (j + 1) := by omega
                simp [e1]) (fun x hx => ?_)
              rw [Bool.eq_iff_iff]
              simp only [Bool.and_eq_true, Bool.or_eq_true, decide_eq_true_eq, beq_iff_eq]
              constructor
              · rintro ⟨g1, g2, g3⟩
                by_cases e2 : ixK s cd (x + 1) = d
                · have := (hone x g1).1 e2
                  exact .inr (by omega)
                · exact .inl ⟨g1, g2, by omega⟩
              · rintro (⟨g1, g2, g3⟩ | rfl)
                · exact ⟨g1, g2, by omega⟩
                · exact ⟨hs, hcc, by omega⟩
            omega
          · rw [if_neg e, ← hen c' hc']
            congr 2
            refine cN_congr (fun x hx => ?_)
            rw [Bool.eq_iff_iff]
            simp only [Bool.and_eq_true, decide_eq_true_eq]
            constructor
            · rintro ⟨g1, g2, g3⟩
              refine ⟨g1, g2, ?_⟩
              by_cases e2 : ixK s cd (x + 1) = d
              · have := (hone x g1).1 e2
                obtain rfl : x = j := by omega
                omega
              · omega
            · rintro ⟨g1, g2, g3⟩; exact ⟨g1, g2, by omega⟩
        · constructor
          · rintro (h | h)
            · exact .inl (.inl h)
            · cases h1 : sml s x
              · exact .inl (.inl rfl)
              · by_cases e2 : ixK s cd (x + 1) = d
                · have := (hone x h1).1 e2
                  exact .inr (by omega)
                · exact .inl (.inr (by omega))
          · rintro ((h | h) | rfl)
            · exact .inl h
            · exact .inr (by omega)
            · exact .inr (by omega)
theorem filt_cN {s : List Int} {f : Int → Bool} : ∀ {m : Nat}, m ≤ s.length → ((s.take m).filter f).length = cN m (fun x => f (s.getD x 0))
  | 0, _ => by simp [cN]
  | m + 1, h => by
    rw [take_next (by omega), List.filter_append, List.length_append, filt_cN (by omega), cN_succ]
    congr 1
    cases h1 : f (s.getD m 0)
    · rw [List.filter_cons_of_neg (by rw [h1]; simp)]; simp
    · rw [List.filter_cons_of_pos h1]; simp
theorem starts_bN {s : List Int} {k c : Nat} (hv : ∀ x ∈ s, 0 ≤ x ∧ x < (k : Int)) (hc : c < k) : (startsOf (cntsOf id s k)).getD c 0 = (bN s c : Int) := by
  rw [startsOf_get (by rw [cntsOf_length]; exact hc), cnts_sum (by omega), stab_len]
  have h := filt_cN (s := s) (f := fun i => decide (0 ≤ id i ∧ id i < (c : Int))) (Nat.le_refl s.length)
  rw [List.take_length] at h
  rw [h]
  congr 1
  refine cN_congr (fun x hx => ?_)
  have := hv _ (getD_mem hx)
  rw [decide_eq_decide]
  simp only [id]
  omega
theorem kcnt_cN {s : List Int} {c : Nat} : (kcnt id s c : Int) + (bN s c : Int) = (eN s c : Int) := by
  have h := filt_cN (s := s) (f := fun i => id i == (c : Int)) (Nat.le_refl s.length)
  rw [List.take_length] at h
  unfold kcnt
  rw [h]
  have : eN s c = bN s c + cN s.length (fun x => id (s.getD x 0) == (c : Int)) := by
    refine cN_add (fun x hx h1 => ?_) (fun x hx => ?_)
    · simp only [decide_eq_true_eq] at h1
      simp only [beq_eq_false_iff_ne, id]
      omega
    · rw [Bool.eq_iff_iff]
      simp only [Bool.or_eq_true, decide_eq_true_eq, beq_iff_eq, id]
      omega
  omega
theorem endsL_get (co : List Int) (c : Nat) (hc : c < co.length) : ∀ (d i : Nat) (l : List Int), i + d = co.length → l.length = co.length → (endsL co d i l).getD c 0 = if i ≤ c then wrap64 (l.getD c 0 + co.getD c 0) else l.getD c 0
  | 0, i, l, hd, hl => by rw [endsL, if_neg (by omega)]
  | d + 1, i, l, hd, hl => by
    rw [endsL, endsL_get co c hc d (i + 1) _ (by omega) (by rw [List.length_set, hl])]
    rw [lset (by omega)]
    by_cases e : i = c
    · rw [if_neg (by omega), if_pos e, if_pos (by omega), e]
    · rw [if_neg e]
      by_cases e2 : i ≤ c
      · rw [if_pos (by omega), if_pos e2]
      · rw [if_neg (by omega), if_neg e2]
theorem ends_eN {s : List Int} {k c : Nat} (hn : s.length ≤ 1000000) (hv : ∀ x ∈ s, 0 ≤ x ∧ x < (k : Int)) (hc : c < k) :
    (endsL (cntsOf id s k) (cntsOf id s k).length 0 (startsOf (cntsOf id s k))).getD c 0 = (eN s c : Int) := by
  rw [endsL_get _ c (by rw [cntsOf_length]; exact hc) _ 0 _ (by omega) (by rw [startsOf_length]), if_pos (by omega), starts_bN hv hc, cntsOf_get hc]
  have := kcnt_cN (s := s) (c := c)
  have := eN_le s c
  rw [wrap64_id (by omega) (by omega)]
  omega
theorem sortL_spec {s first : List Int} {k : Nat} (h0 : 0 < s.length) (hn : s.length ≤ 1000000) (hv : ∀ x ∈ s, 0 ≤ x ∧ x < (k : Int)) (hf : ∀ x, x ∈ first ↔ x ∈ frs s s.length) (hnd : first.Nodup) :
    ∃ r, sortL s first (cntsOf id s k) (smls s) (startsOf (cntsOf id s k)) = some r ∧ r.length = s.length ∧ (∀ x ∈ r, 0 ≤ x ∧ x < (s.length : Int)) ∧ r.Pairwise (fun x y => ltL (kKey s (cdOf first) x.toNat) (kKey s (cdOf first) y.toNat)) := by
  have hc : cdOk s (cdOf first) := cdOf_ok (fun x hx => (hv x hx).1) hf
  have hcl : ∀ x, isFr s x = true → cdOf first x < first.length := fun x hx => by
    have := List.idxOf_lt_length_of_mem ((hf (x : Int)).2 (frs_iff.2 ⟨x, rfl, hx⟩))
    unfold cdOf; omega
  have hel : (endsL (cntsOf id s k) (cntsOf id s k).length 0 (startsOf (cntsOf id s k))).length = k := by rw [endsL_length, startsOf_length, cntsOf_length]
  obtain ⟨X, e1, r1⟩ := lastAll_go hn hv hf hnd first.length (Nat.le_refl _) (endsL (cntsOf id s k) (cntsOf id s k).length 0 (startsOf (cntsOf id s k))) (List.replicate s.length (-1)) hel
    (fun c hck => by
      rw [ends_eN hn hv hck, cN_zero]
      · omega
      · intro x hx
        cases h1 : isFr s x
        · rfl
        · have := hcl x h1
          have : ¬ (first.length : Int) ≤ cdOf first x := by omega
          simp [this])
    ⟨by simp, fun p hp hp2 => by have := hcl p hp2.1; omega, fun q hq => .inl (by rw [List.getD_eq_getElem?_getD, List.getElem?_replicate, if_pos hq]; rfl)⟩
  rw [List.take_length] at e1
  have hlast : sml s (s.length - 1) = false := sml_last (by omega)
  have hj : s.length - 1 < s.length := by omega
  have hvj := hv _ (getD_mem hj)
  obtain ⟨c, hcc⟩ : ∃ c : Nat, s.getD (s.length - 1) 0 = (c : Int) := ⟨(s.getD (s.length - 1) 0).toNat, by omega⟩
  have hck : c < k := by omega
  have hpl := pos_last hc h0
  have hff := firstF_eq (s := s) (st := startsOf (cntsOf id s k)) (row := X.2) (j := s.length - 1) (v := posU s (cdOf first) (s.length - 1)) hj hvj.1 (by rw [startsOf_length, cntsOf_length]; omega)
    (by rw [hcc, Int.toNat_natCast, starts_bN hv hck, hpl, hcc]) (by rw [r1.len]; exact pos_lt hj) (by rw [r1.len]; exact hn)
  rw [show ((s.length - 1 : Nat) : Int) = (s.length : Int) - 1 by omega, hcc, Int.toNat_natCast] at hff
  have r2 := r1.set (pl' := fun x => isFr s x = true ∨ (sml s x = false ∧ (x + 1 = s.length ∨ posU s (cdOf first) (x + 1) < 0))) hj (pos_lt hj) (fun x hx hx2 hne h => hne (pos_inj hc hx hj (.inr hx2) (.inl hlast) h)) (fun x hx => by
    constructor
    · rintro (h | ⟨_, h | h⟩)
      · exact .inl h
      · exact .inr (by omega)
      · omega
    · rintro (h | h)
      · exact .inl h
      · exact .inr ⟨by rw [h]; exact hlast, .inl (by omega)⟩)
  rw [show ((s.length - 1 : Nat) : Int) = (s.length : Int) - 1 by omega] at r2
  obtain ⟨r, e3, r3⟩ := largeL_go hc hn hv s.length 0 ((startsOf (cntsOf id s k)).set c ((posU s (cdOf first) (s.length - 1) : Int) + 1)) _ (by omega) (by rw [List.length_set, startsOf_length, cntsOf_length])
    (fun c' hc' => by
      rw [lset (by rw [startsOf_length, cntsOf_length]; exact hck)]
      by_cases e : c = c'
      · rw [if_pos e, ← e, hpl, hcc]
        have : cN s.length (fun x => !sml s x && (decide (s.getD x 0 = (c : Int)) && (decide (x + 1 = s.length) || decide (posU s (cdOf first) (x + 1) < 0)))) = cN s.length (fun x => x == s.length - 1) := by
          refine cN_congr (fun x hx => ?_)
          rw [Bool.eq_iff_iff]
          simp only [Bool.and_eq_true, Bool.or_eq_true, decide_eq_true_eq, Bool.not_eq_true', beq_iff_eq]
          constructor
          · rintro ⟨g1, g2, g3⟩; omega
          · intro g
            subst g
            exact ⟨hlast, hcc, .inl (by omega)⟩
        rw [this, cN_single hj]
        omega
      · rw [if_neg e, starts_bN hv hc', cN_zero]
        · omega
        · intro x hx
          rw [Bool.eq_false_iff]
          simp only [ne_eq, Bool.and_eq_true, Bool.or_eq_true, decide_eq_true_eq, Bool.not_eq_true', not_and]
          intro g1 g2 g3
          have : x = s.length - 1 := by omega
          subst this
          omega) r2
  obtain ⟨r', e4, r4⟩ := clearL_go hc s.length 0 r (by omega) (r3.congr (fun x hx => ⟨fun h => h.elim .inr (fun h => .inl h.1), fun h => h.elim (fun h => .inr ⟨h, by omega⟩) .inl⟩) (fun _ _ _ => rfl))
  obtain ⟨r'', e5, r5⟩ := smallL_go hc hn hv s.length (endsL (cntsOf id s k) (cntsOf id s k).length 0 (startsOf (cntsOf id s k))) r' (Nat.le_refl _) hel
    (fun c' hc' => by
      rw [ends_eN hn hv hc', cN_zero]
      · omega
      · intro x hx
        cases h1 : sml s x
        · rfl
        · have := ix_lt (cd := cdOf first) (sml_in h1)
          have : ¬ s.length ≤ ixK s (cdOf first) (x + 1) := by omega
          simp [this])
    (r4.congr (fun x hx => ⟨fun h => h.elim id (fun h => by
      cases h1 : sml s x
      · rfl
      · have := ix_lt (cd := cdOf first) (sml_in h1)
        omega), .inl⟩) (fun x hx hx2 => (pos_no (sml_no hx2)).symm))
  refine ⟨r'', ?_, r5.whole hc⟩
  unfold sortL
  rw [e1, Option.bind_some, hff, Option.bind_some, r1.len, e3, Option.bind_some, r3.len, e4, Option.bind_some, e5]
open Go.Proofs.Ytbbpplnnegdenaa.Nm Go.Proofs.Ytbbpplnnegdenaa.Srt
theorem srt_frs {s l : List Int} (hf : ∀ x, x ∈ l ↔ x ∈ frs s s.length) (hnd : l.Nodup) : srt l = frs s s.length := by
  have h1 := srt_sorted l
  have h2 : (srt l).Nodup := (srt_perm l).nodup_iff.2 hnd
  refine sorted_uniq (R := fun x y : Int => x < y) (fun x y h k => by omega) ?_ ((frs_apart s s.length).imp (fun h => by omega)) (fun x => srt_mem.trans (hf x))
  exact (h1.and h2).imp (fun h => by have := h.1; have := h.2; omega)
theorem induce_Sort_ev {s l : List Int} {k : Nat} (hn : s.length ≤ 100000) (hk : k ≤ 1048576) (hv : ∀ x ∈ s, 0 ≤ x ∧ x < (k : Int)) (hf : ∀ x, x ∈ l ↔ x ∈ frs s s.length) (hnd : l.Nodup) :
    ∃ r, Ev (fun j => induce_Sort.f j s (k : Int) l) (r, true) ∧ r.length = s.length ∧ (∀ x ∈ r, 0 ≤ x ∧ x < (s.length : Int)) ∧ r.Pairwise (fun x y => ltL (kKey s (cdOf l) x.toNat) (kKey s (cdOf l) y.toNat)) := by
  have hsf := srt_frs hf hnd
  have hll : l.length ≤ s.length := by
    have h1 := srt_length l
    rw [hsf] at h1
    have h2 := frs_len s s.length
    omega
  have hok : okKeys s (k : Int) := ⟨by omega, by omega, hv⟩
  have hcl : (cntsOf id s k).length = k := cntsOf_length _ _ _
  have hall : ∀ r, (s.length = 0 → r = []) → (s.length ≠ 0 → sortL s l (cntsOf id s k) (smls s) (startsOf (cntsOf id s k)) = some r) → Ev (fun j => induce_Sort.f j s (k : Int) l) (r, true) := fun r h0 h1 => by
    refine Ev.congr (fun j => by rw [induce_Sort.f]) ?_
    refine Ev.bind (bucket_Counts_ev s (k : Int) (by omega)) ?_
    rw [countsR, if_pos hok, Int.toNat_natCast]
    refine Ev.bind (kinds_First_ev s (by omega)) ?_
    rw [hsf]
    refine Ev.bind (slices_Equal_ev _ _ (by have := frs_len s s.length; omega)) ?_
    refine Ev.bind (kinds_Small_ev s (by omega)) ?_
    refine Ev.bind (bucket_Starts_ev (cntsOf id s k) (by omega) (cnts_sumsOk (kf := id) (fun x hx => by have := hv x hx; simpa using this) (by omega))) ?_
    simp only [decide_true, if_true, if_pos (show l.length ≤ 1000000 by omega)]
    by_cases hz : s.length = 0
    · rw [h0 hz]
      simp only [if_pos hz]
      exact Ev.now _
    · have hkp : 0 < k := by
        have := hv _ (getD_mem (show 0 < s.length by omega))
        omega
      simp only [if_neg hz, if_pos (show s.length ≤ 1000000 by omega), startsOf_length, if_true, hcl, if_pos hkp, if_pos (show k < 4611686018427387904 by omega), smls_length, if_pos (show s.length < 4611686018427387904 by omega), h1 hz, Option.bind_some]
      exact Ev.now _
  by_cases hz : s.length = 0
  · exact ⟨[], hall [] (fun _ => rfl) (fun h => absurd hz h), by simp [hz], by simp, by simp⟩
  · obtain ⟨r, h1, h2, h3, h4⟩ := sortL_spec (s := s) (first := l) (k := k) (by omega) (by omega) hv hf hnd
    exact ⟨r, hall r (fun h => absurd h hz) (fun _ => h1), h2, h3, h4⟩
def nxv (s : List Int) (q : Nat) : Int := if q + 1 < (frs s s.length).length then (fp s (q + 1) : Int) else s.length
theorem nxv_pos {s : List Int} {q : Nat} (hq : q < (frs s s.length).length) : 0 < nxv s q := by
  unfold nxv
  split
  · rename_i h
    have := fp_rises (s := s) (show q < q + 1 by omega) h
    omega
  · have := fr_in (fp_get hq).2
    omega
theorem fp_inj {s : List Int} {p q : Nat} (hp : p < (frs s s.length).length) (hq : q < (frs s s.length).length) (h : fp s p = fp s q) : p = q := by
  rcases Nat.lt_trichotomy p q with k | k | k
  · have := fp_rises k hq; omega
  · exact k
  · have := fp_rises k hp; omega
theorem nextL_go {s : List Int} : ∀ (d i : Nat) (nx : List Int), i + d = (frs s s.length).length → nx.length = s.length → (∀ q, q < i → nx.getD (fp s q) 0 = nxv s q) → (∀ z, z < s.length → isFr s z = false → nx.getD z 0 = 0) →
    ∃ r, nextL s.length (frs s s.length) d i nx = some r ∧ r.length = s.length ∧ (∀ q, q < (frs s s.length).length → r.getD (fp s q) 0 = nxv s q) ∧ (∀ z, z < s.length → isFr s z = false → r.getD z 0 = 0) := by
  intro d
  induction d with
  | zero => intro i nx hd hl h1 h2; exact ⟨nx, rfl, hl, fun q hq => h1 q (by omega), h2⟩
  | succ d ih =>
    intro i nx hd hl h1 h2
    have hi : i < (frs s s.length).length := by omega
    have fi := fp_get hi
    have hlt := fr_in fi.2
    rw [nextL, fi.1, Int.toNat_natCast, if_pos ⟨by omega, by omega⟩]
    have hv : (if i + 1 < (frs s s.length).length then (frs s s.length).getD (i + 1) 0 else (s.length : Int)) = nxv s i := by
      unfold nxv
      by_cases h : i + 1 < (frs s s.length).length
      · rw [if_pos h, if_pos h, (fp_get h).1]
      · rw [if_neg h, if_neg h]
    rw [hv]
    refine ih (i + 1) _ (by omega) (by rw [List.length_set, hl]) (fun q hq => ?_) (fun z hz hf => ?_)
    · rw [lset (by omega)]
      by_cases e : fp s i = fp s q
      · rw [if_pos e, fp_inj hi (by omega) e]
      · rw [if_neg e]
        exact h1 q (by have : q ≠ i := fun h => e (by rw [h]); omega)
    · rw [lset (by omega), if_neg (fun e => by rw [← e, fi.2] at hf; cases hf)]
      exact h2 z hz hf
theorem pieceL_get {s nx : List Int} (hl : nx.length = s.length) (hn : s.length ≤ 100000) (hnx : ∀ q, q < (frs s s.length).length → nx.getD (fp s q) 0 = nxv s q) {q : Nat} (hq : q + 1 < (frs s s.length).length) :
    pieceL s nx (fp s q : Int) = some ((s.take (fp s (q + 1) + 1)).drop (fp s q)) := by
  have fq := fr_in (fp_get (s := s) (show q < _ by omega)).2
  have fq1 := fr_in (fp_get hq).2
  have hr := fp_rises (s := s) (show q < q + 1 by omega) hq
  have hv : nx.getD (fp s q) 0 = (fp s (q + 1) : Int) := by rw [hnx q (by omega), nxv, if_pos hq]
  unfold pieceL
  rw [if_pos ⟨by omega, by omega⟩, Int.toNat_natCast, hv, if_pos ⟨by omega, by omega, by omega⟩]
  rw [show (min ((fp s (q + 1) : Int) + 1) (s.length : Int)).toNat = fp s (q + 1) + 1 by omega]
theorem piece_get {s : List Int} {x X t : Nat} (h : x + t ≤ X) (hX : X < s.length) : ((s.take (X + 1)).drop x).getD t 0 = s.getD (x + t) 0 := by
  rw [getD_dropI]
  simp only [List.getD_eq_getElem?_getD]
  rw [List.getElem?_take_of_lt (by omega)]
theorem piece_eq {s : List Int} (hs : ∀ x ∈ s, 0 ≤ x) {p q : Nat} (hp : p + 1 < (frs s s.length).length) (hq : q + 1 < (frs s s.length).length) (hpq : p ≠ q) :
    (s.take (fp s (p + 1) + 1)).drop (fp s p) = (s.take (fp s (q + 1) + 1)).drop (fp s q) ↔ kZ s (fp s p) = kZ s (fp s q) := by
  have fp1 := fr_in (fp_get hp).2
  have fq1 := fr_in (fp_get hq).2
  have hrp := fp_rises (s := s) (show p < p + 1 by omega) hp
  have hrq := fp_rises (s := s) (show q < q + 1 by omega) hq
  have l1 : ((s.take (fp s (p + 1) + 1)).drop (fp s p)).length = fp s (p + 1) + 1 - fp s p := by rw [List.length_drop, List.length_take]; omega
  have l2 : ((s.take (fp s (q + 1) + 1)).drop (fp s q)).length = fp s (q + 1) + 1 - fp s q := by rw [List.length_drop, List.length_take]; omega
  constructor
  · intro h
    have hl : fp s (p + 1) + 1 - fp s p = fp s (q + 1) + 1 - fp s q := by rw [← l1, ← l2, h]
    refine fp_alike_of hp hq (by omega) (fun t ht => ?_)
    have h1 := piece_get (s := s) (x := fp s p) (X := fp s (p + 1)) (t := t) (by omega) fp1
    have h2 := piece_get (s := s) (x := fp s q) (X := fp s (q + 1)) (t := t) (by omega) fq1
    rw [← h1, ← h2, h]
  · intro h
    obtain ⟨_, _, a3, a4⟩ := fp_alike hs (by omega) (by omega) hpq h
    refine ext_getD (by rw [l1, l2]; omega) (fun t ht => ?_)
    rw [l1] at ht
    rw [piece_get (by omega) fp1, piece_get (by omega) fq1]
    exact a4 t (by omega)
theorem differL_ev {s nx : List Int} (hs : ∀ x ∈ s, 0 ≤ x) (hn : s.length ≤ 100000) (hl : nx.length = s.length) (hnx : ∀ q, q < (frs s s.length).length → nx.getD (fp s q) 0 = nxv s q) {p q : Nat} (hp : p < (frs s s.length).length) (hq : q < (frs s s.length).length) (hpq : p ≠ q) :
    ∃ b : Bool, Ev (fun k => differL (slices_Equal_int_int.f k) s nx (fp s p : Int) (fp s q : Int)) b ∧ (b = true ↔ kZ s (fp s p) ≠ kZ s (fp s q)) := by
  have fpi := fr_in (fp_get hp).2
  have fqi := fr_in (fp_get hq).2
  by_cases h1 : q + 1 < (frs s s.length).length
  · have hr1 := fr_in (fp_get h1).2
    have e1 : nx.getD (fp s q) 0 ≠ (s.length : Int) := by rw [hnx q hq, nxv, if_pos h1]; omega
    by_cases h2 : p + 1 < (frs s s.length).length
    · have hr2 := fr_in (fp_get h2).2
      have e2 : nx.getD (fp s p) 0 ≠ (s.length : Int) := by rw [hnx p hp, nxv, if_pos h2]; omega
      refine ⟨!decide ((s.take (fp s (p + 1) + 1)).drop (fp s p) = (s.take (fp s (q + 1) + 1)).drop (fp s q)), ?_, ?_⟩
      · refine Ev.congr (fun k => by rw [differL]) ?_
        simp only [Int.toNat_natCast, if_pos (show (0 : Int) ≤ (fp s p : Int) by omega), if_neg e1, if_pos (show (fp s p : Int) < nx.length by omega), if_neg e2, pieceL_get hl hn hnx h2, pieceL_get hl hn hnx h1, Option.bind_some]
        exact Ev.bind (slices_Equal_ev _ _ (by rw [List.length_drop, List.length_take]; omega)) (Ev.now _)
      · rw [Bool.not_eq_true', decide_eq_false_iff_not, piece_eq hs h2 h1 hpq]
    · have e2 : nx.getD (fp s p) 0 = (s.length : Int) := by rw [hnx p hp, nxv, if_neg h2]
      refine ⟨true, ?_, ?_⟩
      · refine Ev.congr (fun k => by rw [differL]) ?_
        simp only [Int.toNat_natCast, if_pos (show (0 : Int) ≤ (fp s p : Int) by omega), if_neg e1, if_pos (show (fp s p : Int) < nx.length by omega), if_pos e2]
        exact Ev.now _
      · simp only [true_iff]
        exact fun h => h2 (fp_alike hs hp hq hpq h).1
  · have e1 : nx.getD (fp s q) 0 = (s.length : Int) := by rw [hnx q hq, nxv, if_neg h1]
    refine ⟨true, ?_, ?_⟩
    · refine Ev.congr (fun k => by rw [differL]) ?_
      simp only [Int.toNat_natCast, if_pos (show (0 : Int) ≤ (fp s p : Int) by omega), if_pos e1]
      exact Ev.now _
    · simp only [true_iff]
      exact fun h => h1 (fp_alike hs hp hq hpq h).2.1
theorem namesL_go {s nx od : List Int} {cd : Nat → Int} (hs : ∀ x ∈ s, 0 ≤ x) (hn : s.length ≤ 100000) (hl : nx.length = s.length) (hnx : ∀ q, q < (frs s s.length).length → nx.getD (fp s q) 0 = nxv s q) (hnz : ∀ z, z < s.length → isFr s z = false → nx.getD z 0 = 0)
    (hol : od.length = s.length) (hor : ∀ x ∈ od, 0 ≤ x ∧ x < (s.length : Int)) (hop : od.Pairwise (fun x y => ltL (kKey s cd x.toNat) (kKey s cd y.toNat))) :
    ∀ (d i : Nat) (nm : List Int) (n last : Int), i + d = od.length → 0 ≤ n → n ≤ i → NmI s (fun x => isFr s x = true ∧ (x : Int) ∈ od.take i) nm n last →
    ∃ nm' n' last', Ev (fun k => namesL (slices_Equal_int_int.f k) s nx od d i nm n last) (nm', n') ∧ 0 ≤ n' ∧ n' ≤ s.length ∧ NmI s (fun x => isFr s x = true ∧ (x : Int) ∈ od) nm' n' last' := by
  intro d
  induction d with
  | zero =>
    intro i nm n last hd h0 hni hI
    rw [List.take_of_length_le (by omega)] at hI
    exact ⟨nm, n, last, Ev.now _, h0, by omega, hI⟩
  | succ d ih =>
    intro i nm n last hd h0 hni hI
    have hi : i < od.length := by omega
    have hz := hor _ (getD_mem hi)
    obtain ⟨z, hzz⟩ : ∃ z : Nat, od.getD i 0 = (z : Int) := ⟨(od.getD i 0).toNat, by omega⟩
    have hzn : z < s.length := by omega
    have htk : ∀ x : Nat, (x : Int) ∈ od.take (i + 1) ↔ (x : Int) ∈ od.take i ∨ x = z := fun x => by
      rw [take_next hi, List.mem_append, List.mem_singleton, hzz]
      constructor
      · rintro (h | h)
        · exact .inl h
        · exact .inr (by omega)
      · rintro (h | h)
        · exact .inl h
        · exact .inr (by omega)
    cases hzf : isFr s z
    · obtain ⟨nm', n', last', e1, e2⟩ := ih (i + 1) nm n last (by omega) h0 (by omega) (hI.congr (fun x => by
        rw [htk]
        constructor
        · rintro ⟨a, b | rfl⟩
          · exact ⟨a, b⟩
          · rw [hzf] at a; cases a
        · rintro ⟨a, b⟩; exact ⟨a, .inl b⟩))
      refine ⟨nm', n', last', ?_, e2⟩
      refine Ev.congr (fun k => by rw [namesL]) ?_
      simp only [hzz, Int.toNat_natCast, if_pos (show 0 ≤ (z : Int) ∧ (z : Int) < nx.length from ⟨by omega, by omega⟩), if_pos (hnz z hzn hzf)]
      exact e1
    · obtain ⟨q, hq, rfl⟩ := fp_of hzf
      have hnq := hnx q hq
      have hnp := nxv_pos hq
      have hbef : ∀ x : Nat, (x : Int) ∈ od.take i → ltL (kKey s cd x) (kKey s cd (fp s q)) := fun x hx => by
        obtain ⟨j, hj, hjx⟩ := List.getElem_of_mem hx
        rw [List.length_take] at hj
        rw [List.getElem_take] at hjx
        have := pair_getD hop (show j < i by omega) hi
        rw [hzz, List.getD_eq_getElem?_getD, List.getElem?_eq_getElem (by omega), Option.getD_some, hjx, Int.toNat_natCast, Int.toNat_natCast] at this
        exact this
      have hzP : ¬ (isFr s (fp s q) = true ∧ ((fp s q : Nat) : Int) ∈ od.take i) := fun h => ltL_irrefl _ (hbef _ h.2)
      have hw : ∀ x, (isFr s x = true ∧ (x : Int) ∈ od.take i) → ¬ ltL (kZ s (fp s q)) (kZ s x) := fun x hx h => key_weak hs s.length x (fp s q) (by omega) (fr_in hx.1) hzn (hbef x hx.2) h
      have hmain : ∃ b : Bool, Ev (fun k => differL (slices_Equal_int_int.f k) s nx last (fp s q : Int)) b ∧ (last = -1 → b = false) ∧ (∀ l : Nat, last = (l : Int) → (isFr s l = true ∧ (l : Int) ∈ od.take i) → (b = true ↔ kZ s l ≠ kZ s (fp s q))) := by
        rcases hI.lst with ⟨h1, h2, h3⟩ | ⟨l, h1, h2, h3, h4⟩
        · refine ⟨false, ?_, fun _ => rfl, fun l hl => by omega⟩
          refine Ev.congr (fun k => by rw [differL]) ?_
          simp only [if_neg (show ¬ 0 ≤ last by omega)]
          exact Ev.now _
        · obtain ⟨p, hp, rfl⟩ := fp_of h2.1
          have hpq : p ≠ q := fun e => hzP (by rw [← e]; exact h2)
          obtain ⟨b, hb1, hb2⟩ := differL_ev hs hn hl hnx hp hq hpq
          rw [h1]
          refine ⟨b, hb1, fun h => by omega, fun l hl hP => ?_⟩
          obtain rfl : fp s p = l := by omega
          exact hb2
      obtain ⟨b, hb, hb0, hbl⟩ := hmain
      have hadd := hI.add (P' := fun x => isFr s x = true ∧ (x : Int) ∈ od.take (i + 1)) hzn hzP hw h0 hb0 hbl (fun x => by
        rw [htk]
        constructor
        · rintro ⟨a, c | c⟩
          · exact .inl ⟨a, c⟩
          · exact .inr c
        · rintro (⟨a, c⟩ | rfl)
          · exact ⟨a, .inl c⟩
          · exact ⟨hzf, .inr rfl⟩)
      obtain ⟨nm', n', last', e1, e2⟩ := ih (i + 1) _ _ _ (by omega) (by split <;> omega) (by split <;> omega) hadd
      refine ⟨nm', n', last', ?_, e2⟩
      refine Ev.congr (fun k => by rw [namesL]) ?_
      simp only [hzz, Int.toNat_natCast, if_pos (show 0 ≤ ((fp s q : Nat) : Int) ∧ ((fp s q : Nat) : Int) < nx.length from ⟨by omega, by omega⟩), hnq, if_neg (show ¬ nxv s q = 0 by omega)]
      refine Ev.bind hb ?_
      simp only [if_pos (show 0 ≤ n ∧ n < 1000000000 from ⟨h0, by omega⟩)]
      exact e1
theorem outL_go {s nm : List Int} (hl : nm.length = s.length) : ∀ (d i : Nat) (o : List Int), i + d = (frs s s.length).length → o.length = i → (∀ j, j < i → o.getD j 0 = nm.getD (fp s j) 0) →
    ∃ N, outL nm (frs s s.length) d i o = some N ∧ N.length = (frs s s.length).length ∧ ∀ j, j < N.length → N.getD j 0 = nm.getD (fp s j) 0 := by
  intro d
  induction d with
  | zero => intro i o hd ho h; exact ⟨o, rfl, by omega, fun j hj => h j (by omega)⟩
  | succ d ih =>
    intro i o hd ho h
    have fi := fp_get (s := s) (i := i) (by omega)
    have hlt := fr_in fi.2
    rw [outL, fi.1, if_pos ⟨by omega, by omega⟩, Int.toNat_natCast]
    refine ih (i + 1) _ (by omega) (by simp; omega) (fun j hj => ?_)
    by_cases e : j = i
    · subst e
      rw [List.getD_eq_getElem?_getD, List.getElem?_append_right (by omega), ho]; simp
    · rw [List.getD_eq_getElem?_getD, List.getElem?_append_left (by omega), ← List.getD_eq_getElem?_getD]
      exact h j (by omega)
theorem sais_named_ev {s od : List Int} {cd : Nat → Int} (hs : ∀ x ∈ s, 0 ≤ x) (hn : s.length ≤ 100000) (hol : od.length = s.length) (hor : ∀ x ∈ od, 0 ≤ x ∧ x < (s.length : Int)) (hop : od.Pairwise (fun x y => ltL (kKey s cd x.toNat) (kKey s cd y.toNat))) :
    ∃ (N : List Int) (n0 : Int) (nm : Nat → Int), Ev (fun k => sais_named.f k s (frs s s.length) od) (N, n0 + 1) ∧ 0 ≤ n0 ∧ n0 ≤ s.length ∧ N.length = (frs s s.length).length ∧ (∀ i, i < N.length → N.getD i 0 = nm (fp s i)) ∧ (∀ x ∈ N, 0 ≤ x ∧ x < n0 + 1) ∧ namesOk s nm (fun x => isFr s x = true) := by
  obtain ⟨nx, e1, l1, a1, a2⟩ := nextL_go (s := s) (frs s s.length).length 0 (List.replicate s.length 0) (by omega) (by simp) (fun q hq => by omega) (fun z _ _ => getD_replicate)
  obtain ⟨nm, n0, last, e2, b1, b2, b3⟩ := namesL_go hs hn l1 a1 a2 hol hor hop od.length 0 (List.replicate s.length 0) 0 (-1) (by omega) (by omega) (by omega) ⟨by simp, fun x hx => by simp at hx, fun x y hx => by simp at hx, .inl ⟨rfl, rfl, fun x hx => by simp at hx⟩⟩
  obtain ⟨N, e3, l3, c3⟩ := outL_go b3.len (frs s s.length).length 0 [] (by omega) rfl (fun j hj => by omega)
  have hperm : isPerm od := ⟨fun x hx => by rw [hol]; exact hor x hx, hop.imp (fun h => by rintro rfl; exact ltL_irrefl _ h)⟩
  have hin : ∀ x, isFr s x = true → isFr s x = true ∧ (x : Int) ∈ od := fun x hx => ⟨hx, hperm.mem (by omega) (by have := fr_in hx; omega)⟩
  have hfl := frs_len s s.length
  refine ⟨N, n0, fun x => nm.getD x 0, ?_, b1, b2, l3, c3, fun x hx => ?_, fun x y hx hy => b3.ok x y (hin x hx) (hin y hy)⟩
  · refine Ev.congr (fun k => by rw [sais_named.f]) ?_
    simp only [if_pos (show s.length ≤ 1000000 by omega), if_pos (show (frs s s.length).length ≤ 1000000 by omega), if_pos (show od.length ≤ 1000000 by omega), e1, Option.bind_some]
    refine Ev.bind e2 ?_
    simp only [e3, Option.bind_some]
    rw [wrap64_id (by omega) (by omega)]
    exact Ev.now _
  · obtain ⟨j, hj, rfl⟩ := List.getElem_of_mem hx
    have := c3 j hj
    rw [List.getD_eq_getElem?_getD, List.getElem?_eq_getElem hj, Option.getD_some] at this
    rw [this]
    have := b3.rng _ (hin _ (fp_get (s := s) (i := j) (by omega)).2)
    omega
theorem sais_sorted_l0 {s a fi : List Int} {k : Int} {r : List Int} {right : List Int} (hfl : fi.length ≤ 100000) (hal : a.length ≤ 100000) (har : ∀ x ∈ a, 0 ≤ x ∧ x < (fi.length : Int)) (hrl : right.length = a.length) (hr : ∀ i, i < a.length → right.getD i 0 = fi.getD (a.getD i 0).toNat 0) (hev : Ev (fun j => induce_Sort.f j s k right) (r, true)) :
    ∀ (d i : Nat) (o : List Int), i + d = a.length → o = right.take i → Ev (fun j => sais_sorted.l0 j s k fi o a (a.length : Int) (i : Int)) r := by
  intro d
  induction d with
  | zero =>
    intro i o hd ho
    rw [List.take_of_length_le (by omega)] at ho
    subst ho
    refine Ev.step (fun k => by rw [sais_sorted.l0]) ?_
    simp only [if_neg (show ¬ (i : Int) < a.length by omega)]
    exact Ev.bind hev (Ev.now _)
  | succ d ih =>
    intro i o hd ho
    have hi : i < a.length := by omega
    have hx := har _ (getD_mem hi)
    have hol : o.length = i := by rw [ho, List.length_take]; omega
    refine Ev.step (fun k => by rw [sais_sorted.l0]) ?_
    simp only [if_pos (show (i : Int) < a.length by omega), if_pos (show 0 ≤ (i : Int) by omega), rd_nat, wrap_nat hi (show a.length ≤ 140737488355328 by omega), if_pos hx.1, if_pos hx.2, if_pos (show o.length < 17592186044416 by omega)]
    refine ih (i + 1) _ (by omega) ?_
    rw [take_next (by omega), ho, hr i hi]; rfl
theorem sais_sorted_ev : ∀ (b : Nat) (s : List Int) (k : Nat), s.length ≤ b → s.length ≤ 100000 → k ≤ 1048576 → (∀ x ∈ s, 0 ≤ x ∧ x < (k : Int)) → ∃ a, IsSA s a ∧ Ev (fun j => sais_sorted.f j s (k : Int)) a := by
  intro b
  induction b with
  | zero =>
    intro s k hb hn hk hv
    have h0 : s = [] := List.eq_nil_of_length_eq_zero (by omega)
    subst h0
    obtain ⟨r, h1, h2, h3, h4⟩ := induce_Sort_ev (s := []) (l := frs [] 0) (k := k) (by simp) hk hv (fun x => Iff.rfl) (by simp [frs])
    refine ⟨r, ⟨h2, h3, by rw [List.eq_nil_of_length_eq_zero h2]; simp⟩, ?_⟩
    refine Ev.step (fun k => by rw [sais_sorted.f]) ?_
    refine Ev.bind (kinds_First_ev [] (by simp)) ?_
    refine Ev.bind h1 ?_
    simp only [frs]
    exact Ev.now _
  | succ b ih =>
    intro s k hb hn hk hv
    have hs : ∀ x ∈ s, 0 ≤ x := fun x hx => (hv x hx).1
    have hfnd : (frs s s.length).Nodup := (frs_apart s s.length).imp (fun h => by omega)
    obtain ⟨r, h1, h2, h3, h4⟩ := induce_Sort_ev (l := frs s s.length) hn hk hv (fun x => Iff.rfl) hfnd
    by_cases hm : (frs s s.length).length < 2
    · refine ⟨r, isSA_of_keys hs h2 h3 h4 (fun a b ha hb hab => ?_), ?_⟩
      · obtain ⟨p, hp, rfl⟩ := fp_of ha
        obtain ⟨q, hq, rfl⟩ := fp_of hb
        obtain rfl : p = q := by omega
        omega
      · refine Ev.step (fun k => by rw [sais_sorted.f]) ?_
        refine Ev.bind (kinds_First_ev s (by omega)) ?_
        refine Ev.bind h1 ?_
        simp only [if_pos (show ((frs s s.length).length : Int) < 2 by omega)]
        exact Ev.now _
    · obtain ⟨N, n0, nm, e1, c0, c1, c2, c3, c4, c5⟩ := sais_named_ev hs hn h2 h3 h4
      have hhalf := frs_half s s.length
      have hcast : ((n0 + 1).toNat : Int) = n0 + 1 := by omega
      obtain ⟨a, ha, hae⟩ := ih N (n0 + 1).toNat (by omega) (by omega) (by omega) (fun x hx => by have := c4 x hx; omega)
      rw [hcast] at hae
      have hal := ha.1
      have har : ∀ x ∈ a, 0 ≤ x ∧ x < ((frs s s.length).length : Int) := fun x hx => by have := ha.2.1 x hx; omega
      have hrl : (a.map (fun x => (frs s s.length).getD x.toNat 0)).length = a.length := by simp
      have hrg : ∀ i, i < a.length → (a.map (fun x => (frs s s.length).getD x.toNat 0)).getD i 0 = (frs s s.length).getD (a.getD i 0).toNat 0 := fun i hi => by
        simp only [List.getD_eq_getElem?_getD, List.getElem?_map, List.getElem?_eq_getElem hi, Option.map_some, Option.getD_some]
      have hpw : (a.map (fun x => (frs s s.length).getD x.toNat 0)).Pairwise (fun x y => sN s x.toNat y.toNat) := by
        rw [List.pairwise_map]
        refine List.Pairwise.imp_of_mem (fun {x y} hx hy hxy => ?_) ha.2.2
        have h1 := har x hx
        have h2 := har y hy
        rw [(fp_get (s := s) (i := x.toNat) (by omega)).1, (fp_get (s := s) (i := y.toNat) (by omega)).1, Int.toNat_natCast, Int.toNat_natCast]
        refine names_suf hs c5 c2 c3 N.length x.toNat y.toNat (by omega) (by omega) (by omega) ?_
        exact hxy
      have hmem : ∀ x, x ∈ a.map (fun x => (frs s s.length).getD x.toNat 0) ↔ x ∈ frs s s.length := fun x => by
        rw [List.mem_map]
        constructor
        · rintro ⟨y, hy, rfl⟩
          have := har y hy
          exact getD_mem (by omega)
        · intro hx
          have hi := List.idxOf_lt_length_of_mem hx
          refine ⟨((frs s s.length).idxOf x : Nat), (ha.mem _).2 ⟨by omega, by omega⟩, ?_⟩
          rw [Int.toNat_natCast]; exact idxOf_getD hx
      have hnd : (a.map (fun x => (frs s s.length).getD x.toNat 0)).Nodup := hpw.imp (fun h => by rintro rfl; exact ltL_irrefl _ h)
      obtain ⟨r2, g1, g2, g3, g4⟩ := induce_Sort_ev (l := a.map (fun x => (frs s s.length).getD x.toNat 0)) hn hk hv hmem hnd
      refine ⟨r2, isSA_of_keys hs g2 g3 g4 (fun x y hx hy hxy => ?_), ?_⟩
      · have mx := (hmem (x : Int)).2 (frs_iff.2 ⟨x, rfl, hx⟩)
        have my := (hmem (y : Int)).2 (frs_iff.2 ⟨y, rfl, hy⟩)
        unfold cdOf at hxy
        have hlt := Int.ofNat_lt.1 hxy
        have := pair_getD hpw hlt (List.idxOf_lt_length_of_mem my)
        rw [idxOf_getD mx, idxOf_getD my, Int.toNat_natCast, Int.toNat_natCast] at this
        exact this
      · refine Ev.step (fun k => by rw [sais_sorted.f]) ?_
        refine Ev.bind (kinds_First_ev s (by omega)) ?_
        refine Ev.bind h1 ?_
        simp only [if_neg (show ¬ ((frs s s.length).length : Int) < 2 by omega)]
        refine Ev.bind e1 ?_
        refine Ev.bind hae ?_
        exact sais_sorted_l0 (by omega) (by omega) har hrl hrg g1 a.length 0 [] (by omega) rfl
theorem sais_Ints_ev {s : List Int} {k : Nat} (hn : s.length ≤ 100000) (hk : k ≤ 1048576) (hv : ∀ x ∈ s, 0 ≤ x ∧ x < (k : Int)) : ∃ a, IsSA s a ∧ Ev (fun j => sais_Ints.f j s (k : Int)) (a, 0) := by
  obtain ⟨a, ha, hae⟩ := sais_sorted_ev s.length s k (Nat.le_refl _) hn hk hv
  refine ⟨a, ha, ?_⟩
  refine Ev.congr (fun k => by rw [sais_Ints.f]) ?_
  simp only [if_neg (show ¬ (s.length : Int) > 100000 by omega)]
  refine Ev.bind (bucket_Counts_ev s (k : Int) (by omega)) ?_
  rw [countsR, if_pos ⟨by omega, by omega, hv⟩]
  simp only [if_true]
  exact Ev.bind hae (Ev.now _)
theorem sais_Bytes_l0 {s : List Int} (hn : s.length ≤ 100000) (hb : ∀ x ∈ s, 0 ≤ x ∧ x ≤ 255) {r : List Int × Int} (hr : Ev (fun k => sais_Ints.f k s 256) r) : ∀ (d i : Nat) (l : List Int), i + d = s.length → l = s.take i →
    Ev (fun k => sais_Bytes.l0 k l s (s.length : Int) (i : Int)) r := by
  intro d
  induction d with
  | zero =>
    intro i l hd hl
    rw [List.take_of_length_le (by omega)] at hl
    subst hl
    refine Ev.step (fun k => by rw [sais_Bytes.l0]) ?_
    simp only [if_neg (show ¬ (i : Int) < l.length by omega)]
    exact Ev.bind hr (Ev.now _)
  | succ d ih =>
    intro i l hd hl
    have hi : i < s.length := by omega
    have hx := hb _ (getD_mem hi)
    have hll : l.length = i := by rw [hl, List.length_take]; omega
    refine Ev.step (fun k => by rw [sais_Bytes.l0]) ?_
    rw [rd_nat, wrap64_id (x := s.getD i 0) (by omega) (by omega)]
    simp only [if_pos (show (i : Int) < s.length by omega), if_pos (show 0 ≤ (i : Int) by omega), if_pos (show l.length < 17592186044416 by omega), wrap_nat hi (show s.length ≤ 140737488355328 by omega)]
    exact ih (i + 1) _ (by omega) (by rw [take_next hi, hl])
theorem sais_Bytes_ev {s : List Int} (hn : s.length ≤ 100000) (hb : ∀ x ∈ s, 0 ≤ x ∧ x ≤ 255) : ∃ a, IsSA s a ∧ Ev (fun j => sais_Bytes.f j s) (a, 0) := by
  obtain ⟨a, ha, hae⟩ := sais_Ints_ev (s := s) (k := 256) hn (by omega) (fun x hx => by have := hb x hx; omega)
  refine ⟨a, ha, ?_⟩
  refine Ev.congr (fun k => by rw [sais_Bytes.f]) ?_
  simp only [if_pos (show (s.length : Int) ≤ 100000 by omega)]
  exact sais_Bytes_l0 hn hb hae s.length 0 [] (by omega) rfl
def plL (r m : Nat) : List Int := (List.range m).map (fun (j : Nat) => ((3 * j + r : Nat) : Int))
theorem plL_length (r m : Nat) : (plL r m).length = m := by simp [plL]
theorem plL_succ (r m : Nat) : plL r (m + 1) = plL r m ++ [((3 * m + r : Nat) : Int)] := by
  unfold plL; rw [List.range_succ, List.map_append]; rfl
theorem plL_get {r m j : Nat} (h : j < m) : (plL r m).getD j 0 = ((3 * j + r : Nat) : Int) := by
  unfold plL
  rw [List.getD_eq_getElem?_getD, List.getElem?_map, List.getElem?_range h]; rfl
theorem plL_mem {r m : Nat} {x : Int} : x ∈ plL r m ↔ ∃ j : Nat, j < m ∧ x = ((3 * j + r : Nat) : Int) := by
  unfold plL
  rw [List.mem_map]
  constructor
  · rintro ⟨j, hj, rfl⟩
    exact ⟨j, List.mem_range.1 hj, rfl⟩
  · rintro ⟨j, hj, rfl⟩
    exact ⟨j, List.mem_range.2 hj, rfl⟩
theorem plL_rises (r : Nat) : ∀ m, (plL r m).Pairwise (· < ·)
  | 0 => by simp [plL]
  | m + 1 => by
    rw [plL_succ]
    rw [List.pairwise_append]
    refine ⟨plL_rises r m, by simp, fun x hx y hy => ?_⟩
    obtain ⟨j, hj, rfl⟩ := plL_mem.1 hx
    rw [List.mem_singleton] at hy
    omega
theorem skew_places_l0 (n r : Nat) (hn : n ≤ 1000000) : ∀ (d j : Nat), n + 3 - (3 * j + r) ≤ d → 3 * j + r < n + 3 → (3 * j + r < 3 ∨ 3 * j + r - 3 < n) → Ev (fun k => skew_places.l0 k (n : Int) (plL r j) ((3 * j + r : Nat) : Int)) (plL r ((n + 2 - r) / 3)) := by
  intro d
  induction d with
  | zero => intro j hd h1; omega
  | succ d ih =>
    intro j hd h1 h2
    refine Ev.step (fun k => by rw [skew_places.l0]) ?_
    by_cases h : 3 * j + r < n
    · simp only [if_pos (show ((3 * j + r : Nat) : Int) < (n : Int) by omega), plL_length, if_pos (show j < 17592186044416 by omega)]
      rw [wrap64_id (by omega) (by omega), ← plL_succ, show ((3 * j + r : Nat) : Int) + 3 = ((3 * (j + 1) + r : Nat) : Int) by omega]
      exact ih (j + 1) (by omega) (by omega) (by omega)
    · simp only [if_neg (show ¬ ((3 * j + r : Nat) : Int) < (n : Int) by omega)]
      rw [show (n + 2 - r) / 3 = j by omega]
      exact Ev.now _
theorem skew_places_ev (n r : Nat) (hn : n ≤ 1000000) (hr : r ≤ 2) : Ev (fun k => skew_places.f k (n : Int) (r : Int)) (plL r ((n + 2 - r) / 3)) := by
  refine Ev.congr (fun k => by rw [skew_places.f]) ?_
  have := skew_places_l0 n r hn (n + 3) 0 (by omega) (by omega) (by omega)
  simpa [plL] using this
def smpL (n : Nat) : List Int := plL 1 ((n + 1) / 3) ++ plL 2 (n / 3)
theorem smpL_length (n : Nat) : (smpL n).length = (n + 1) / 3 + n / 3 := by unfold smpL; rw [List.length_append, plL_length, plL_length]
theorem smpL_mem {n : Nat} {x : Int} : x ∈ smpL n ↔ 0 ≤ x ∧ x < (n : Int) ∧ x % 3 ≠ 0 := by
  unfold smpL
  rw [List.mem_append, plL_mem, plL_mem]
  constructor
  · rintro (⟨j, hj, rfl⟩ | ⟨j, hj, rfl⟩) <;> omega
  · rintro ⟨h1, h2, h3⟩
    by_cases h : x % 3 = 1
    · exact .inl ⟨(x / 3).toNat, by omega, by omega⟩
    · exact .inr ⟨(x / 3).toNat, by omega, by omega⟩
theorem smpL_ne (n : Nat) : (smpL n).Pairwise (· ≠ ·) := by
  unfold smpL
  rw [List.pairwise_append]
  refine ⟨(plL_rises _ _).imp (fun h => by omega), (plL_rises _ _).imp (fun h => by omega), fun x hx y hy => ?_⟩
  obtain ⟨j, hj, rfl⟩ := plL_mem.1 hx
  obtain ⟨i, hi, rfl⟩ := plL_mem.1 hy
  omega
theorem skew_Sample_ev (n : Nat) (hn : n ≤ 100000) : Ev (fun k => skew_Sample.f k (n : Int)) (smpL n) := by
  refine Ev.congr (fun k => by rw [skew_Sample.f]) ?_
  simp only [if_neg (show ¬ (n : Int) < 0 by omega), decide_eq_false (show ¬ (n : Int) > 100000 by omega)]
  refine Ev.step (fun k => by rw [skew_Sample.j0]) ?_
  simp only [if_neg (show ¬ false = true by decide)]
  refine Ev.bind (skew_places_ev n 1 (by omega) (by omega)) ?_
  refine Ev.bind (skew_places_ev n 2 (by omega) (by omega)) ?_
  rw [plL_length, plL_length, if_pos (by omega)]
  rw [show n + 2 - 1 = n + 1 by omega, show n + 2 - 2 = n by omega]
  exact Ev.now _
def okS (s : List Int) (k : Int) : Prop := s.length ≤ 100000 ∧ k ≤ 1000000 ∧ ∀ x ∈ s, 0 ≤ x ∧ x < k
theorem okS.noNeg {s : List Int} {k : Int} (h : okS s k) : noNeg s := fun x hx => (h.2.2 x hx).1
theorem okS.ky {s : List Int} {k : Int} (h : okS s k) (i : Nat) : 0 ≤ ky s i ∧ ky s i ≤ 1000000 := by
  rcases Nat.lt_or_ge i s.length with hi | hi
  · rw [ky_in hi]
    have := h.2.2 _ (getD_mem hi)
    have := h.2.1
    omega
  · rw [ky_end hi]; omega
theorem skew_key_eq {s : List Int} {k : Int} (h : okS s k) (i : Nat) : skew_key.f s (i : Int) = some (ky s i) := by
  rw [skew_key.f]
  rcases Nat.lt_or_ge i s.length with hi | hi
  · rw [if_neg (by omega), if_pos (by omega), if_pos (by omega), rd_nat, ky_in hi]
    have := h.2.2 _ (getD_mem hi)
    have := h.2.1
    rw [wrap64_id (by omega) (by omega)]
  · rw [if_pos (by omega), ky_end hi]
def kysL (s : List Int) (by_ : Nat) : List Int := (List.range s.length).map (fun (i : Nat) => ky s (i + by_))
theorem kysL_length (s : List Int) (b : Nat) : (kysL s b).length = s.length := by simp [kysL]
theorem kysL_get {s : List Int} {b i : Nat} (h : i < s.length) : (kysL s b).getD i 0 = ky s (i + b) := by
  unfold kysL
  rw [List.getD_eq_getElem?_getD, List.getElem?_map, List.getElem?_range h]; rfl
theorem skew_keys_l0 {s : List Int} {kk : Int} (h : okS s kk) (b : Nat) (hb : b ≤ 3) : ∀ (d i : Nat) (l : List Int), i + d = s.length → l.length = s.length → (∀ j, j < i → l.getD j 0 = ky s (j + b)) →
    Ev (fun k => skew_keys.l0 k s (b : Int) l (s.length : Int) (i : Int)) (kysL s b) := by
  have hn := h.1
  intro d
  induction d with
  | zero =>
    intro i l hd hl hp
    refine Ev.step (fun k => by rw [skew_keys.l0]) ?_
    simp only [if_neg (show ¬ (i : Int) < s.length by omega)]
    rw [ext_getD (a := l) (b := kysL s b) (by rw [hl, kysL_length]) (fun j hj => by rw [kysL_get (by omega), hp j (by omega)])]
    exact Ev.now _
  | succ d ih =>
    intro i l hd hl hp
    refine Ev.step (fun k => by rw [skew_keys.l0]) ?_
    simp only [if_pos (show (i : Int) < s.length by omega)]
    rw [wrap64_id (x := (i : Int) + (b : Int)) (by omega) (by omega), show (i : Int) + (b : Int) = ((i + b : Nat) : Int) by omega, skew_key_eq h]
    simp only [Option.bind_some, if_pos (show 0 ≤ (i : Int) by omega), if_pos (show (i : Int) < l.length by omega), Int.toNat_natCast, wrap_nat (show i < s.length by omega) (show s.length ≤ 140737488355328 by omega)]
    refine ih (i + 1) _ (by omega) (by rw [List.length_set, hl]) (fun j hj => ?_)
    rw [lset (by omega)]
    by_cases e : i = j
    · rw [if_pos e, e]
    · rw [if_neg e]; exact hp j (by omega)
theorem skew_keys_ev {s : List Int} {kk : Int} (h : okS s kk) (b : Nat) (hb : b ≤ 3) : Ev (fun k => skew_keys.f k s (b : Int)) (kysL s b) := by
  have hn := h.1
  refine Ev.congr (fun k => by rw [skew_keys.f]) ?_
  simp only [Int.toNat_natCast, if_pos (show 0 ≤ (s.length : Int) by omega), if_pos (show s.length ≤ 35184372088832 by omega), Option.bind_some, List.length_replicate]
  exact skew_keys_l0 h b hb s.length 0 _ (by omega) (by simp) (fun j hj => by omega)
theorem skew_alike_l0 {s : List Int} {kk : Int} (h : okS s kk) {i j : Nat} (hi : i ≤ 1000000) (hj : j ≤ 1000000) : ∀ (d b : Nat), b + d = 3 → (∀ y, y < b → ky s (i + y) = ky s (j + y)) →
    Ev (fun k => skew_alike.l0 k s (i : Int) (j : Int) (b : Int)) (decide (triEq s i j)) := by
  intro d
  induction d with
  | zero =>
    intro b hd hp
    refine Ev.step (fun k => by rw [skew_alike.l0]) ?_
    simp only [if_neg (show ¬ (b : Int) < 3 by omega)]
    rw [decide_eq_true]
    · exact Ev.now _
    · exact ⟨by simpa using hp 0 (by omega), hp 1 (by omega), hp 2 (by omega)⟩
  | succ d ih =>
    intro b hd hp
    refine Ev.step (fun k => by rw [skew_alike.l0]) ?_
    simp only [if_pos (show (b : Int) < 3 by omega)]
    rw [wrap64_id (x := (i : Int) + (b : Int)) (by omega) (by omega), wrap64_id (x := (j : Int) + (b : Int)) (by omega) (by omega), show (i : Int) + (b : Int) = ((i + b : Nat) : Int) by omega, show (j : Int) + (b : Int) = ((j + b : Nat) : Int) by omega, skew_key_eq h, skew_key_eq h]
    simp only [Option.bind_some]
    by_cases he : ky s (i + b) = ky s (j + b)
    · simp only [if_pos he, wrap_nat (show b < 3 by omega) (show 3 ≤ 140737488355328 by omega)]
      refine ih (b + 1) (by omega) (fun y hy => ?_)
      by_cases e : y = b
      · subst e; exact he
      · exact hp y (by omega)
    · simp only [if_neg he]
      rw [decide_eq_false]
      · exact Ev.now _
      · intro hq
        have hc : b = 0 ∨ b = 1 ∨ b = 2 := by omega
        rcases hc with rfl | rfl | rfl
        · exact he (by simpa using hq.1)
        · exact he hq.2.1
        · exact he hq.2.2
theorem skew_alike_ev {s : List Int} {kk : Int} (h : okS s kk) {i j : Nat} (hi : i ≤ 1000000) (hj : j ≤ 1000000) : Ev (fun k => skew_alike.f k s (i : Int) (j : Int)) (decide (triEq s i j)) := by
  refine Ev.congr (fun k => by rw [skew_alike.f]) ?_
  exact skew_alike_l0 h hi hj 3 0 (by omega) (fun y hy => by omega)
theorem tmod3 (x : Nat) : (Int.tmod (x : Int) 3 = 0) ↔ x % 3 = 0 := by
  rw [Int.tmod_eq_emod_of_nonneg (by omega)]; omega
theorem suf_next {s : List Int} {i j : Nat} (hi : i < s.length) (hj : j < s.length) (he : ky s i = ky s j) : sufLt s i j ↔ sufLt s ((i + 1 : Nat) : Int) ((j + 1 : Nat) : Int) := by
  have := sufLt_step hi hj
  rw [ky_in hi, ky_in hj] at he
  rw [this]
  constructor
  · rintro (h | h)
    · omega
    · simpa using h.2
  · intro h
    exact .inr ⟨by omega, by simpa using h⟩
instance (s : List Int) (x y : Int) : Decidable (sufLt s x y) := by unfold sufLt; infer_instance
theorem skew_less_l0 {s o rk : List Int} {kk : Int} (h : okS s kk) (hr : rOk s o rk) : ∀ (d i j : Nat), s.length - i < d → i ≤ s.length → j ≤ s.length → i ≠ j →
    Ev (fun k => skew_less.l0 k s rk (i : Int) (j : Int)) (decide (sufLt s i j)) := by
  have hn := h.1
  intro d
  induction d with
  | zero => intro i j hd; omega
  | succ d ih =>
    intro i j hd hi hj hij
    refine Ev.step (fun k => by rw [skew_less.l0]) ?_
    rw [skew_key_eq h, skew_key_eq h]
    simp only [Option.bind_some]
    by_cases he : ky s i = ky s j
    · have hil : i < s.length := by
        rcases Nat.lt_or_ge i s.length with k | k
        · exact k
        · exfalso
          rw [ky_end k] at he
          have := ky_pos h.noNeg (show j < s.length by omega)
          omega
      have hjl : j < s.length := by
        rcases Nat.lt_or_ge j s.length with k | k
        · exact k
        · exfalso
          rw [ky_end k] at he
          have := ky_pos h.noNeg hil
          omega
      have hnx := suf_next hil hjl he
      simp only [if_pos he]
      rw [wrap_nat (show i < s.length by omega) (by omega), wrap_nat (show j < s.length by omega) (by omega)]
      have hrec : Ev (fun k => skew_less.l0 k s rk ((i + 1 : Nat) : Int) ((j + 1 : Nat) : Int)) (decide (sufLt s i j)) := by
        rw [decide_eq_decide.2 hnx]
        exact ih (i + 1) (j + 1) (by omega) (by omega) (by omega) (by omega)
      by_cases h3 : Int.tmod ((i + 1 : Nat) : Int) 3 = 0
      · simp only [if_pos h3]; exact hrec
      · by_cases h4 : Int.tmod ((j + 1 : Nat) : Int) 3 = 0
        · simp only [if_neg h3, if_pos h4]; exact hrec
        · rw [tmod3] at h3 h4
          have hl := hr.2.2.1
          have e1 : mn ((i + 1 : Nat) : Int) (s.length : Int) = ((i + 1 : Nat) : Int) := by unfold mn; omega
          have e2 : mn ((j + 1 : Nat) : Int) (s.length : Int) = ((j + 1 : Nat) : Int) := by unfold mn; omega
          simp only [tmod3, if_neg h3, if_neg h4, e1, e2, if_pos (show (0 : Int) ≤ ((i + 1 : Nat) : Int) by omega), if_pos (show (0 : Int) ≤ ((j + 1 : Nat) : Int) by omega), if_pos (show ((i + 1 : Nat) : Int) < (rk.length : Int) by omega), if_pos (show ((j + 1 : Nat) : Int) < (rk.length : Int) by omega), rd_nat]
          have e3 : decide (sufLt s i j) = decide (rk.getD (i + 1) 0 < rk.getD (j + 1) 0) := decide_eq_decide.2 (hnx.trans (hr.suf (p := i + 1) (q := j + 1) (by omega) (by omega) (by omega) (by omega)).symm)
          rw [e3]
          exact Ev.now _
    · simp only [if_neg he]
      have hd2 : (ky s i < ky s j) ↔ sufLt s i j := by
        constructor
        · intro hl
          exact ky_suf h.noNeg (m := 0) hi hj (fun y hy => by omega) (by simpa using hl)
        · intro hs
          rcases Int.lt_trichotomy (ky s i) (ky s j) with k | k | k
          · exact k
          · exact absurd k he
          · exact absurd (ky_suf h.noNeg (m := 0) hj hi (fun y hy => by omega) (by simpa using k)) (sufLt_asymm hs)
      rw [decide_eq_decide.2 hd2]
      exact Ev.now _
theorem skew_less_ev {s o rk : List Int} {kk : Int} (h : okS s kk) (hr : rOk s o rk) {i j : Nat} (hi : i ≤ s.length) (hj : j ≤ s.length) (hij : i ≠ j) : Ev (fun k => skew_less.f k s rk (i : Int) (j : Int)) (decide (sufLt s i j)) := by
  refine Ev.congr (fun k => by rw [skew_less.f]) ?_
  exact skew_less_l0 h hr (s.length + 1) i j (by omega) hi hj hij
def sfOk (sfk : Nat → List Int → Int → Option (List Int)) (n : Nat) : Prop := ∀ (b : List Int) (m : Int), okS b m → b.length < n → ∃ a, IsSA b a ∧ Ev (fun k => sfk k b m) a
theorem sfOk.next {sfk : Nat → List Int → Int → Option (List Int)} {n : Nat} (h : sfOk sfk n) : sfOk (fun k => sfk (k + 1)) n := fun b m hb hl => by
  obtain ⟨a, ha, K, hK⟩ := h b m hb hl
  exact ⟨a, ha, K, fun k hk => hK (k + 1) (by omega)⟩
theorem ranked_l5 {s o : List Int} (hn : s.length ≤ 100000) (hp : o.Pairwise (sufLt s)) (hm : ∀ x, x ∈ o ↔ 0 ≤ x ∧ x < (s.length : Int) ∧ x % 3 ≠ 0) (hol : o.length ≤ 100000) :
    ∀ (d i : Nat) (rk : List Int) (sfk : Nat → List Int → Int → Option (List Int)), i + d = o.length → rk.length = s.length + 3 → (∀ j, j < i → rk.getD (o.getD j 0).toNat 0 = (j : Int) + 1) → (∀ p : Nat, (p : Int) ∉ o → rk.getD p 0 = 0) →
    ∃ r, rOk s r.1 r.2 ∧ Ev (fun k => skew_ranked.l5 (sfk k) k o rk o (o.length : Int) (i : Int)) r := by
  have hnd : o.Nodup := hp.imp (fun {x y} hxy => by rintro rfl; exact ltL_irrefl _ hxy)
  intro d
  induction d with
  | zero =>
    intro i rk sfk hd hl h1 h2
    refine ⟨(o, rk), ⟨hp, hm, hl, fun j (hj : j < o.length) => h1 j (by omega), h2⟩, ?_⟩
    refine Ev.step (fun k => by rw [skew_ranked.l5]) ?_
    simp only [if_neg (show ¬ (i : Int) < o.length by omega)]
    exact Ev.now _
  | succ d ih =>
    intro i rk sfk hd hl h1 h2
    have hi : i < o.length := by omega
    have hx := (hm _).1 (getD_mem hi)
    have hmi := getD_mem hi
    obtain ⟨r, hr, hev⟩ := ih (i + 1) (rk.set (o.getD i 0).toNat ((i : Int) + 1)) (fun k => sfk (k + 1)) (by omega) (by rw [List.length_set, hl]) (fun j hj => by
      rw [lset (by omega)]
      by_cases e : j = i
      · subst e; rw [if_pos rfl]
      · rw [if_neg]
        · exact h1 j (by omega)
        · intro he
          have hxj := (hm _).1 (getD_mem (show j < o.length by omega))
          exact e (getD_inj hnd (show j < o.length by omega) hi (by omega))) (fun p hpo => by
      rw [lset (by omega), if_neg]
      · exact h2 p hpo
      · rintro rfl
        exact hpo (by rw [Int.toNat_of_nonneg hx.1]; exact hmi))
    refine ⟨r, hr, ?_⟩
    refine Ev.step (fun k => by rw [skew_ranked.l5]) ?_
    simp only [if_pos (show (i : Int) < o.length by omega), if_pos (show 0 ≤ (i : Int) by omega), rd_nat, if_pos hx.1, if_pos (show o.getD i 0 < (rk.length : Int) by omega)]
    rw [wrap64_id (x := (i : Int) + 1) (by omega) (by omega)]
    exact hev
def backL (n : Nat) (a : List Int) : List Int := (a.filter (fun x => x != (((n + 1) / 3 : Nat) : Int))).map (fun x => ((pl3 n x.toNat : Nat) : Int))
theorem backL_snoc (n : Nat) (a : List Int) (x : Int) : backL n (a ++ [x]) = backL n a ++ (if x = (((n + 1) / 3 : Nat) : Int) then [] else [((pl3 n x.toNat : Nat) : Int)]) := by
  unfold backL
  rw [List.filter_append, List.map_append]
  congr 1
  by_cases h : x = (((n + 1) / 3 : Nat) : Int)
  · rw [if_pos h, List.filter_cons, if_neg (by simpa using h)]; rfl
  · rw [if_neg h, List.filter_cons, if_pos (by simpa using h)]; rfl
theorem backL_len (n : Nat) (a : List Int) : (backL n a).length ≤ a.length := by
  unfold backL; rw [List.length_map]; exact List.length_filter_le _ _
theorem backL_mem {s b a : List Int} (ha : IsSA b a) (hb : b.length = (s.length + 1) / 3 + 1 + s.length / 3) {x : Int} : x ∈ backL s.length a ↔ 0 ≤ x ∧ x < (s.length : Int) ∧ x % 3 ≠ 0 := by
  unfold backL
  rw [List.mem_map]
  constructor
  · rintro ⟨y, hy, rfl⟩
    rw [List.mem_filter] at hy
    have h1 := ha.2.1 y hy.1
    have h2 : y ≠ (((s.length + 1) / 3 : Nat) : Int) := by simpa using hy.2
    have := plc_lt (n := s.length) (i := y.toNat) (by omega) (by omega)
    omega
  · rintro ⟨h1, h2, h3⟩
    by_cases h : x % 3 = 1
    · refine ⟨x / 3, ?_, ?_⟩
      · rw [List.mem_filter, ha.mem]
        exact ⟨by omega, by simp; omega⟩
      · unfold pl3; rw [if_pos (by omega)]; omega
    · refine ⟨(((s.length + 1) / 3 + 1 : Nat) : Int) + x / 3, ?_, ?_⟩
      · rw [List.mem_filter, ha.mem]
        exact ⟨by omega, by simp; omega⟩
      · unfold pl3; rw [if_neg (by omega)]; omega
theorem backL_sorted {s b a : List Int} {R : Nat → Int} (hs : noNeg s) (hR : tNames s R) (hR2 : ∀ p q, p < s.length → p % 3 ≠ 0 → q < s.length → q % 3 ≠ 0 → triLt s p q → R p < R q)
    (hb : isBelow s R b) (ha : IsSA b a) : (backL s.length a).Pairwise (sufLt s) := by
  unfold backL
  rw [List.pairwise_map]
  refine List.Pairwise.imp_of_mem (fun {x y} hx hy hxy => ?_) (ha.2.2.filter _)
  rw [List.mem_filter] at hx hy
  have h1 := ha.2.1 x hx.1
  have h2 := ha.2.1 y hy.1
  have h3 : x ≠ (((s.length + 1) / 3 : Nat) : Int) := by simpa using hx.2
  have h4 : y ≠ (((s.length + 1) / 3 : Nat) : Int) := by simpa using hy.2
  refine below_suf hs hR hR2 hb (i := x.toNat) (j := y.toNat) (by omega) (by omega) (by omega) (by omega) ?_
  rwa [Int.toNat_of_nonneg h1.1, Int.toNat_of_nonneg h2.1]
theorem ranked_l4 {s b a rk : List Int} (hn : s.length ≤ 100000) (ha : IsSA b a) (hb : b.length = (s.length + 1) / 3 + 1 + s.length / 3) (hp : (backL s.length a).Pairwise (sufLt s)) (hl : rk.length = s.length + 3) (hz : ∀ p : Nat, (s.length ≤ p ∨ p % 3 = 0) → rk.getD p 0 = 0) :
    ∀ (d i : Nat) (sfk : Nat → List Int → Int → Option (List Int)), i + d = a.length →
    ∃ r, rOk s r.1 r.2 ∧ Ev (fun k => skew_ranked.l4 (sfk k) k (backL s.length (a.take i)) rk (smpL s.length) (plL 1 ((s.length + 1) / 3)) a (a.length : Int) (i : Int)) r := by
  have hal := ha.1
  intro d
  induction d with
  | zero =>
    intro i sfk hd
    have hm : ∀ x, x ∈ backL s.length a ↔ 0 ≤ x ∧ x < (s.length : Int) ∧ x % 3 ≠ 0 := fun x => backL_mem ha hb
    have hbl := backL_len s.length a
    obtain ⟨r, hr, hev⟩ := ranked_l5 hn hp hm (by omega) (backL s.length a).length 0 rk (fun k => sfk (k + 1)) (by omega) hl (fun j hj => by omega) (fun p hpo => by
      by_cases h : s.length ≤ p ∨ p % 3 = 0
      · exact hz p h
      · exact absurd ((hm p).2 ⟨by omega, by omega, by omega⟩) hpo)
    refine ⟨r, hr, ?_⟩
    refine Ev.step (fun k => by rw [skew_ranked.l4]) ?_
    rw [List.take_of_length_le (by omega)]
    simp only [if_neg (show ¬ (i : Int) < a.length by omega)]
    exact hev
  | succ d ih =>
    intro i sfk hd
    have hi : i < a.length := by omega
    have hx := ha.2.1 _ (getD_mem hi)
    obtain ⟨r, hr, hev⟩ := ih (i + 1) (fun k => sfk (k + 1)) (by omega)
    refine ⟨r, hr, ?_⟩
    refine Ev.step (fun k => by rw [skew_ranked.l4]) ?_
    have hlen : (backL s.length (a.take i)).length ≤ 100001 := by
      have := backL_len s.length (a.take i)
      rw [List.length_take] at this
      omega
    rw [take_next hi, backL_snoc] at hev
    simp only [if_pos (show (i : Int) < a.length by omega), if_pos (show 0 ≤ (i : Int) by omega), rd_nat, plL_length, if_pos hx.1, wrap_nat hi (show a.length ≤ 140737488355328 by omega), if_pos (show (backL s.length (a.take i)).length < 17592186044416 by omega)]
    generalize a.getD i 0 = x at hx hev ⊢
    by_cases h1 : x < (((s.length + 1) / 3 : Nat) : Int)
    · rw [if_neg (by omega)] at hev
      have e : rd (plL 1 ((s.length + 1) / 3)) x = ((pl3 s.length x.toNat : Nat) : Int) := by
        rw [rd, plL_get (by omega)]; unfold pl3; rw [if_pos (by omega)]
      simp only [if_pos h1, e]
      exact hev
    · by_cases h2 : x > (((s.length + 1) / 3 : Nat) : Int)
      · rw [if_neg (by omega)] at hev
        have e : rd (smpL s.length) (x - 1) = ((pl3 s.length x.toNat : Nat) : Int) := by
          rw [rd]; unfold smpL
          rw [List.getD_eq_getElem?_getD, List.getElem?_append_right (by rw [plL_length]; omega), ← List.getD_eq_getElem?_getD, plL_length, plL_get (by omega)]
          unfold pl3; rw [if_neg (by omega)]; omega
        rw [wrap64_id (x := x - 1) (by omega) (by omega)]
        simp only [if_neg h1, if_pos h2, smpL_length, if_pos (show 0 ≤ x - 1 by omega), if_pos (show x - 1 < (((s.length + 1) / 3 + s.length / 3 : Nat) : Int) by omega), e]
        exact hev
      · rw [if_pos (by omega), List.append_nil] at hev
        simp only [if_neg h1, if_neg h2]
        exact hev
def nmL (rk l : List Int) : List Int := l.map (fun p => rk.getD p.toNat 0)
theorem nmL_length (rk l : List Int) : (nmL rk l).length = l.length := by simp [nmL]
theorem nmL_snoc (rk l : List Int) (x : Int) : nmL rk (l ++ [x]) = nmL rk l ++ [rk.getD x.toNat 0] := by simp [nmL]
theorem nmL_get {rk l : List Int} {i : Nat} (h : i < l.length) : (nmL rk l).getD i 0 = rk.getD (l.getD i 0).toNat 0 := by
  unfold nmL
  simp [List.getD_eq_getElem?_getD, List.getElem?_map, List.getElem?_eq_getElem h]
def belL (rk : List Int) (n : Nat) : List Int := nmL rk (plL 1 ((n + 1) / 3)) ++ [0] ++ nmL rk (plL 2 (n / 3))
theorem belL_is (s rk : List Int) : isBelow s (fun p => rk.getD p 0) (belL rk s.length) := by
  have l1 : (nmL rk (plL 1 ((s.length + 1) / 3))).length = (s.length + 1) / 3 := by rw [nmL_length, plL_length]
  refine ⟨by unfold belL; simp only [List.length_append, nmL_length, plL_length, List.length_singleton], fun i hi => ?_, ?_, fun i hi => ?_⟩
  · unfold belL
    rw [List.append_assoc, List.getD_eq_getElem?_getD, List.getElem?_append_left (by omega), ← List.getD_eq_getElem?_getD, nmL_get (by rw [plL_length]; exact hi), plL_get hi, Int.toNat_natCast]
  · unfold belL
    rw [List.append_assoc, List.getD_eq_getElem?_getD, List.getElem?_append_right (by omega), l1, Nat.sub_self]; rfl
  · unfold belL
    rw [List.getD_eq_getElem?_getD, List.getElem?_append_right (by rw [List.length_append, l1, List.length_singleton]; omega), ← List.getD_eq_getElem?_getD, List.length_append, l1, List.length_singleton,
      show (s.length + 1) / 3 + 1 + i - ((s.length + 1) / 3 + 1) = i by omega, nmL_get (by rw [plL_length]; exact hi), plL_get hi, Int.toNat_natCast]
theorem ranked_l3 {s rk : List Int} {x8 : Int} (hs : noNeg s) (hn : s.length ≤ 100000) (hn4 : (s.length + 1) / 3 + 1 + s.length / 3 < s.length) (hl : rk.length = s.length + 3) (hz : ∀ p : Nat, (s.length ≤ p ∨ p % 3 = 0) → rk.getD p 0 = 0)
    (hR : tNames s (fun p => rk.getD p 0)) (hR2 : ∀ p q, p < s.length → p % 3 ≠ 0 → q < s.length → q % 3 ≠ 0 → triLt s p q → rk.getD p 0 < rk.getD q 0) (h8 : x8 ≤ 100000 ∧ ∀ p : Nat, 0 ≤ rk.getD p 0 ∧ rk.getD p 0 ≤ x8) :
    ∀ (d i : Nat) (sfk : Nat → List Int → Int → Option (List Int)), sfOk sfk s.length → i + d = s.length / 3 →
    ∃ r, rOk s r.1 r.2 ∧ Ev (fun k => skew_ranked.l3 (sfk k) k rk (smpL s.length) x8 (plL 1 ((s.length + 1) / 3)) (nmL rk (plL 1 ((s.length + 1) / 3)) ++ [0] ++ nmL rk (plL 2 i)) (plL 2 (s.length / 3)) ((plL 2 (s.length / 3)).length : Int) (i : Int)) r := by
  intro d
  induction d with
  | zero =>
    intro i sfk hsf hd
    obtain rfl : i = s.length / 3 := by omega
    have hb := belL_is s rk
    have hbl := hb.1
    have h0 := (h8.2 0)
    have hok : okS (belL rk s.length) (x8 + 1) := by
      refine ⟨by omega, by omega, fun x hx => ?_⟩
      unfold belL nmL at hx
      simp only [List.mem_append, List.mem_map, List.mem_singleton] at hx
      rcases hx with (⟨p, _, rfl⟩ | rfl) | ⟨p, _, rfl⟩
      · have := h8.2 p.toNat; omega
      · omega
      · have := h8.2 p.toNat; omega
    obtain ⟨a, ha, hae⟩ := hsf.next (belL rk s.length) (x8 + 1) hok (by omega)
    obtain ⟨r, hr, hev⟩ := ranked_l4 hn ha hbl (backL_sorted hs hR hR2 hb ha) hl hz a.length 0 (fun k => sfk (k + 1)) (by omega)
    refine ⟨r, hr, ?_⟩
    refine Ev.step (fun k => by rw [skew_ranked.l3]) ?_
    simp only [plL_length, if_neg (show ¬ ((s.length / 3 : Nat) : Int) < ((s.length / 3 : Nat) : Int) by omega)]
    rw [wrap64_id (x := x8 + 1) (by omega) (by omega)]
    exact Ev.bind hae hev
  | succ d ih =>
    intro i sfk hsf hd
    obtain ⟨r, hr, hev⟩ := ih (i + 1) (fun k => sfk (k + 1)) hsf.next (by omega)
    refine ⟨r, hr, ?_⟩
    refine Ev.step (fun k => by rw [skew_ranked.l3]) ?_
    rw [plL_succ, nmL_snoc, ← List.append_assoc] at hev
    have hlen : (nmL rk (plL 1 ((s.length + 1) / 3)) ++ [0] ++ nmL rk (plL 2 i)).length < 17592186044416 := by
      simp only [List.length_append, nmL_length, plL_length, List.length_singleton]; omega
    simp only [if_pos hlen, rd_nat, plL_get (show i < s.length / 3 by omega), if_pos (show (0 : Int) ≤ (i : Int) by omega), if_pos (show (0 : Int) ≤ ((3 * i + 2 : Nat) : Int) by omega), if_pos (show ((3 * i + 2 : Nat) : Int) < (rk.length : Int) by omega)]
    simp only [plL_length] at hev ⊢
    simp only [if_pos (show (i : Int) < ((s.length / 3 : Nat) : Int) by omega)]
    rw [wrap_nat (show i < s.length / 3 by omega) (by omega)]
    rw [Int.toNat_natCast] at hev
    exact hev
theorem ranked_l2 {s rk : List Int} {x8 : Int} (hs : noNeg s) (hn : s.length ≤ 100000) (hn4 : (s.length + 1) / 3 + 1 + s.length / 3 < s.length) (hl : rk.length = s.length + 3) (hz : ∀ p : Nat, (s.length ≤ p ∨ p % 3 = 0) → rk.getD p 0 = 0)
    (hR : tNames s (fun p => rk.getD p 0)) (hR2 : ∀ p q, p < s.length → p % 3 ≠ 0 → q < s.length → q % 3 ≠ 0 → triLt s p q → rk.getD p 0 < rk.getD q 0) (h8 : x8 ≤ 100000 ∧ ∀ p : Nat, 0 ≤ rk.getD p 0 ∧ rk.getD p 0 ≤ x8) :
    ∀ (d i : Nat) (sfk : Nat → List Int → Int → Option (List Int)), sfOk sfk s.length → i + d = (s.length + 1) / 3 →
    ∃ r, rOk s r.1 r.2 ∧ Ev (fun k => skew_ranked.l2 (sfk k) k s rk (smpL s.length) x8 (plL 1 ((s.length + 1) / 3)) (nmL rk (plL 1 i)) (plL 1 ((s.length + 1) / 3)) ((plL 1 ((s.length + 1) / 3)).length : Int) (i : Int)) r := by
  intro d
  induction d with
  | zero =>
    intro i sfk hsf hd
    obtain rfl : i = (s.length + 1) / 3 := by omega
    obtain ⟨r, hr, hev⟩ := ranked_l3 hs hn hn4 hl hz hR hR2 h8 (s.length / 3) 0 (fun k => sfk (k + 1)) hsf.next (by omega)
    refine ⟨r, hr, ?_⟩
    refine Ev.step (fun k => by rw [skew_ranked.l2]) ?_
    have hlen : (nmL rk (plL 1 ((s.length + 1) / 3))).length < 17592186044416 := by rw [nmL_length, plL_length]; omega
    simp only [if_pos hlen]
    simp only [plL_length, if_neg (show ¬ (((s.length + 1) / 3 : Nat) : Int) < (((s.length + 1) / 3 : Nat) : Int) by omega)]
    refine Ev.bind (skew_places_ev s.length 2 (by omega) (by omega)) ?_
    rw [show s.length + 2 - 2 = s.length by omega]
    have e : plL 2 0 = [] := rfl
    rw [e, show nmL rk [] = [] from rfl, List.append_nil] at hev
    exact hev
  | succ d ih =>
    intro i sfk hsf hd
    obtain ⟨r, hr, hev⟩ := ih (i + 1) (fun k => sfk (k + 1)) hsf.next (by omega)
    refine ⟨r, hr, ?_⟩
    refine Ev.step (fun k => by rw [skew_ranked.l2]) ?_
    rw [plL_succ 1 i, nmL_snoc] at hev
    have hlen : (nmL rk (plL 1 i)).length < 17592186044416 := by rw [nmL_length, plL_length]; omega
    simp only [if_pos hlen, rd_nat, plL_get (show i < (s.length + 1) / 3 by omega), if_pos (show (0 : Int) ≤ (i : Int) by omega), if_pos (show (0 : Int) ≤ ((3 * i + 1 : Nat) : Int) by omega), if_pos (show ((3 * i + 1 : Nat) : Int) < (rk.length : Int) by omega)]
    simp only [plL_length] at hev ⊢
    simp only [if_pos (show (i : Int) < (((s.length + 1) / 3 : Nat) : Int) by omega)]
    rw [wrap_nat (show i < (s.length + 1) / 3 by omega) (by omega)]
    rw [Int.toNat_natCast] at hev
    exact hev
def ncl (s o : List Int) : Nat → Int
  | 0 => 0
  | i + 1 => clsT s o i
theorem ncl_bd (s o : List Int) (i : Nat) : 0 ≤ ncl s o i ∧ ncl s o i ≤ (i : Int) := by
  cases i with
  | zero => simp [ncl]
  | succ i => have := cls_pos s o i; simp only [ncl]; omega
theorem ranked_l1 {s o : List Int} {kk : Int} (hok : okS s kk) (hp : o.Pairwise (fun x y => triLt s x.toNat y.toNat ∨ triEq s x.toNat y.toNat)) (hnd : o.Nodup) (hm : ∀ x, x ∈ o ↔ 0 ≤ x ∧ x < (s.length : Int) ∧ x % 3 ≠ 0) (hol : o.length = (s.length + 1) / 3 + s.length / 3) :
    ∀ (d i : Nat) (rk : List Int) (sfk : Nat → List Int → Int → Option (List Int)), sfOk sfk s.length → i + d = o.length → rk.length = s.length + 3 → (∀ j, j < i → rk.getD (o.getD j 0).toNat 0 = clsT s o j) → (∀ p : Nat, (p : Int) ∉ o.take i → rk.getD p 0 = 0) →
    ∃ r, rOk s r.1 r.2 ∧ Ev (fun k => skew_ranked.l1 (sfk k) k s o rk (smpL s.length) (ncl s o i) o (o.length : Int) (i : Int)) r := by
  have hn := hok.1
  have hs := hok.noNeg
  intro d
  induction d with
  | zero =>
    intro i rk sfk hsf hd hl h1 h2
    obtain rfl : i = o.length := by omega
    rw [List.take_of_length_le (by omega)] at h2
    by_cases hfull : ncl s o o.length = ((smpL s.length).length : Int)
    · have hf : ∀ j, j < o.length → clsT s o j = (j : Int) + 1 := by
        intro j hj
        obtain ⟨q, hq⟩ : ∃ q, o.length = q + 1 := ⟨o.length - 1, by omega⟩
        rw [hq] at hfull
        simp only [ncl, smpL_length] at hfull
        exact cls_full (n := q) (by omega) (by omega)
      refine ⟨(o, rk), ⟨cls_sorted hs (fun x hx => by have := (hm x).1 hx; omega) hp hf, hm, hl, fun j hj => by rw [h1 j hj, hf j hj], h2⟩, ?_⟩
      refine Ev.step (fun k => by rw [skew_ranked.l1]) ?_
      simp only [if_neg (show ¬ (o.length : Int) < o.length by omega), if_pos hfull]
      exact Ev.now _
    · have hidx : ∀ p : Nat, p < s.length → p % 3 ≠ 0 → ∃ j, j < o.length ∧ o.getD j 0 = (p : Int) ∧ rk.getD p 0 = clsT s o j := fun p hp1 hp3 => by
        have hmem : (p : Int) ∈ o := (hm _).2 ⟨by omega, by omega, by omega⟩
        have hlt := List.idxOf_lt_length_of_mem hmem
        refine ⟨o.idxOf (p : Int), hlt, idxOf_getD hmem, ?_⟩
        have := h1 _ hlt
        rw [idxOf_getD hmem] at this
        simpa using this
      have hz : ∀ p : Nat, (s.length ≤ p ∨ p % 3 = 0) → rk.getD p 0 = 0 := fun p hp1 => h2 p (fun hmem => by have := (hm _).1 hmem; omega)
      have hR : tNames s (fun p => rk.getD p 0) := by
        refine ⟨fun p hp1 hp3 => ?_, fun p q hp1 hp3 hq1 hq3 hlt => ?_⟩
        · obtain ⟨j, hj, ej, rj⟩ := hidx p hp1 hp3
          have := (cls_pos s o j).1
          show 1 ≤ rk.getD p 0
          omega
        · obtain ⟨i, hi, ei, ri⟩ := hidx p hp1 hp3
          obtain ⟨j, hj, ej, rj⟩ := hidx q hq1 hq3
          replace hlt : rk.getD p 0 < rk.getD q 0 := hlt
          rw [ri, rj] at hlt
          rcases Nat.lt_or_ge i j with hij | hij
          · have := (cls_le hp (i := i) (j := j) (by omega) hj).2.1 hlt
            rw [ei, ej] at this
            simpa using this
          · have := (cls_le hp (i := j) (j := i) (by omega) hi).1
            omega
      have hR2 : ∀ p q, p < s.length → p % 3 ≠ 0 → q < s.length → q % 3 ≠ 0 → triLt s p q → rk.getD p 0 < rk.getD q 0 := fun p q hp1 hp3 hq1 hq3 hlt => by
        obtain ⟨i, hi, ei, ri⟩ := hidx p hp1 hp3
        obtain ⟨j, hj, ej, rj⟩ := hidx q hq1 hq3
        rw [ri, rj]
        rcases Nat.lt_or_ge i j with hij | hij
        · have h3 := cls_le hp (i := i) (j := j) (by omega) hj
          rw [ei, ej] at h3
          simp only [Int.toNat_natCast] at h3
          rcases Int.lt_or_eq_of_le h3.1 with k | k
          · exact k
          · exact absurd hlt (triLt_irrefl (h3.2.2 k))
        · have h3 := cls_le hp (i := j) (j := i) (by omega) hi
          rw [ei, ej] at h3
          simp only [Int.toNat_natCast] at h3
          rcases Int.lt_or_eq_of_le h3.1 with k | k
          · exact absurd hlt (triLt_asymm (h3.2.1 k))
          · have := h3.2.2 k
            exact absurd hlt (triLt_irrefl ⟨this.1.symm, this.2.1.symm, this.2.2.symm⟩)
      have hbd := ncl_bd s o o.length
      have h8 : ncl s o o.length ≤ 100000 ∧ ∀ p : Nat, 0 ≤ rk.getD p 0 ∧ rk.getD p 0 ≤ ncl s o o.length := by
        refine ⟨by omega, fun p => ?_⟩
        by_cases hp1 : s.length ≤ p ∨ p % 3 = 0
        · rw [hz p hp1]; omega
        · obtain ⟨j, hj, ej, rj⟩ := hidx p (by omega) (by omega)
          have h3 := cls_pos s o j
          obtain ⟨q, hq⟩ : ∃ q, o.length = q + 1 := ⟨o.length - 1, by omega⟩
          have h4 := (cls_le hp (i := j) (j := q) (by omega) (by omega)).1
          rw [hq, rj]; simp only [ncl]; omega
      have hn4 : (s.length + 1) / 3 + 1 + s.length / 3 < s.length := by
        rcases Nat.lt_or_ge s.length 4 with h4 | h4
        · exfalso
          apply hfull
          rw [smpL_length]
          have hc : o.length = 0 ∨ o.length = 1 ∨ o.length = 2 := by omega
          rcases hc with hc | hc | hc
          · rw [hc]; simp only [ncl]; omega
          · rw [hc]; simp only [ncl, clsT]; omega
          · rw [hc]; simp only [ncl, clsT]
            have hs3 : s.length = 3 := by omega
            have hm0 := (hm _).1 (getD_mem (show 0 < o.length by omega))
            have hm1 := (hm _).1 (getD_mem (show 1 < o.length by omega))
            have hne : o.getD 0 0 ≠ o.getD 1 0 := fun e => by have := getD_inj hnd (show 0 < o.length by omega) (show 1 < o.length by omega) e; omega
            have hno : ¬ triEq s (o.getD 0 0).toNat (o.getD (0 + 1) 0).toNat := by
              simp only [Nat.zero_add]
              have k2 := ky_pos hs (show 2 < s.length by omega)
              have k3 := ky_end (s := s) (i := 3) (by omega)
              have hc2 : (o.getD 0 0 = 1 ∧ o.getD 1 0 = 2) ∨ (o.getD 0 0 = 2 ∧ o.getD 1 0 = 1) := by omega
              rcases hc2 with ⟨e0, e1⟩ | ⟨e0, e1⟩
              · rw [e0, e1]; intro ht; have := ht.2.1; simp only [show (1 : Int).toNat + 1 = 2 from rfl, show (2 : Int).toNat + 1 = 3 from rfl] at this; omega
              · rw [e0, e1]; intro ht; have := ht.2.1; simp only [show (1 : Int).toNat + 1 = 2 from rfl, show (2 : Int).toNat + 1 = 3 from rfl] at this; omega
            rw [if_neg hno]; omega
        · omega
      obtain ⟨r, hr, hev⟩ := ranked_l2 hs hn hn4 hl hz hR hR2 h8 ((s.length + 1) / 3) 0 (fun k => sfk (k + 1)) hsf.next (by omega)
      refine ⟨r, hr, ?_⟩
      refine Ev.step (fun k => by rw [skew_ranked.l1]) ?_
      simp only [if_neg (show ¬ (o.length : Int) < o.length by omega), if_neg hfull]
      refine Ev.bind (skew_places_ev s.length 1 (by omega) (by omega)) ?_
      rw [show s.length + 2 - 1 = s.length + 1 by omega]
      exact hev
  | succ d ih =>
    intro i rk sfk hsf hd hl h1 h2
    have hi : i < o.length := by omega
    have hx := (hm _).1 (getD_mem hi)
    have hbd := ncl_bd s o (i + 1)
    have hbd0 := ncl_bd s o i
    obtain ⟨r, hr, hev⟩ := ih (i + 1) (rk.set (o.getD i 0).toNat (clsT s o i)) (fun k => sfk (k + 1)) hsf.next (by omega) (by rw [List.length_set, hl]) (fun j hj => by
      rw [lset (by omega)]
      by_cases e : j = i
      · subst e; rw [if_pos rfl]
      · rw [if_neg]
        · exact h1 j (by omega)
        · intro he
          have hxj := (hm _).1 (getD_mem (show j < o.length by omega))
          exact e (getD_inj hnd (show j < o.length by omega) hi (by omega))) (fun p hpo => by
      rw [take_next hi, List.mem_append, List.mem_singleton, not_or] at hpo
      rw [lset (by omega), if_neg]
      · exact h2 p hpo.1
      · rintro rfl
        exact hpo.2 (by rw [Int.toNat_of_nonneg hx.1]))
    refine ⟨r, hr, ?_⟩
    refine Ev.step (fun k => by rw [skew_ranked.l1]) ?_
    simp only [if_pos (show (i : Int) < o.length by omega), if_pos (show 0 ≤ (i : Int) by omega), rd_nat, if_pos hx.1, if_pos (show o.getD i 0 < (rk.length : Int) by omega), wrap_nat hi (show o.length ≤ 140737488355328 by omega)]
    cases i with
    | zero =>
      simp only [Int.natCast_zero, if_true, show ((0 : Nat) : Int) = 0 from rfl]
      rw [wrap64_id (x := ncl s o 0 + 1) (by omega) (by omega)]
      simp only [ncl, clsT] at hev ⊢
      exact hev
    | succ i =>
      rw [wrap64_id (x := ((i + 1 : Nat) : Int) - 1) (by omega) (by omega), show ((i + 1 : Nat) : Int) - 1 = (i : Int) by omega]
      simp only [if_neg (show ¬ ((i + 1 : Nat) : Int) = 0 by omega)]
      have hxi := (hm _).1 (getD_mem (show i < o.length by omega))
      simp only [if_pos (show 0 ≤ (i : Int) by omega), if_pos (show (i : Int) < (o.length : Int) by omega), rd_nat]
      have e1 : o.getD i 0 = (((o.getD i 0).toNat : Nat) : Int) := by omega
      have e2 : o.getD (i + 1) 0 = (((o.getD (i + 1) 0).toNat : Nat) : Int) := by omega
      have hal := skew_alike_ev hok (i := (o.getD i 0).toNat) (j := (o.getD (i + 1) 0).toNat) (by omega) (by omega)
      rw [← e1, ← e2] at hal
      refine Ev.bind hal ?_
      simp only [ncl, clsT] at hev hbd ⊢
      by_cases ht : triEq s (o.getD i 0).toNat (o.getD (i + 1) 0).toNat
      · rw [if_pos ht, Int.add_zero] at hev
        simp only [decide_eq_true ht, if_true]
        exact hev
      · rw [if_neg ht] at hev
        rw [if_neg ht] at hbd
        rw [wrap64_id (x := clsT s o i + 1) (by omega) (by omega)]
        simp only [decide_eq_false ht, if_neg (show ¬ false = true by decide)]
        exact hev
theorem kysL_okKeys {s : List Int} {kk : Int} (hok : okS s kk) (hk : 0 ≤ kk) (b : Nat) : okKeys (kysL s b) (kk + 1) := by
  refine ⟨by omega, by have := hok.2.1; omega, fun x hx => ?_⟩
  obtain ⟨i, hi, rfl⟩ := List.mem_map.1 hx
  rcases Nat.lt_or_ge (i + b) s.length with h | h
  · have := hok.2.2 _ (getD_mem h)
    rw [ky_in h]; omega
  · rw [ky_end h]; omega
theorem ranked_l0_step {s o : List Int} {kk : Int} (hok : okS s kk) (hk : 0 ≤ kk) {b : Nat} (hb : b ≤ 2) (ho : ∀ x ∈ o, 0 ≤ x ∧ x < (s.length : Int)) (hol : o.length ≤ 100000) {sfk : Nat → List Int → Int → Option (List Int)} {r : List Int × List Int}
    (h : Ev (fun k => skew_ranked.l0 (sfk (k + 1)) k s kk (stab (keyOf (kysL s b)) o (kk + 1).toNat) (smpL s.length) ((b : Int) - 1)) r) :
    Ev (fun k => skew_ranked.l0 (sfk k) k s kk o (smpL s.length) (b : Int)) r := by
  have hn := hok.1
  have hkk := hok.2.1
  refine Ev.step (fun k => by rw [skew_ranked.l0]) ?_
  simp only [if_pos (show (b : Int) ≥ 0 by omega)]
  refine Ev.bind (skew_keys_ev hok b (by omega)) ?_
  rw [wrap64_id (x := kk + 1) (by omega) (by omega), wrap64_id (x := (b : Int) - 1) (by omega) (by omega)]
  refine Ev.bind (bucket_Pass_ev o (kysL s b) (kk + 1) (by omega) (by rw [kysL_length]; omega)) ?_
  rw [passR, if_pos ⟨kysL_okKeys hok hk b, fun x hx => by rw [kysL_length]; exact ho x hx⟩]
  exact h
theorem stab_of_keys {s o : List Int} {kk : Int} (hok : okS s kk) (hk : 0 ≤ kk) (b : Nat) (ho : ∀ x ∈ o, 0 ≤ x ∧ x < (s.length : Int)) :
    (stab (keyOf (kysL s b)) o (kk + 1).toNat).length = o.length ∧ ∀ x, x ∈ stab (keyOf (kysL s b)) o (kk + 1).toNat ↔ x ∈ o := by
  have hr : ∀ x ∈ o, 0 ≤ keyOf (kysL s b) x ∧ keyOf (kysL s b) x < ((kk + 1).toNat : Int) := fun x hx => by
    have := key_ok (kysL_okKeys hok hk b) (ho x hx).1 (by rw [kysL_length]; exact (ho x hx).2)
    omega
  exact ⟨stab_all hr, fun x => by rw [stab_mem]; exact ⟨fun h => h.1, fun h => ⟨h, hr x h⟩⟩⟩
theorem keyOf_kys {s : List Int} {b : Nat} {x : Int} (h0 : 0 ≤ x) (h1 : x < (s.length : Int)) : keyOf (kysL s b) x = ky s (x.toNat + b) := by
  unfold keyOf; rw [kysL_get (by omega)]
theorem skew_ranked_ev {s : List Int} {kk : Int} (hok : okS s kk) (hk : 0 ≤ kk) {sfk : Nat → List Int → Int → Option (List Int)} (hsf : sfOk sfk s.length) : ∃ r, rOk s r.1 r.2 ∧ Ev (fun k => skew_ranked.f (sfk k) k s kk) r := by
  have hn := hok.1
  have h0 : ∀ x ∈ smpL s.length, 0 ≤ x ∧ x < (s.length : Int) := fun x hx => by have := smpL_mem.1 hx; omega
  have s2 := stab_of_keys hok hk 2 h0
  generalize h2 : stab (keyOf (kysL s 2)) (smpL s.length) (kk + 1).toNat = o2 at s2
  have h2r : ∀ x ∈ o2, 0 ≤ x ∧ x < (s.length : Int) := fun x hx => h0 x ((s2.2 x).1 hx)
  have s1 := stab_of_keys hok hk 1 h2r
  generalize h1 : stab (keyOf (kysL s 1)) o2 (kk + 1).toNat = o1 at s1
  have h1r : ∀ x ∈ o1, 0 ≤ x ∧ x < (s.length : Int) := fun x hx => h2r x ((s1.2 x).1 hx)
  have s0 := stab_of_keys hok hk 0 h1r
  generalize h0' : stab (keyOf (kysL s 0)) o1 (kk + 1).toNat = o0 at s0
  have hm : ∀ x, x ∈ o0 ↔ 0 ≤ x ∧ x < (s.length : Int) ∧ x % 3 ≠ 0 := fun x => by rw [s0.2, s1.2, s2.2]; exact smpL_mem
  have hsl := smpL_length s.length
  have hpw : o0.Pairwise (fun x y => keyOf (kysL s 0) x < keyOf (kysL s 0) y ∨ (keyOf (kysL s 0) x = keyOf (kysL s 0) y ∧ (keyOf (kysL s 1) x < keyOf (kysL s 1) y ∨ (keyOf (kysL s 1) x = keyOf (kysL s 1) y ∧
      (keyOf (kysL s 2) x < keyOf (kysL s 2) y ∨ (keyOf (kysL s 2) x = keyOf (kysL s 2) y ∧ x ≠ y)))))) := by
    rw [← h0', ← h1, ← h2]
    exact stab_pairwise (stab_pairwise (stab_pairwise (smpL_ne _) _) _) _
  have hnd : o0.Nodup := hpw.imp (fun {x y} h => by rintro rfl; omega)
  have hp : o0.Pairwise (fun x y => triLt s x.toNat y.toNat ∨ triEq s x.toNat y.toNat) := by
    refine List.Pairwise.imp_of_mem (fun {x y} hx hy h => ?_) hpw
    have mx := (hm x).1 hx
    have my := (hm y).1 hy
    rw [keyOf_kys mx.1 mx.2.1, keyOf_kys my.1 my.2.1, keyOf_kys mx.1 mx.2.1, keyOf_kys my.1 my.2.1, keyOf_kys mx.1 mx.2.1, keyOf_kys my.1 my.2.1] at h
    unfold triLt triEq
    simp only [Nat.add_zero] at h
    omega
  have hsf4 : sfOk (fun k => sfk (k + 1 + 1 + 1 + 1)) s.length := hsf.next.next.next.next
  obtain ⟨r, hr, hev⟩ := ranked_l1 hok hp hnd hm (by omega) o0.length 0 (List.replicate (s.length + 3) 0) _ hsf4 (by omega) (by simp) (fun j hj => by omega) (fun p _ => getD_replicate)
  refine ⟨r, hr, ?_⟩
  refine Ev.congr (fun k => by rw [skew_ranked.f]) ?_
  refine Ev.bind (skew_Sample_ev s.length (by omega)) ?_
  refine ranked_l0_step hok hk (b := 2) (by omega) h0 (by omega) ?_
  rw [h2]
  refine ranked_l0_step hok hk (b := 1) (sfk := fun k => sfk (k + 1)) (by omega) h2r (by omega) ?_
  rw [h1]
  refine ranked_l0_step hok hk (b := 0) (sfk := fun k => sfk (k + 1 + 1)) (by omega) h1r (by omega) ?_
  rw [h0']
  refine Ev.step (fun k => by rw [skew_ranked.l0]) ?_
  rw [wrap64_id (x := (s.length : Int) + 3) (by omega) (by omega)]
  simp only [if_neg (show ¬ (((0 : Nat) : Int) - 1 ≥ 0) by omega), if_pos (show (0 : Int) ≤ (s.length : Int) + 3 by omega), show ((s.length : Int) + 3).toNat = s.length + 3 by omega, if_pos (show s.length + 3 ≤ 35184372088832 by omega)]
  exact hev
def mOk (s l o t : List Int) : Prop := mInv s l o t ∧ l.length + o.length + t.length = s.length ∧ (∀ x ∈ l, 0 ≤ x ∧ x < (s.length : Int)) ∧ (∀ x ∈ o, 0 ≤ x ∧ x < (s.length : Int) ∧ x % 3 ≠ 0) ∧ ∀ x ∈ t, 0 ≤ x ∧ x < (s.length : Int) ∧ x % 3 = 0
theorem mOk.fromO {s l o t : List Int} {a b : Int} (h : mOk s l (a :: o) (b :: t)) (hab : sufLt s a b) : mOk s (l ++ [a]) o (b :: t) := by
  obtain ⟨h1, h2, h3, h4, h5⟩ := h
  refine ⟨h1.fromO hab, by simp only [List.length_append, List.length_cons, List.length_nil] at h2 ⊢; omega, fun x hx => ?_, fun x hx => h4 x (List.mem_cons_of_mem _ hx), h5⟩
  rcases List.mem_append.1 hx with hx | hx
  · exact h3 x hx
  · rw [List.mem_singleton] at hx; subst hx
    have := h4 x (by simp)
    omega
theorem mOk.fromT {s l o t : List Int} {b : Int} (h : mOk s l o (b :: t)) (hab : ∀ a ∈ o.head?, sufLt s b a) : mOk s (l ++ [b]) o t := by
  obtain ⟨h1, h2, h3, h4, h5⟩ := h
  refine ⟨h1.fromT hab, by simp only [List.length_append, List.length_cons, List.length_nil] at h2 ⊢; omega, fun x hx => ?_, h4, fun x hx => h5 x (List.mem_cons_of_mem _ hx)⟩
  rcases List.mem_append.1 hx with hx | hx
  · exact h3 x hx
  · rw [List.mem_singleton] at hx; subst hx
    have := h5 x (by simp)
    omega
theorem mOk.done {s l o : List Int} (h : mOk s l o []) : IsSA s (l ++ o) := by
  obtain ⟨h1, h2, h3, h4, h5⟩ := h
  refine ⟨by rw [List.length_append]; simpa using h2, fun x hx => ?_, h1.done⟩
  rcases List.mem_append.1 hx with hx | hx
  · exact h3 x hx
  · have := h4 x hx; omega
theorem sorted_l2 {s o0 rk t : List Int} {kk : Int} (hok : okS s kk) (hr : rOk s o0 rk) {i : Nat} (hi : i < t.length) (ht : t.length ≤ 100000)
    (hnext : ∀ l o, mOk s l o (t.drop (i + 1)) → ∃ r, IsSA s r ∧ Ev (fun k => skew_sorted.l1 k s o rk l t (t.length : Int) ((i + 1 : Nat) : Int)) r) :
    ∀ (o l : List Int), mOk s l o (t.drop i) → ∃ r, IsSA s r ∧ Ev (fun k => skew_sorted.l2 k s o rk l (t.getD i 0) t (t.length : Int) (i : Int)) r := by
  have hn := hok.1
  have hdrop := drop_cons_get hi
  intro o
  induction o with
  | nil =>
    intro l h
    have hlen := h.2.1
    rw [hdrop] at h
    obtain ⟨r, hrs, hev⟩ := hnext _ _ (h.fromT (by simp))
    refine ⟨r, hrs, ?_⟩
    refine Ev.step (fun k => by rw [skew_sorted.l2]) ?_
    simp only [List.length_nil, if_neg (show ¬ ((0 : Nat) : Int) > 0 by omega), if_pos (show l.length < 17592186044416 by omega), wrap_nat hi (show t.length ≤ 140737488355328 by omega)]
    exact hev
  | cons a o ih =>
    intro l h
    have hlen := h.2.1
    have h4 := h.2.2.2.1 a (by simp)
    have h5 := h.2.2.2.2 (t.getD i 0) (by rw [hdrop]; simp)
    have hless := skew_less_ev hok hr (i := a.toNat) (j := (t.getD i 0).toNat) (by omega) (by omega) (by omega)
    rw [Int.toNat_of_nonneg h4.1, Int.toNat_of_nonneg h5.1] at hless
    rw [hdrop] at h
    have hrd : rd (a :: o) 0 = a := rfl
    by_cases hl : sufLt s a (t.getD i 0)
    · obtain ⟨r, hrs, hev⟩ := ih (l ++ [a]) (by rw [hdrop]; exact h.fromO hl)
      refine ⟨r, hrs, ?_⟩
      refine Ev.step (fun k => by rw [skew_sorted.l2]) ?_
      simp only [List.length_cons, if_pos (show ((o.length + 1 : Nat) : Int) > 0 by omega), if_pos (show (0 : Int) < ((o.length + 1 : Nat) : Int) by omega), hrd]
      refine Ev.bind hless ?_
      simp only [decide_eq_true hl, if_true, if_pos (show l.length < 17592186044416 by omega), if_pos (show (1 : Int) ≤ ((o.length + 1 : Nat) : Int) by omega)]
      exact hev
    · obtain ⟨r, hrs, hev⟩ := hnext _ _ (h.fromT (fun a' ha' => by
        simp only [List.head?_cons, Option.mem_def, Option.some.injEq] at ha'
        subst ha'
        rcases suf_tri (s := s) (x := a) (y := t.getD i 0) h4.1 (by omega) h5.1 (by omega) (by omega) with k | k
        · exact absurd k hl
        · exact k))
      refine ⟨r, hrs, ?_⟩
      refine Ev.step (fun k => by rw [skew_sorted.l2]) ?_
      simp only [List.length_cons, if_pos (show ((o.length + 1 : Nat) : Int) > 0 by omega), if_pos (show (0 : Int) < ((o.length + 1 : Nat) : Int) by omega), hrd]
      refine Ev.bind hless ?_
      simp only [decide_eq_false hl, if_neg (show ¬ false = true by decide), if_pos (show l.length < 17592186044416 by omega), wrap_nat hi (show t.length ≤ 140737488355328 by omega)]
      exact hev
theorem sorted_l1 {s o0 rk t : List Int} {kk : Int} (hok : okS s kk) (hr : rOk s o0 rk) (ht : t.length ≤ 100000) :
    ∀ (d i : Nat) (l o : List Int), i + d = t.length → mOk s l o (t.drop i) → ∃ r, IsSA s r ∧ Ev (fun k => skew_sorted.l1 k s o rk l t (t.length : Int) (i : Int)) r := by
  have hn := hok.1
  intro d
  induction d with
  | zero =>
    intro i l o hd h
    have hlen := h.2.1
    rw [List.drop_of_length_le (by omega)] at h
    refine ⟨l ++ o, h.done, ?_⟩
    refine Ev.step (fun k => by rw [skew_sorted.l1]) ?_
    simp only [if_neg (show ¬ (i : Int) < t.length by omega), if_pos (show l.length + o.length < 17592186044416 by omega)]
    exact Ev.now _
  | succ d ih =>
    intro i l o hd h
    have hi : i < t.length := by omega
    obtain ⟨r, hrs, hev⟩ := sorted_l2 hok hr hi ht (fun l o h => ih (i + 1) l o (by omega) h) o l h
    refine ⟨r, hrs, ?_⟩
    refine Ev.step (fun k => by rw [skew_sorted.l1]) ?_
    simp only [if_pos (show (i : Int) < t.length by omega), if_pos (show 0 ≤ (i : Int) by omega), rd_nat]
    exact hev
def behL (rk : List Int) (n : Nat) : List Int := (List.range n).map (fun (i : Nat) => rk.getD (i + 1) 0)
theorem behL_length (rk : List Int) (n : Nat) : (behL rk n).length = n := by simp [behL]
theorem behL_get {rk : List Int} {n i : Nat} (h : i < n) : (behL rk n).getD i 0 = rk.getD (i + 1) 0 := by
  unfold behL
  rw [List.getD_eq_getElem?_getD, List.getElem?_map, List.getElem?_range h]; rfl
theorem rOk_bd {s o rk : List Int} (h : rOk s o rk) (hol : o.length ≤ s.length) (p : Nat) : 0 ≤ rk.getD p 0 ∧ rk.getD p 0 ≤ (s.length : Int) := by
  by_cases hp : s.length ≤ p ∨ p % 3 = 0
  · rw [h.out hp]; omega
  · obtain ⟨i, hi, _, ri⟩ := h.at_ (p := p) (by omega) (by omega)
    omega
theorem rOk_len {s o rk : List Int} (h : rOk s o rk) : o.length = (s.length + 1) / 3 + s.length / 3 := by
  have hnd : o.Nodup := h.1.imp (fun {x y} hxy => by rintro rfl; exact ltL_irrefl _ hxy)
  have hsn : (smpL s.length).Nodup := smpL_ne s.length
  have h1 : o.length ≤ (smpL s.length).length := nd_len hnd (fun x hx => smpL_mem.2 ((h.2.1 x).1 hx))
  have h2 : (smpL s.length).length ≤ o.length := nd_len hsn (fun x hx => (h.2.1 x).2 (smpL_mem.1 hx))
  rw [smpL_length] at h1 h2
  omega
theorem sorted_l0 {s o rk : List Int} {kk : Int} (hok : okS s kk) (hk : 0 ≤ kk) (hr : rOk s o rk) : ∀ (d i : Nat) (b : List Int), i + d = s.length → b.length = s.length → (∀ j, j < i → b.getD j 0 = rk.getD (j + 1) 0) →
    ∃ r, IsSA s r ∧ Ev (fun k => skew_sorted.l0 k s kk o rk (plL 0 ((s.length + 2) / 3)) b (s.length : Int) (i : Int)) r := by
  have hn := hok.1
  have hol := (rOk_len hr)
  intro d
  induction d with
  | zero =>
    intro i b hd hbl hb
    obtain rfl : b = behL rk s.length := ext_getD (by rw [behL_length, hbl]) (fun j hj => by rw [behL_get (by omega), hb j (by omega)])
    have hplm : ∀ x, x ∈ plL 0 ((s.length + 2) / 3) ↔ 0 ≤ x ∧ x < (s.length : Int) ∧ x % 3 = 0 := fun x => by
      rw [plL_mem]
      constructor
      · rintro ⟨j, hj, rfl⟩; omega
      · rintro ⟨h1, h2, h3⟩; exact ⟨(x / 3).toNat, by omega, by omega⟩
    have hkb : okKeys (behL rk s.length) ((s.length : Int) + 1) := by
      refine ⟨by omega, by omega, fun x hx => ?_⟩
      obtain ⟨j, _, rfl⟩ := List.mem_map.1 hx
      have := rOk_bd hr (by omega) (j + 1)
      omega
    have hb1 : ∀ x ∈ plL 0 ((s.length + 2) / 3), 0 ≤ keyOf (behL rk s.length) x ∧ keyOf (behL rk s.length) x < (((s.length : Int) + 1).toNat : Int) := fun x hx => by
      have h1 := (hplm x).1 hx
      have := key_ok hkb h1.1 (by rw [behL_length]; exact h1.2.1)
      omega
    have m1 : ∀ x, x ∈ stab (keyOf (behL rk s.length)) (plL 0 ((s.length + 2) / 3)) ((s.length : Int) + 1).toNat ↔ 0 ≤ x ∧ x < (s.length : Int) ∧ x % 3 = 0 := fun x => by
      rw [stab_mem, ← hplm]; exact ⟨fun h => h.1, fun h => ⟨h, hb1 x h⟩⟩
    have l1 := stab_all hb1
    rw [plL_length] at l1
    have hpw := stab_pairwise (kf := keyOf (kysL s 0)) (stab_pairwise (kf := keyOf (behL rk s.length)) (plL_rises 0 ((s.length + 2) / 3)) ((s.length : Int) + 1).toNat) (kk + 1).toNat
    generalize h1 : stab (keyOf (behL rk s.length)) (plL 0 ((s.length + 2) / 3)) ((s.length : Int) + 1).toNat = t1 at m1 l1 hpw
    have s0 := stab_of_keys hok hk 0 (o := t1) (fun x hx => by have := (m1 x).1 hx; omega)
    generalize h2 : stab (keyOf (kysL s 0)) t1 (kk + 1).toNat = t0 at s0 hpw
    have m0 : ∀ x, x ∈ t0 ↔ 0 ≤ x ∧ x < (s.length : Int) ∧ x % 3 = 0 := fun x => by rw [s0.2]; exact m1 x
    have hsort : t0.Pairwise (sufLt s) := by
      refine List.Pairwise.imp_of_mem (fun {x y} hx hy h => ?_) hpw
      have mx := (m0 x).1 hx
      have my := (m0 y).1 hy
      rw [keyOf_kys mx.1 mx.2.1, keyOf_kys my.1 my.2.1] at h
      simp only [keyOf, Nat.add_zero] at h
      rw [behL_get (show x.toNat < s.length by omega), behL_get (show y.toNat < s.length by omega)] at h
      have hne : x ≠ y := fun e => by subst e; omega
      have := others_suf hr (x := x.toNat) (y := y.toNat) (by omega) (by omega) (by omega) (by omega) (by omega) (by omega)
      rwa [Int.toNat_of_nonneg mx.1, Int.toNat_of_nonneg my.1] at this
    have hM : mOk s [] o (t0.drop 0) := by
      refine ⟨⟨.nil, hr.1, by simpa using hsort, by simp, by simp⟩, ?_, by simp, fun x hx => (hr.2.1 x).1 hx, fun x hx => (m0 x).1 (by simpa using hx)⟩
      simp only [List.length_nil, List.drop_zero]
      omega
    obtain ⟨r, hrs, hev⟩ := sorted_l1 hok hr (t := t0) (by omega) t0.length 0 [] o (by omega) hM
    refine ⟨r, hrs, ?_⟩
    refine Ev.step (fun k => by rw [skew_sorted.l0]) ?_
    simp only [if_neg (show ¬ (i : Int) < s.length by omega)]
    have hkk := hok.2.1
    rw [wrap64_id (x := (s.length : Int) + 1) (by omega) (by omega), wrap64_id (x := kk + 1) (by omega) (by omega)]
    refine Ev.bind (bucket_Pass_ev _ _ _ (by rw [plL_length]; omega) (by rw [behL_length]; omega)) ?_
    rw [passR, if_pos ⟨hkb, fun x hx => by have := (hplm x).1 hx; rw [behL_length]; omega⟩, h1]
    refine Ev.bind (skew_keys_ev hok 0 (by omega)) ?_
    refine Ev.bind (bucket_Pass_ev _ _ _ (show t1.length ≤ _ by omega) (by rw [kysL_length]; omega)) ?_
    rw [passR, if_pos ⟨kysL_okKeys hok hk 0, fun x hx => by have := (m1 x).1 hx; rw [kysL_length]; omega⟩, h2]
    exact hev
  | succ d ih =>
    intro i b hd hbl hb
    have hi : i < s.length := by omega
    have hrl := hr.2.2.1
    obtain ⟨r, hrs, hev⟩ := ih (i + 1) (b.set i (rk.getD (i + 1) 0)) (by omega) (by rw [List.length_set, hbl]) (fun j hj => by
      rw [lset (by omega)]
      by_cases e : i = j
      · rw [if_pos e, e]
      · rw [if_neg e]; exact hb j (by omega))
    refine ⟨r, hrs, ?_⟩
    refine Ev.step (fun k => by rw [skew_sorted.l0]) ?_
    rw [wrap_nat hi (show s.length ≤ 140737488355328 by omega)]
    simp only [if_pos (show (i : Int) < s.length by omega), if_pos (show (0 : Int) ≤ ((i + 1 : Nat) : Int) by omega), if_pos (show ((i + 1 : Nat) : Int) < (rk.length : Int) by omega), if_pos (show (0 : Int) ≤ (i : Int) by omega), if_pos (show (i : Int) < (b.length : Int) by omega), rd_nat, Int.toNat_natCast]
    exact hev
theorem skew_sorted_ev : ∀ (n : Nat) (s : List Int) (kk : Int), s.length < n → okS s kk → ∃ a, IsSA s a ∧ Ev (fun k => skew_sorted.f k s kk) a := by
  intro n
  induction n with
  | zero => intro s kk h; omega
  | succ n ih =>
    intro s kk hlt hok
    have hn := hok.1
    have hpl := skew_places_ev s.length 0 (by omega) (by omega)
    by_cases h2 : s.length < 2
    · refine ⟨(plL 0 ((s.length + 2) / 3)).take s.length, ?_, ?_⟩
      · have hc : s.length = 0 ∨ s.length = 1 := by omega
        rcases hc with hc | hc
        · rw [hc]; exact ⟨by rw [hc]; rfl, by simp, by simp⟩
        · rw [hc]
          have e : (plL 0 ((1 + 2) / 3)).take 1 = [0] := by decide
          rw [e]
          exact ⟨by rw [hc]; rfl, fun x hx => by rw [List.mem_singleton] at hx; omega, by simp⟩
      · refine Ev.step (fun k => by rw [skew_sorted.f]) ?_
        simp only [if_pos (show (s.length : Int) < 2 by omega)]
        refine Ev.bind hpl ?_
        simp only [plL_length, if_pos (show 0 ≤ (s.length : Int) by omega), Int.toNat_natCast]
        rw [if_pos (show (s.length : Int) ≤ (((s.length + 2 - 0) / 3 : Nat) : Int) by omega)]
        exact Ev.now _
    · have hk : 0 ≤ kk := by
        have := hok.2.2 _ (getD_mem (show 0 < s.length by omega))
        omega
      have hsf : sfOk (fun k => skew_sorted.f k) s.length := fun b m hb hbl => ih b m (by omega) hb
      obtain ⟨r, hr, hre⟩ := skew_ranked_ev hok hk hsf
      obtain ⟨a, ha, hev⟩ := sorted_l0 hok hk hr s.length 0 (List.replicate s.length 0) (by omega) (by simp) (fun j hj => by omega)
      refine ⟨a, ha, ?_⟩
      refine Ev.step (fun k => by rw [skew_sorted.f]) ?_
      simp only [if_neg (show ¬ (s.length : Int) < 2 by omega)]
      refine Ev.bind hre ?_
      refine Ev.bind hpl ?_
      simp only [Int.toNat_natCast, if_pos (show 0 ≤ (s.length : Int) by omega), if_pos (show s.length ≤ 35184372088832 by omega), Option.bind_some, List.length_replicate]
      exact hev
theorem sum_set : ∀ {l : List Int} {i : Nat} {v : Int}, i < l.length → (l.set i v).sum = l.sum - l.getD i 0 + v
  | [], i, v, h => by simp at h
  | x :: l, 0, v, _ => by simp only [List.set_cons_zero, List.sum_cons, List.getD_cons_zero]; omega
  | x :: l, i + 1, v, h => by
    have := sum_set (l := l) (i := i) (v := v) (by simpa using h)
    simp only [List.set_cons_succ, List.sum_cons, List.getD_cons_succ]; omega
theorem sum_rep (n : Nat) : (List.replicate n (0 : Int)).sum = 0 := by
  induction n with
  | zero => rfl
  | succ n ih => rw [List.replicate_succ, List.sum_cons, ih]; rfl
def bits (l : List Int) : Prop := ∀ i, l.getD i 0 = 0 ∨ l.getD i 0 = 1
theorem bits_sum {l : List Int} (h : bits l) : ∀ {j : Nat}, j ≤ l.length → 0 ≤ (l.take j).sum ∧ (l.take j).sum ≤ (j : Int)
  | 0, _ => by simp
  | j + 1, hj => by
    have := bits_sum h (j := j) (by omega)
    rw [sum_next (by omega)]
    have := h j
    omega
theorem bits_mono {l : List Int} (h : bits l) {i : Nat} : ∀ {j : Nat}, i ≤ j → j ≤ l.length → (l.take i).sum ≤ (l.take j).sum
  | 0, hi, _ => by rw [show i = 0 by omega]; omega
  | j + 1, hi, hj => by
    by_cases e : i = j + 1
    · rw [e]; omega
    · have := bits_mono h (i := i) (j := j) (by omega) (by omega)
      rw [sum_next (by omega)]
      have := h j
      omega
def sqz (th : List Int) (x : Int) : Int := (th.take x.toNat).sum
theorem sqz_lt {th : List Int} (h : bits th) {x y : Int} (hx : 0 ≤ x) (hxl : x < (th.length : Int)) (hy : y < (th.length : Int)) (hx1 : th.getD x.toNat 0 = 1) (hxy : x < y) : sqz th x < sqz th y := by
  unfold sqz
  have h1 := bits_mono h (i := x.toNat + 1) (j := y.toNat) (by omega) (by omega)
  rw [sum_next (by omega), hx1] at h1
  omega
theorem squeezed_l2 {s th : List Int} (hn : s.length ≤ 100000) (hr : ∀ x ∈ s, 0 ≤ x ∧ x < (th.length : Int)) : ∀ (d i : Nat) (l : List Int), i + d = s.length → l.length = s.length → (∀ j, j < i → l.getD j 0 = sqz th (s.getD j 0)) →
    Ev (fun k => skew_squeezed.l2 k (startsOf th) l s (s.length : Int) (i : Int)) (s.map (sqz th)) := by
  intro d
  induction d with
  | zero =>
    intro i l hd hl hp
    refine Ev.step (fun k => by rw [skew_squeezed.l2]) ?_
    simp only [if_neg (show ¬ (i : Int) < s.length by omega)]
    rw [ext_getD (a := l) (b := s.map (sqz th)) (by rw [hl, List.length_map]) (fun j hj => by
      rw [hp j (by omega), List.getD_eq_getElem?_getD (l := s.map _), List.getElem?_map, List.getElem?_eq_getElem (by omega), List.getD_eq_getElem?_getD, List.getElem?_eq_getElem (by omega)]; rfl)]
    exact Ev.now _
  | succ d ih =>
    intro i l hd hl hp
    have hi : i < s.length := by omega
    have hx := hr _ (getD_mem hi)
    refine Ev.step (fun k => by rw [skew_squeezed.l2]) ?_
    have e : rd (startsOf th) (s.getD i 0) = sqz th (s.getD i 0) := by rw [rd, startsOf_get (by omega)]; rfl
    simp only [if_pos (show (i : Int) < s.length by omega), if_pos (show 0 ≤ (i : Int) by omega), rd_nat, if_pos hx.1, startsOf_length, if_pos hx.2, if_pos (show (i : Int) < (l.length : Int) by omega), e, Int.toNat_natCast, wrap_nat hi (show s.length ≤ 140737488355328 by omega)]
    refine ih (i + 1) _ (by omega) (by rw [List.length_set, hl]) (fun j hj => ?_)
    rw [lset (by omega)]
    by_cases e2 : i = j
    · rw [if_pos e2, e2]
    · rw [if_neg e2]; exact hp j (by omega)
def sqOk (s t : List Int) : Prop := t.length = s.length ∧ (∀ x ∈ t, 0 ≤ x ∧ x ≤ (s.length : Int)) ∧ ∀ i j, i < s.length → j < s.length → (t.getD i 0 < t.getD j 0 ↔ s.getD i 0 < s.getD j 0)
theorem map_getD {f : Int → Int} {s : List Int} {i : Nat} (h : i < s.length) : (s.map f).getD i 0 = f (s.getD i 0) := by
  simp [List.getD_eq_getElem?_getD, List.getElem?_map, List.getElem?_eq_getElem h]
theorem squeezed_l1 {s : List Int} (hn : s.length ≤ 100000) {m : Nat} (hm : m ≤ 2000000) (hr : ∀ x ∈ s, 0 ≤ x ∧ x < (m : Int)) : ∀ (d i : Nat) (th : List Int), i + d = s.length → th.length = m → bits th → th.sum ≤ (i : Int) → (∀ x ∈ s.take i, th.getD x.toNat 0 = 1) →
    ∃ t, sqOk s t ∧ Ev (fun k => skew_squeezed.l1 k s th s (s.length : Int) (i : Int)) t := by
  intro d
  induction d with
  | zero =>
    intro i th hd hl hb hs h1
    rw [List.take_of_length_le (by omega)] at h1
    refine ⟨s.map (sqz th), ⟨by rw [List.length_map], fun x hx => ?_, fun i' j hi hj => ?_⟩, ?_⟩
    · obtain ⟨y, hy, rfl⟩ := List.mem_map.1 hx
      have hy1 := hr y hy
      have h2 := bits_sum hb (j := y.toNat) (by omega)
      have h3 := bits_mono hb (i := y.toNat) (j := th.length) (by omega) (by omega)
      rw [List.take_length] at h3
      unfold sqz
      omega
    · rw [map_getD hi, map_getD hj]
      have hi1 := hr _ (getD_mem hi)
      have hj1 := hr _ (getD_mem hj)
      constructor
      · intro hlt
        rcases Int.lt_trichotomy (s.getD i' 0) (s.getD j 0) with k | k | k
        · exact k
        · rw [k] at hlt; omega
        · have := sqz_lt hb hj1.1 (by omega) (by omega) (h1 _ (getD_mem hj)) k
          omega
      · intro hlt
        exact sqz_lt hb hi1.1 (by omega) (by omega) (h1 _ (getD_mem hi)) hlt
    · refine Ev.step (fun k => by rw [skew_squeezed.l1]) ?_
      simp only [if_neg (show ¬ (i : Int) < s.length by omega)]
      refine Ev.bind (bucket_Starts_ev th (by omega) (fun j hj => ?_)) ?_
      · have := bits_sum hb hj
        omega
      · simp only [if_pos (show 0 ≤ (s.length : Int) by omega), Int.toNat_natCast, if_pos (show s.length ≤ 35184372088832 by omega)]
        exact squeezed_l2 hn (fun x hx => by rw [hl]; exact hr x hx) s.length 0 _ (by omega) (by simp) (fun j hj => by omega)
  | succ d ih =>
    intro i th hd hl hb hs h1
    have hi : i < s.length := by omega
    have hx := hr _ (getD_mem hi)
    have hbi := hb (s.getD i 0).toNat
    obtain ⟨t, ht, hev⟩ := ih (i + 1) (th.set (s.getD i 0).toNat 1) (by omega) (by rw [List.length_set, hl]) (fun j => by
      rw [lset (by omega)]
      by_cases e : (s.getD i 0).toNat = j
      · rw [if_pos e]; exact .inr rfl
      · rw [if_neg e]; exact hb j) (by rw [sum_set (by omega)]; omega) (fun x hx2 => by
      rw [lset (by omega)]
      by_cases e : (s.getD i 0).toNat = x.toNat
      · rw [if_pos e]
      · rw [if_neg e]
        rw [take_next hi, List.mem_append, List.mem_singleton] at hx2
        rcases hx2 with hx2 | hx2
        · exact h1 x hx2
        · exact absurd (by rw [hx2]) e)
    refine ⟨t, ht, ?_⟩
    refine Ev.step (fun k => by rw [skew_squeezed.l1]) ?_
    simp only [if_pos (show (i : Int) < s.length by omega), if_pos (show 0 ≤ (i : Int) by omega), rd_nat, if_pos hx.1, if_pos (show s.getD i 0 < (th.length : Int) by omega), wrap_nat hi (show s.length ≤ 140737488355328 by omega)]
    exact hev
theorem squeezed_l0 {s : List Int} (hn : s.length ≤ 100000) (hr : ∀ x ∈ s, 0 ≤ x ∧ x < 1048576) : ∀ (d i : Nat) (m : Int), i + d = s.length → 0 ≤ m → m < 1048576 → (∀ x ∈ s.take i, x ≤ m) →
    ∃ t, sqOk s t ∧ Ev (fun k => skew_squeezed.l0 k s m s (s.length : Int) (i : Int)) t := by
  intro d
  induction d with
  | zero =>
    intro i m hd h0 h1 hm
    rw [List.take_of_length_le (by omega)] at hm
    obtain ⟨t, ht, hev⟩ := squeezed_l1 hn (m := (m + 1).toNat) (by omega) (fun x hx => by have := hr x hx; have := hm x hx; omega) s.length 0 (List.replicate (m + 1).toNat 0) (by omega) (by simp) (fun j => .inl getD_replicate) (by rw [sum_rep]; omega) (by simp)
    refine ⟨t, ht, ?_⟩
    refine Ev.step (fun k => by rw [skew_squeezed.l0]) ?_
    rw [wrap64_id (x := m + 1) (by omega) (by omega)]
    simp only [if_neg (show ¬ (i : Int) < s.length by omega), if_pos (show 0 ≤ m + 1 by omega), if_pos (show (m + 1).toNat ≤ 35184372088832 by omega)]
    exact hev
  | succ d ih =>
    intro i m hd h0 h1 hm
    have hi : i < s.length := by omega
    have hx := hr _ (getD_mem hi)
    have hmx : mx m (s.getD i 0) = m ∨ mx m (s.getD i 0) = s.getD i 0 := by unfold mx; split <;> simp
    have hmx2 : m ≤ mx m (s.getD i 0) ∧ s.getD i 0 ≤ mx m (s.getD i 0) := by unfold mx; split <;> omega
    obtain ⟨t, ht, hev⟩ := ih (i + 1) (mx m (s.getD i 0)) (by omega) (by omega) (by omega) (fun x hx2 => by
      rw [take_next hi, List.mem_append, List.mem_singleton] at hx2
      rcases hx2 with hx2 | hx2
      · have := hm x hx2; omega
      · omega)
    refine ⟨t, ht, ?_⟩
    refine Ev.step (fun k => by rw [skew_squeezed.l0]) ?_
    simp only [if_pos (show (i : Int) < s.length by omega), if_pos (show 0 ≤ (i : Int) by omega), rd_nat, wrap_nat hi (show s.length ≤ 140737488355328 by omega)]
    exact hev
theorem skew_squeezed_ev {s : List Int} (hn : s.length ≤ 100000) (hr : ∀ x ∈ s, 0 ≤ x ∧ x < 1048576) : ∃ t, sqOk s t ∧ Ev (fun k => skew_squeezed.f k s) t := by
  obtain ⟨t, ht, hev⟩ := squeezed_l0 hn hr s.length 0 0 (by omega) (by omega) (by omega) (by simp)
  exact ⟨t, ht, Ev.congr (fun k => by rw [skew_squeezed.f]; rfl) hev⟩
theorem skew_Ints_yes {s : List Int} {k : Int} (h : s.length ≤ 100000) (hk : okKeys s k) : ∃ a, IsSA s a ∧ Ev (fun j => skew_Ints.f j s k) (a, 0) := by
  obtain ⟨t, ht, hte⟩ := skew_squeezed_ev h (fun x hx => by have := hk.2.2 x hx; have := hk.2.1; omega)
  obtain ⟨a, ha, hae⟩ := skew_sorted_ev (t.length + 1) t ((s.length : Int) + 1) (by omega) ⟨by rw [ht.1]; omega, by omega, fun x hx => by have := ht.2.1 x hx; omega⟩
  refine ⟨a, isSA_mono ht.1 (fun i j hi hj => ht.2.2 i j (by rw [← ht.1]; exact hi) (by rw [← ht.1]; exact hj)) ha, ?_⟩
  refine Ev.congr (fun k => by rw [skew_Ints.f]) ?_
  simp only [if_neg (show ¬ (s.length : Int) > 100000 by omega)]
  refine Ev.bind (bucket_Counts_ev s k (by omega)) ?_
  simp only [countsR, if_pos hk, if_true]
  refine Ev.bind hte ?_
  rw [wrap64_id (x := (s.length : Int) + 1) (by omega) (by omega)]
  refine Ev.bind hae ?_
  exact Ev.now _
theorem skew_Bytes_l0 {s : List Int} (hn : s.length ≤ 100000) (hb : ∀ x ∈ s, 0 ≤ x ∧ x ≤ 255) {r : List Int × Int} (hr : Ev (fun k => skew_Ints.f k s 256) r) : ∀ (d i : Nat) (l : List Int), i + d = s.length → l.length = s.length → (∀ j, j < i → l.getD j 0 = s.getD j 0) →
    Ev (fun k => skew_Bytes.l0 k l s (s.length : Int) (i : Int)) r := by
  intro d
  induction d with
  | zero =>
    intro i l hd hl hp
    obtain rfl : l = s := ext_getD hl (fun j hj => hp j (by omega))
    refine Ev.step (fun k => by rw [skew_Bytes.l0]) ?_
    simp only [if_neg (show ¬ (i : Int) < l.length by omega)]
    exact Ev.bind hr (Ev.now _)
  | succ d ih =>
    intro i l hd hl hp
    have hi : i < s.length := by omega
    have hx := hb _ (getD_mem hi)
    refine Ev.step (fun k => by rw [skew_Bytes.l0]) ?_
    rw [rd_nat, wrap64_id (x := s.getD i 0) (by omega) (by omega)]
    simp only [if_pos (show (i : Int) < s.length by omega), if_pos (show 0 ≤ (i : Int) by omega), if_pos (show (i : Int) < (l.length : Int) by omega), Int.toNat_natCast, wrap_nat hi (show s.length ≤ 140737488355328 by omega)]
    refine ih (i + 1) _ (by omega) (by rw [List.length_set, hl]) (fun j hj => ?_)
    rw [lset (by omega)]
    by_cases e : i = j
    · rw [if_pos e, e]
    · rw [if_neg e]; exact hp j (by omega)
theorem skew_Bytes_ev {s : List Int} (hn : s.length ≤ 100000) (hb : ∀ x ∈ s, 0 ≤ x ∧ x ≤ 255) : ∃ a, IsSA s a ∧ Ev (fun j => skew_Bytes.f j s) (a, 0) := by
  obtain ⟨a, ha, hev⟩ := skew_Ints_yes (s := s) (k := 256) hn ⟨by omega, by omega, fun x hx => by have := hb x hx; omega⟩
  refine ⟨a, ha, ?_⟩
  refine Ev.congr (fun k => by rw [skew_Bytes.f]) ?_
  simp only [if_neg (show ¬ (s.length : Int) > 100000 by omega), if_pos (show 0 ≤ (s.length : Int) by omega), Int.toNat_natCast, if_pos (show s.length ≤ 35184372088832 by omega)]
  exact skew_Bytes_l0 hn hb hev s.length 0 _ (by omega) (by simp) (fun j hj => by omega)
open Go.Proofs.Ytbbpplnnegdenaa.Rk Go.Proofs.Ytbbpplnnegdenaa.Srt
theorem cmp_Less_eq (a b : Int) : cmp_Less_int.f a b = some (decide (a < b)) := by
  simp [cmp_Less_int.f, cmp_isNaN_int.f]
theorem bs_l0 {l : List Int} (hs : l.Pairwise (· ≤ ·)) (hn : l.length ≤ 100000) (x : Int) : ∀ (d i j : Nat), j - i ≤ d → i ≤ j → j ≤ l.length → (∀ q, q < i → l.getD q 0 < x) → (∀ q, j ≤ q → q < l.length → x ≤ l.getD q 0) →
    ∃ (p : Nat) (b : Bool), Ev (fun k => slices_BinarySearch_int_int.l0 k l x (l.length : Int) (i : Int) (j : Int)) ((p : Int), b) ∧ p ≤ l.length ∧ (∀ q, q < p → l.getD q 0 < x) ∧ (∀ q, p ≤ q → q < l.length → x ≤ l.getD q 0) := by
  have fin : ∀ i, i ≤ l.length → (∀ q, q < i → l.getD q 0 < x) → (∀ q, i ≤ q → q < l.length → x ≤ l.getD q 0) → ∃ (p : Nat) (b : Bool), Ev (fun k => slices_BinarySearch_int_int.l0 k l x (l.length : Int) (i : Int) (i : Int)) ((p : Int), b) ∧ p ≤ l.length ∧ (∀ q, q < p → l.getD q 0 < x) ∧ (∀ q, p ≤ q → q < l.length → x ≤ l.getD q 0) := fun i hi h1 h2 => by
    by_cases hl : i < l.length
    · by_cases e : l.getD i 0 = x
      · refine ⟨i, true, ?_, hi, h1, h2⟩
        refine Ev.step (fun k => by rw [slices_BinarySearch_int_int.l0]) ?_
        simp only [if_neg (show ¬ (i : Int) < (i : Int) by omega), if_pos (show (i : Int) < (l.length : Int) by omega), if_pos (show 0 ≤ (i : Int) by omega), rd_nat, if_pos e]
        exact Ev.now _
      · refine ⟨i, false, ?_, hi, h1, h2⟩
        refine Ev.step (fun k => by rw [slices_BinarySearch_int_int.l0]) ?_
        simp only [if_neg (show ¬ (i : Int) < (i : Int) by omega), if_pos (show (i : Int) < (l.length : Int) by omega), if_pos (show 0 ≤ (i : Int) by omega), rd_nat, if_neg e, slices_isNaN_int.f, bne_self_eq_false, Option.bind_some, if_neg (show ¬ false = true by decide)]
        exact Ev.now _
    · refine ⟨i, false, ?_, hi, h1, h2⟩
      refine Ev.step (fun k => by rw [slices_BinarySearch_int_int.l0]) ?_
      simp only [if_neg (show ¬ (i : Int) < (i : Int) by omega), if_neg (show ¬ (i : Int) < (l.length : Int) by omega)]
      exact Ev.now _
  intro d
  induction d with
  | zero =>
    intro i j hd hij hj h1 h2
    obtain rfl : i = j := by omega
    exact fin i hj h1 h2
  | succ d ih =>
    intro i j hd hij hj h1 h2
    by_cases he : i = j
    · subst he; exact fin i hj h1 h2
    · have hm : wrap64 (IntKind.u64.wrap (wrap64 ((i : Int) + (j : Int))) / 2) = (((i + j) / 2 : Nat) : Int) := by
        rw [wrap64_id (x := (i : Int) + (j : Int)) (by omega) (by omega), IntWalk.u64_in _ ⟨by omega, by omega⟩, wrap64_id (by omega) (by omega)]; omega
      have hlt : (i + j) / 2 < l.length := by omega
      by_cases hc : l.getD ((i + j) / 2) 0 < x
      · obtain ⟨p, b, e1, e2⟩ := ih ((i + j) / 2 + 1) j (by omega) (by omega) hj (fun q hq => by
          rcases Nat.lt_or_ge q ((i + j) / 2) with k | k
          · have := pair_getD hs k hlt; omega
          · obtain rfl : q = (i + j) / 2 := by omega
            exact hc) h2
        refine ⟨p, b, ?_, e2⟩
        refine Ev.step (fun k => by rw [slices_BinarySearch_int_int.l0]) ?_
        simp only [if_pos (show (i : Int) < (j : Int) by omega), hm, if_pos (show (0 : Int) ≤ (((i + j) / 2 : Nat) : Int) by omega), if_pos (show (((i + j) / 2 : Nat) : Int) < (l.length : Int) by omega), rd_nat, cmp_Less_eq, Option.bind_some, decide_eq_true hc, if_true, wrap_nat hlt (show l.length ≤ 140737488355328 by omega)]
        exact e1
      · obtain ⟨p, b, e1, e2⟩ := ih i ((i + j) / 2) (by omega) (by omega) (by omega) h1 (fun q hq hq2 => by
          rcases Nat.lt_or_ge ((i + j) / 2) q with k | k
          · have := pair_getD hs k hq2; omega
          · obtain rfl : q = (i + j) / 2 := by omega
            omega)
        refine ⟨p, b, ?_, e2⟩
        refine Ev.step (fun k => by rw [slices_BinarySearch_int_int.l0]) ?_
        simp only [if_pos (show (i : Int) < (j : Int) by omega), hm, if_pos (show (0 : Int) ≤ (((i + j) / 2 : Nat) : Int) by omega), if_pos (show (((i + j) / 2 : Nat) : Int) < (l.length : Int) by omega), rd_nat, cmp_Less_eq, Option.bind_some, decide_eq_false hc, if_neg (show ¬ false = true by decide)]
        exact e1
theorem countP_split {l : List Int} {f : Int → Bool} {p : Nat} (hp : p ≤ l.length) (h1 : ∀ q, q < p → f (l.getD q 0) = true) (h2 : ∀ q, p ≤ q → q < l.length → f (l.getD q 0) = false) : l.countP f = p := by
  rw [← List.take_append_drop p l, List.countP_append]
  have e1 : (l.take p).countP f = p := by
    have : (l.take p).countP f = (l.take p).length := by
      rw [List.countP_eq_length]
      intro x hx
      obtain ⟨q, hq, rfl⟩ := List.getElem_of_mem hx
      rw [List.length_take] at hq
      rw [List.getElem_take]
      have := h1 q (by omega)
      rwa [List.getD_eq_getElem?_getD, List.getElem?_eq_getElem (by omega), Option.getD_some] at this
    rw [this, List.length_take]; omega
  have e2 : (l.drop p).countP f = 0 := by
    rw [List.countP_eq_zero]
    intro x hx
    obtain ⟨q, hq, rfl⟩ := List.getElem_of_mem hx
    rw [List.length_drop] at hq
    rw [List.getElem_drop]
    have := h2 (p + q) (by omega) (by omega)
    rw [List.getD_eq_getElem?_getD, List.getElem?_eq_getElem (by omega), Option.getD_some] at this
    rw [this]; simp
  omega
theorem countP_cN {s : List Int} {f : Int → Bool} : ∀ {m : Nat}, m ≤ s.length → (s.take m).countP f = cN m (fun x => f (s.getD x 0))
  | 0, _ => by simp [cN]
  | m + 1, h => by
    rw [take_next (by omega), List.countP_append, List.countP_singleton, countP_cN (by omega), cN_succ]
theorem rkh_one {s : List Int} {i : Nat} (hi : i < s.length) : rkh s 1 i = cN s.length (fun x => decide (s.getD x 0 < s.getD i 0)) := by
  unfold rkh
  refine cN_congr (fun x hx => ?_)
  rw [decide_eq_decide, drop_cons_get hx, drop_cons_get hi, List.take_succ_cons, List.take_succ_cons, List.take_zero, List.take_zero, ltL_cons]
  constructor
  · rintro (h | h)
    · exact h
    · exact absurd h.2 (ltL_irrefl _)
  · exact .inl
theorem ranksL_go {s : List Int} (hn : s.length ≤ 100000) : ∀ (d i : Nat) (l : List Int), i + d = s.length → l.length = s.length → (∀ j, j < i → l.getD j 0 = (rkh s 1 j : Int)) →
    ∃ r, Ev (fun k => ranksL (slices_BinarySearch_int_int.f k (srt s)) s d i l) r ∧ r.length = s.length ∧ ∀ j, j < s.length → r.getD j 0 = (rkh s 1 j : Int) := by
  intro d
  induction d with
  | zero => intro i l hd hl h; exact ⟨l, Ev.now _, hl, fun j hj => h j (by omega)⟩
  | succ d ih =>
    intro i l hd hl h
    have hi : i < s.length := by omega
    obtain ⟨p, b, e1, e2, e3, e4⟩ := bs_l0 (srt_sorted s) (by rw [srt_length]; exact hn) (s.getD i 0) (srt s).length 0 (srt s).length (by omega) (by omega) (Nat.le_refl _) (fun q hq => by omega) (fun q hq hq2 => by omega)
    have hc : p = rkh s 1 i := by
      rw [rkh_one hi]
      have h1 := countP_split (l := srt s) (f := fun y => decide (y < s.getD i 0)) e2 (fun q hq => decide_eq_true (e3 q hq)) (fun q hq hq2 => decide_eq_false (by have := e4 q hq hq2; omega))
      have h2 := countP_cN (s := s) (f := fun y => decide (y < s.getD i 0)) (Nat.le_refl s.length)
      rw [List.take_length] at h2
      rw [← h1, (srt_perm s).countP_eq, h2]
    obtain ⟨r, f1, f2⟩ := ih (i + 1) (l.set i (p : Int)) (by omega) (by rw [List.length_set, hl]) (fun j hj => by
      rw [lset (by omega)]
      by_cases e : i = j
      · rw [if_pos e, ← e, hc]
      · rw [if_neg e]; exact h j (by omega))
    refine ⟨r, ?_, f2⟩
    refine Ev.congr (fun k => by rw [ranksL]) ?_
    refine Ev.bind (Ev.congr (fun k => by rw [slices_BinarySearch_int_int.f]; rfl) e1) ?_
    exact f1
theorem double_ranks_ev {s : List Int} (hn : s.length ≤ 100000) : ∃ r, Ev (fun k => double_ranks.f k s) r ∧ r.length = s.length ∧ ∀ j, j < s.length → r.getD j 0 = (rkh s 1 j : Int) := by
  obtain ⟨r, e1, e2⟩ := ranksL_go hn s.length 0 (List.replicate s.length 0) (by omega) (by simp) (fun j hj => by omega)
  refine ⟨r, ?_, e2⟩
  refine Ev.congr (fun k => by rw [double_ranks.f]) ?_
  simp only [if_pos (show s.length ≤ 1000000 by omega)]
  exact e1
def isRk (s : List Int) (h : Nat) (L : List Int) : Prop := L.length = s.length ∧ ∀ j, j < s.length → L.getD j 0 = (rkh s h j : Int)
theorem double_on_eq {s L : List Int} {h m i : Nat} (hn : s.length ≤ 100000) (hm : m ≤ 100000) (hL : isRk s h L) (hi : i < s.length) : double_on.f L (i : Int) (m : Int) = some (onh s h m i : Int) := by
  have hl := hL.1
  rw [double_on.f, onh]
  rw [wrap64_id (x := (i : Int) + (m : Int)) (by omega) (by omega), show (i : Int) + (m : Int) = ((i + m : Nat) : Int) by omega]
  by_cases h1 : s.length ≤ i + m
  · rw [if_pos (by omega), if_pos h1]; rfl
  · have := rkh_bound (s := s) (h := h) (x := i + m) (by omega)
    rw [if_neg (by omega), if_neg h1, if_pos (by omega), if_pos (by omega), rd_nat, hL.2 _ (by omega), wrap64_id (by omega) (by omega)]
    congr 1
theorem joined_l1 {s L x7 o : List Int} {h m : Nat} (hn : s.length ≤ 100000) (h0 : 0 < h) (hm : m ≤ h) (hL : isRk s h L) (h7l : x7.length = s.length) (h7 : ∀ j, j < s.length → x7.getD j 0 = (onh s h m j : Int)) (ho : isPerm o) (hol : o.length = s.length)
    (hop : o.Pairwise (fun x y => rkh s (h + m) x.toNat ≤ rkh s (h + m) y.toNat)) :
    ∀ (d i : Nat) (out : List Int), i + d = o.length → out.length = s.length → (∀ q, q < i → out.getD (o.getD q 0).toNat 0 = (rkh s (h + m) (o.getD q 0).toNat : Int)) →
    ∃ r, Ev (fun k => double_joined.l1 k L o x7 out o (o.length : Int) (i : Int)) (r, o) ∧ isRk s (h + m) r := by
  intro d
  induction d with
  | zero =>
    intro i out hd hl hI
    refine ⟨out, ?_, hl, fun j hj => ?_⟩
    · refine Ev.step (fun k => by rw [double_joined.l1]) ?_
      simp only [if_neg (show ¬ (i : Int) < o.length by omega)]
      exact Ev.now _
    · have hmem := ho.mem (v := (j : Int)) (by omega) (by omega)
      have := hI (o.idxOf (j : Int)) (by have := List.idxOf_lt_length_of_mem hmem; omega)
      rwa [idxOf_getD hmem, Int.toNat_natCast] at this
  | succ d ih =>
    intro i out hd hl hI
    have hi : i < o.length := by omega
    have hr := ho.1 _ (getD_mem hi)
    obtain ⟨j, hj⟩ : ∃ j : Nat, o.getD i 0 = (j : Int) := ⟨(o.getD i 0).toNat, by omega⟩
    have hjn : j < s.length := by omega
    have hLl := hL.1
    have next : ∀ v : Int, v = (rkh s (h + m) j : Int) → ∃ r, Ev (fun k => double_joined.l1 k L o x7 (out.set j v) o (o.length : Int) ((i + 1 : Nat) : Int)) (r, o) ∧ isRk s (h + m) r := fun v hv => by
      refine ih (i + 1) _ (by omega) (by rw [List.length_set, hl]) (fun q hq => ?_)
      rw [lset (by omega)]
      by_cases e : q = i
      · subst e
        rw [hj, Int.toNat_natCast, if_pos rfl, hv]
      · have hq2 := ho.1 _ (getD_mem (show q < o.length by omega))
        have hne : ¬ j = (o.getD q 0).toNat := fun k => e (getD_inj ho.2 (by omega) hi (by rw [hj]; omega))
        rw [if_neg hne]
        exact hI q (by omega)
    have hrd : rd o (i : Int) = (j : Int) := by rw [rd_nat]; exact hj
    have first : (∀ q, q < i → rkh s (h + m) (o.getD q 0).toNat < rkh s (h + m) j) → (i : Int) = (rkh s (h + m) j : Int) := fun hlt => by
      have hq1 : ∀ q, q < o.length → (o.getD q 0).toNat < s.length := fun q hq => by have := ho.1 _ (getD_mem hq); omega
      have := cN_split ho (i := i) (by omega) (p := fun x => decide (ltL ((s.drop x).take (h + m)) ((s.drop j).take (h + m)))) (fun q hq => decide_eq_true ((rkh_lt (hq1 q (by omega)) hjn).1 (hlt q hq))) (fun q hq hq2 => decide_eq_false (fun k => by
        have k2 := (rkh_lt (hq1 q hq2) hjn).2 k
        rcases Nat.lt_or_ge i q with k3 | k3
        · have := pair_getD hop k3 hq2
          rw [hj, Int.toNat_natCast] at this
          omega
        · obtain rfl : q = i := by omega
          rw [hj, Int.toNat_natCast] at k2
          omega))
      rw [hol] at this
      unfold rkh
      omega
    by_cases hi0 : i = 0
    · subst hi0
      obtain ⟨r, e1, e2⟩ := next ((0 : Nat) : Int) (first (fun q hq => by omega))
      refine ⟨r, ?_, e2⟩
      refine Ev.step (fun k => by rw [double_joined.l1]) ?_
      simp only [if_pos (show ((0 : Nat) : Int) < o.length by omega), if_pos (show 0 ≤ ((0 : Nat) : Int) by omega), hrd, if_pos (show (0 : Int) ≤ (j : Int) by omega), if_pos (show (j : Int) < out.length by omega), Option.bind_some, Int.toNat_natCast, wrap_nat hi (show o.length ≤ 140737488355328 by omega), if_neg (show ¬ ((0 : Nat) : Int) > 0 by omega)]
      exact e1
    · have hp := ho.1 _ (getD_mem (show i - 1 < o.length by omega))
      obtain ⟨p, hpp⟩ : ∃ p : Nat, o.getD (i - 1) 0 = (p : Int) := ⟨(o.getD (i - 1) 0).toNat, by omega⟩
      have hpn : p < s.length := by omega
      have hw : wrap64 ((i : Int) - 1) = ((i - 1 : Nat) : Int) := by rw [wrap64_id (by omega) (by omega)]; omega
      have hrp : rd o ((i - 1 : Nat) : Int) = (p : Int) := by rw [rd_nat]; exact hpp
      have hle := pair_getD hop (show i - 1 < i by omega) hi
      rw [hpp, hj, Int.toNat_natCast, Int.toNat_natCast] at hle
      have hne : p ≠ j := fun e => by
        have := getD_inj ho.2 (show i - 1 < o.length by omega) hi (by rw [hpp, hj, e])
        omega
      have heq := pair_eq (s := s) (h := h) (m := m) hm h0 hpn hjn
      have other : ¬ (rkh s h p = rkh s h j ∧ onh s h m p = onh s h m j) → ∃ r, Ev (fun k => double_joined.l1 k L o x7 (out.set j (i : Int)) o (o.length : Int) ((i + 1 : Nat) : Int)) (r, o) ∧ isRk s (h + m) r := fun hno => by
        refine next _ (first (fun q hq => ?_))
        have hlt : rkh s (h + m) p < rkh s (h + m) j := by
          have : rkh s (h + m) p ≠ rkh s (h + m) j := fun e => hno (heq.1 e)
          omega
        rcases Nat.lt_or_ge q (i - 1) with k | k
        · have := pair_getD hop k (show i - 1 < o.length by omega)
          rw [hpp, Int.toNat_natCast] at this
          omega
        · obtain rfl : q = i - 1 := by omega
          rw [hpp, Int.toNat_natCast]; exact hlt
      by_cases hk1 : rkh s h p = rkh s h j
      · by_cases hk2 : onh s h m p = onh s h m j
        · have hv : (out.set j (i : Int)).getD p 0 = (rkh s (h + m) j : Int) := by
            rw [lset_ne (fun e => hne e.symm)]
            have := hI (i - 1) (by omega)
            rw [hpp, Int.toNat_natCast] at this
            rw [this, heq.2 ⟨hk1, hk2⟩]
          obtain ⟨r, e1, e2⟩ := next _ hv
          refine ⟨r, ?_, e2⟩
          refine Ev.step (fun k => by rw [double_joined.l1]) ?_
          have hss : (out.set j (i : Int)).set j ((out.set j (i : Int)).getD p 0) = out.set j ((out.set j (i : Int)).getD p 0) := by rw [List.set_set]
          simp only [if_pos (show (i : Int) < o.length by omega), if_pos (show 0 ≤ (i : Int) by omega), hrd, if_pos (show (0 : Int) ≤ (j : Int) by omega), if_pos (show (j : Int) < out.length by omega), Option.bind_some, Int.toNat_natCast, wrap_nat hi (show o.length ≤ 140737488355328 by omega), if_pos (show (i : Int) > 0 by omega), hw, if_pos (show (0 : Int) ≤ ((i - 1 : Nat) : Int) by omega), if_pos (show ((i - 1 : Nat) : Int) < o.length by omega), hrp, if_pos (show (0 : Int) ≤ (p : Int) by omega), if_pos (show (p : Int) < L.length by omega), if_pos (show (j : Int) < L.length by omega), rd_nat, hL.2 p hpn, hL.2 j hjn, if_pos (show (rkh s h p : Int) = (rkh s h j : Int) by omega),
            if_pos (show (p : Int) < x7.length by omega), if_pos (show (j : Int) < x7.length by omega), h7 p hpn, h7 j hjn, if_pos (show (onh s h m p : Int) = (onh s h m j : Int) by omega), if_pos (show (p : Int) < out.length by omega), hss]
          exact e1
        · obtain ⟨r, e1, e2⟩ := other (fun k => hk2 k.2)
          refine ⟨r, ?_, e2⟩
          refine Ev.step (fun k => by rw [double_joined.l1]) ?_
          simp only [if_pos (show (i : Int) < o.length by omega), if_pos (show 0 ≤ (i : Int) by omega), hrd, if_pos (show (0 : Int) ≤ (j : Int) by omega), if_pos (show (j : Int) < out.length by omega), Option.bind_some, Int.toNat_natCast, wrap_nat hi (show o.length ≤ 140737488355328 by omega), if_pos (show (i : Int) > 0 by omega), hw, if_pos (show (0 : Int) ≤ ((i - 1 : Nat) : Int) by omega), if_pos (show ((i - 1 : Nat) : Int) < o.length by omega), hrp, if_pos (show (0 : Int) ≤ (p : Int) by omega), if_pos (show (p : Int) < L.length by omega), if_pos (show (j : Int) < L.length by omega), rd_nat, hL.2 p hpn, hL.2 j hjn, if_pos (show (rkh s h p : Int) = (rkh s h j : Int) by omega),
            if_pos (show (p : Int) < x7.length by omega), if_pos (show (j : Int) < x7.length by omega), h7 p hpn, h7 j hjn, if_neg (show ¬ (onh s h m p : Int) = (onh s h m j : Int) by omega)]
          exact e1
      · obtain ⟨r, e1, e2⟩ := other (fun k => hk1 k.1)
        refine ⟨r, ?_, e2⟩
        refine Ev.step (fun k => by rw [double_joined.l1]) ?_
        simp only [if_pos (show (i : Int) < o.length by omega), if_pos (show 0 ≤ (i : Int) by omega), hrd, if_pos (show (0 : Int) ≤ (j : Int) by omega), if_pos (show (j : Int) < out.length by omega), Option.bind_some, Int.toNat_natCast, wrap_nat hi (show o.length ≤ 140737488355328 by omega), if_pos (show (i : Int) > 0 by omega), hw, if_pos (show (0 : Int) ≤ ((i - 1 : Nat) : Int) by omega), if_pos (show ((i - 1 : Nat) : Int) < o.length by omega), hrp, if_pos (show (0 : Int) ≤ (p : Int) by omega), if_pos (show (p : Int) < L.length by omega), if_pos (show (j : Int) < L.length by omega), rd_nat, hL.2 p hpn, hL.2 j hjn, if_neg (show ¬ (rkh s h p : Int) = (rkh s h j : Int) by omega)]
        exact e1
theorem joined_l0 {s L : List Int} {h m : Nat} (hn : s.length ≤ 100000) (h0 : 0 < h) (hm : m ≤ h) (hmn : m ≤ 100000) (hL : isRk s h L) :
    ∀ (d i : Nat) (x6 x7 : List Int), i + d = L.length → x6.length = s.length → x7.length = s.length → (∀ j, j < i → x6.getD j 0 = (j : Int)) → (∀ j, j < i → x7.getD j 0 = (onh s h m j : Int)) →
    ∃ r, Ev (fun k => double_joined.l0 k L (m : Int) x6 x7 (L.length : Int) (i : Int)) r ∧ isRk s (h + m) r.1 := by
  have hLl := hL.1
  intro d
  induction d with
  | zero =>
    intro i x6 x7 hd l6 l7 h6 h7
    have hon : ∀ j, j < s.length → onh s h m j ≤ s.length := fun j hj => by
      unfold onh
      split
      · omega
      · have := rkh_bound (s := s) (h := h) (x := j + m) (by omega)
        omega
    have k7 : okKeys x7 ((s.length : Int) + 1) := ⟨by omega, by omega, fun x hx => by
      obtain ⟨j, hj, rfl⟩ := List.getElem_of_mem hx
      have e := h7 j (by omega)
      rw [List.getD_eq_getElem?_getD, List.getElem?_eq_getElem hj, Option.getD_some] at e
      have := hon j (by omega)
      omega⟩
    have kL : okKeys L (s.length : Int) := ⟨by omega, by omega, fun x hx => by
      obtain ⟨j, hj, rfl⟩ := List.getElem_of_mem hx
      have e := hL.2 j (by omega)
      rw [List.getD_eq_getElem?_getD, List.getElem?_eq_getElem hj, Option.getD_some] at e
      have := rkh_bound (s := s) (h := h) (x := j) (by omega)
      omega⟩
    have r6 : ∀ x ∈ x6, 0 ≤ x ∧ x < (s.length : Int) := fun x hx => by
      obtain ⟨j, hj, rfl⟩ := List.getElem_of_mem hx
      have e := h6 j (by omega)
      rw [List.getD_eq_getElem?_getD, List.getElem?_eq_getElem hj, Option.getD_some] at e
      omega
    have n6 : x6.Nodup := (isPerm_of (fun x hx => by rw [l6]; exact r6 x hx) (fun x => x.toNat) (fun j hj => by rw [h6 j (by omega)]; simp)).2
    have e1 : passR x6 x7 ((s.length : Int) + 1) = (stab (keyOf x7) x6 (s.length + 1), true) := by
      rw [passR, if_pos ⟨k7, fun x hx => by rw [l7]; exact r6 x hx⟩, show ((s.length : Int) + 1).toNat = s.length + 1 by omega]
    have q7 : ∀ x ∈ x6, 0 ≤ keyOf x7 x ∧ keyOf x7 x < ((s.length + 1 : Nat) : Int) := fun x hx => by
      have := r6 x hx
      have := key_ok k7 (x := x) (by omega) (by omega)
      omega
    have p1 := stab_perm q7
    have r1 : ∀ x ∈ stab (keyOf x7) x6 (s.length + 1), 0 ≤ x ∧ x < (s.length : Int) := fun x hx => r6 x (p1.mem_iff.1 hx)
    have qL : ∀ x ∈ stab (keyOf x7) x6 (s.length + 1), 0 ≤ keyOf L x ∧ keyOf L x < (s.length : Int) := fun x hx => by
      have := r1 x hx
      exact key_ok kL (x := x) (by omega) (by omega)
    have e2 : passR (stab (keyOf x7) x6 (s.length + 1)) L (s.length : Int) = (stab (keyOf L) (stab (keyOf x7) x6 (s.length + 1)) s.length, true) := by
      rw [passR, if_pos ⟨kL, fun x hx => by rw [hLl]; exact r1 x hx⟩, Int.toNat_natCast]
    have p2 := (stab_perm qL).trans p1
    have l2 : (stab (keyOf L) (stab (keyOf x7) x6 (s.length + 1)) s.length).length = s.length := by rw [p2.length_eq, l6]
    have ho : isPerm (stab (keyOf L) (stab (keyOf x7) x6 (s.length + 1)) s.length) := ⟨fun x hx => by rw [l2]; exact r6 x (p2.mem_iff.1 hx), p2.nodup_iff.2 n6⟩
    have hpw := stab_pairwise (kf := keyOf L) (stab_pairwise (kf := keyOf x7) (o := x6) (R := fun _ _ => True) (List.pairwise_of_forall (fun _ _ => trivial)) (s.length + 1)) s.length
    obtain ⟨r, f1, f2⟩ := joined_l1 (x7 := x7) hn h0 hm hL l7 (fun j hj => h7 j (by omega)) ho l2 (List.Pairwise.imp_of_mem (fun {x y} hx hy hxy => by
        have hx2 := r6 x (p2.mem_iff.1 hx)
        have hy2 := r6 y (p2.mem_iff.1 hy)
        have a1 := hL.2 x.toNat (by omega)
        have a2 := hL.2 y.toNat (by omega)
        have b1 := h7 x.toNat (by omega)
        have b2 := h7 y.toNat (by omega)
        have g : ¬ lth s (h + m) y.toNat x.toNat := fun k => by
          have k2 := (pair_lt hm h0 (show y.toNat < s.length by omega) (show x.toNat < s.length by omega)).1 k
          unfold keyOf at hxy
          omega
        have := rkh_lt (s := s) (h := h + m) (show y.toNat < s.length by omega) (show x.toNat < s.length by omega)
        have : ¬ rkh s (h + m) y.toNat < rkh s (h + m) x.toNat := fun k => g (this.1 k)
        omega) hpw) (stab (keyOf L) (stab (keyOf x7) x6 (s.length + 1)) s.length).length 0 (List.replicate s.length 0) (by omega) (by simp) (fun q hq => by omega)
    refine ⟨(r, stab (keyOf L) (stab (keyOf x7) x6 (s.length + 1)) s.length), ?_, f2⟩
    refine Ev.step (fun k => by rw [double_joined.l0]) ?_
    simp only [hLl, if_neg (show ¬ (i : Int) < s.length by omega)]
    rw [wrap64_id (x := (s.length : Int) + 1) (by omega) (by omega)]
    refine Ev.bind (bucket_Pass_ev x6 x7 _ (by omega) (by omega)) ?_
    rw [e1]
    refine Ev.bind (bucket_Pass_ev _ L _ (by rw [p1.length_eq]; omega) (by omega)) ?_
    rw [e2]
    simp only [if_pos (show 0 ≤ (s.length : Int) by omega), Int.toNat_natCast, if_pos (show s.length ≤ 35184372088832 by omega)]
    exact f1
  | succ d ih =>
    intro i x6 x7 hd l6 l7 h6 h7
    have hi : i < L.length := by omega
    obtain ⟨r, e1, e2⟩ := ih (i + 1) (x6.set i (i : Int)) (x7.set i (onh s h m i : Int)) (by omega) (by rw [List.length_set, l6]) (by rw [List.length_set, l7]) (fun j hj => by
      rw [lset (by omega)]
      by_cases e : i = j
      · rw [if_pos e, e]
      · rw [if_neg e]; exact h6 j (by omega)) (fun j hj => by
      rw [lset (by omega)]
      by_cases e : i = j
      · rw [if_pos e, e]
      · rw [if_neg e]; exact h7 j (by omega))
    refine ⟨r, ?_, e2⟩
    refine Ev.step (fun k => by rw [double_joined.l0]) ?_
    simp only [if_pos (show (i : Int) < L.length by omega), double_on_eq hn hmn hL (show i < s.length by omega), Option.bind_some, if_pos (show 0 ≤ (i : Int) by omega), if_pos (show (i : Int) < x6.length by omega), if_pos (show (i : Int) < x7.length by omega), Int.toNat_natCast, wrap_nat hi (show L.length ≤ 140737488355328 by omega)]
    exact e1
theorem double_joined_ev {s L : List Int} {h m : Nat} (hn : s.length ≤ 100000) (h0 : 0 < h) (hm : m ≤ h) (hmn : m ≤ 100000) (hL : isRk s h L) : ∃ r, Ev (fun k => double_joined.f k L (m : Int)) r ∧ isRk s (h + m) r.1 := by
  have hLl := hL.1
  obtain ⟨r, e1, e2⟩ := joined_l0 hn h0 hm hmn hL L.length 0 (List.replicate L.length 0) (List.replicate L.length 0) (by omega) (by simp [hLl]) (by simp [hLl]) (fun j hj => by omega) (fun j hj => by omega)
  refine ⟨r, ?_, e2⟩
  refine Ev.congr (fun k => by rw [double_joined.f]) ?_
  simp only [if_pos (show 0 ≤ (L.length : Int) by omega), Int.toNat_natCast, if_pos (show L.length ≤ 35184372088832 by omega)]
  exact e1
theorem double_Ranks_l0 {s : List Int} (hn : s.length ≤ 100000) : ∀ (d h : Nat) (L : List Int), s.length - h ≤ d → 0 < h → h ≤ s.length → isRk s h L → ∃ r, Ev (fun k => double_Ranks.l0 k (s.length : Int) L (h : Int)) r ∧ isRk s s.length r := by
  intro d
  induction d with
  | zero =>
    intro h L hd h0 hle hL
    obtain rfl : h = s.length := by omega
    refine ⟨L, ?_, hL⟩
    refine Ev.step (fun k => by rw [double_Ranks.l0]) ?_
    simp only [if_neg (show ¬ (s.length : Int) < (s.length : Int) by omega)]
    exact Ev.now _
  | succ d ih =>
    intro h L hd h0 hle hL
    by_cases hh : h < s.length
    · obtain ⟨m, hm⟩ : ∃ m : Nat, mn (h : Int) ((s.length : Int) - (h : Int)) = (m : Int) ∧ m ≤ h ∧ 0 < m ∧ h + m ≤ s.length := by
        rcases Nat.lt_or_ge h (s.length - h) with k | k
        · exact ⟨h, by unfold mn; omega, by omega, by omega, by omega⟩
        · exact ⟨s.length - h, by unfold mn; omega, by omega, by omega, by omega⟩
      obtain ⟨hm1, hm2, hm3, hm4⟩ := hm
      obtain ⟨r, e1, e2⟩ := double_joined_ev hn h0 hm2 (by omega) hL
      obtain ⟨r2, f1, f2⟩ := ih (h + m) r.1 (by omega) (by omega) hm4 e2
      refine ⟨r2, ?_, f2⟩
      refine Ev.step (fun k => by rw [double_Ranks.l0]) ?_
      simp only [if_pos (show (h : Int) < (s.length : Int) by omega)]
      rw [wrap64_id (x := (s.length : Int) - (h : Int)) (by omega) (by omega), hm1]
      refine Ev.bind e1 ?_
      rw [wrap64_id (x := (h : Int) + (m : Int)) (by omega) (by omega), show (h : Int) + (m : Int) = ((h + m : Nat) : Int) by omega]
      exact f1
    · obtain rfl : h = s.length := by omega
      refine ⟨L, ?_, hL⟩
      refine Ev.step (fun k => by rw [double_Ranks.l0]) ?_
      simp only [if_neg (show ¬ (s.length : Int) < (s.length : Int) by omega)]
      exact Ev.now _
theorem double_Ranks_ev {s : List Int} (hn : s.length ≤ 100000) : ∃ r, Ev (fun k => double_Ranks.f k s (s.length : Int)) r ∧ isRk s s.length r := by
  have hstart : ∀ r, Ev (fun k => double_Ranks.j0 k s (s.length : Int) false) r → Ev (fun k => double_Ranks.f k s (s.length : Int)) r := fun r h => by
    refine Ev.congr (fun k => by rw [double_Ranks.f]) ?_
    simp only [if_neg (show ¬ (s.length : Int) < 0 by omega), decide_eq_false (show ¬ (s.length : Int) > 100000 by omega)]
    exact h
  by_cases h0 : s.length = 0
  · refine ⟨List.replicate s.length 0, hstart _ ?_, by simp, fun j hj => by omega⟩
    refine Ev.step (fun k => by rw [double_Ranks.j0]) ?_
    simp only [if_neg (show ¬ false = true by decide), if_pos (show 0 ≤ (s.length : Int) by omega), Int.toNat_natCast, if_pos (show s.length ≤ 35184372088832 by omega), if_pos (show (s.length : Int) = 0 by omega)]
    exact Ev.now _
  · obtain ⟨l, e1, e2, e3⟩ := double_ranks_ev hn
    obtain ⟨r, f1, f2⟩ := double_Ranks_l0 hn s.length 1 l (by omega) (by omega) (by omega) ⟨e2, e3⟩
    refine ⟨r, hstart _ ?_, f2⟩
    refine Ev.step (fun k => by rw [double_Ranks.j0]) ?_
    simp only [if_neg (show ¬ false = true by decide), if_pos (show 0 ≤ (s.length : Int) by omega), Int.toNat_natCast, if_pos (show s.length ≤ 35184372088832 by omega), if_neg (show ¬ (s.length : Int) = 0 by omega)]
    refine Ev.bind e1 ?_
    rw [show mn (s.length : Int) (s.length : Int) = (s.length : Int) by unfold mn; omega]
    exact f1
theorem double_Ints_l0 {s L : List Int} (hn : s.length ≤ 100000) (hL : isRk s s.length L) : ∀ (d i : Nat) (out : List Int), i + d = L.length → out.length = s.length → (∀ j, j < i → out.getD (rkh s s.length j) 0 = (j : Int)) →
    ∃ a, IsSA s a ∧ Ev (fun k => double_Ints.l0 k out L (L.length : Int) (i : Int)) (a, 0) := by
  have hLl := hL.1
  intro d
  induction d with
  | zero =>
    intro i out hd hl h
    refine ⟨out, sa_of_rank hl (fun j hj => h j (by omega)), ?_⟩
    refine Ev.step (fun k => by rw [double_Ints.l0]) ?_
    simp only [if_neg (show ¬ (i : Int) < L.length by omega)]
    exact Ev.now _
  | succ d ih =>
    intro i out hd hl h
    have hi : i < L.length := by omega
    have hb := rkh_bound (s := s) (h := s.length) (x := i) (by omega)
    have hv : rd L (i : Int) = (rkh s s.length i : Int) := by rw [rd_nat]; exact hL.2 i (by omega)
    obtain ⟨a, e1, e2⟩ := ih (i + 1) (out.set (rkh s s.length i) (i : Int)) (by omega) (by rw [List.length_set, hl]) (fun j hj => by
      rw [lset (by omega)]
      by_cases e : j = i
      · rw [e, if_pos rfl]
      · rw [if_neg ?_]
        · exact h j (by omega)
        · intro k
          have := (rkh_eq (s := s) (h := s.length) (x := i) (y := j) (by omega) (by omega)).1 k
          rw [List.take_of_length_le (by rw [List.length_drop]; omega), List.take_of_length_le (by rw [List.length_drop]; omega)] at this
          exact suf_ne (s := s) (x := i) (y := j) (by omega) (by omega) (fun k => e k.symm) this)
    refine ⟨a, e1, ?_⟩
    refine Ev.step (fun k => by rw [double_Ints.l0]) ?_
    simp only [if_pos (show (i : Int) < L.length by omega), if_pos (show 0 ≤ (i : Int) by omega), hv, if_pos (show (0 : Int) ≤ (rkh s s.length i : Int) by omega), if_pos (show (rkh s s.length i : Int) < out.length by omega), Int.toNat_natCast, wrap_nat hi (show L.length ≤ 140737488355328 by omega)]
    exact e2
theorem double_Ints_ev {s : List Int} {k : Int} (hn : s.length ≤ 100000) (hk : okKeys s k) : ∃ a, IsSA s a ∧ Ev (fun j => double_Ints.f j s k) (a, 0) := by
  obtain ⟨L, e1, e2⟩ := double_Ranks_ev hn
  obtain ⟨a, f1, f2⟩ := double_Ints_l0 hn e2 L.length 0 (List.replicate s.length 0) (by omega) (by simp) (fun j hj => by omega)
  refine ⟨a, f1, ?_⟩
  refine Ev.congr (fun j => by rw [double_Ints.f]) ?_
  simp only [if_neg (show ¬ (s.length : Int) > 100000 by omega)]
  refine Ev.bind (bucket_Counts_ev s k (by omega)) ?_
  rw [countsR, if_pos hk]
  simp only [if_true, if_pos (show 0 ≤ (s.length : Int) by omega), Int.toNat_natCast, if_pos (show s.length ≤ 35184372088832 by omega)]
  exact Ev.bind e1 f2
theorem double_Bytes_l0 {s : List Int} (hn : s.length ≤ 100000) (hb : ∀ x ∈ s, 0 ≤ x ∧ x ≤ 255) {r : List Int × Int} (hr : Ev (fun k => double_Ints.f k s 256) r) : ∀ (d i : Nat) (l : List Int), i + d = s.length → l.length = s.length → (∀ j, j < i → l.getD j 0 = s.getD j 0) →
    Ev (fun k => double_Bytes.l0 k l s (s.length : Int) (i : Int)) r := by
  intro d
  induction d with
  | zero =>
    intro i l hd hl hp
    obtain rfl : l = s := ext_getD hl (fun j hj => hp j (by omega))
    refine Ev.step (fun k => by rw [double_Bytes.l0]) ?_
    simp only [if_neg (show ¬ (i : Int) < l.length by omega)]
    exact Ev.bind hr (Ev.now _)
  | succ d ih =>
    intro i l hd hl hp
    have hi : i < s.length := by omega
    have hx := hb _ (getD_mem hi)
    refine Ev.step (fun k => by rw [double_Bytes.l0]) ?_
    rw [rd_nat, wrap64_id (x := s.getD i 0) (by omega) (by omega)]
    simp only [if_pos (show (i : Int) < s.length by omega), if_pos (show 0 ≤ (i : Int) by omega), if_pos (show (i : Int) < (l.length : Int) by omega), Int.toNat_natCast, wrap_nat hi (show s.length ≤ 140737488355328 by omega)]
    refine ih (i + 1) _ (by omega) (by rw [List.length_set, hl]) (fun j hj => ?_)
    rw [lset (by omega)]
    by_cases e : i = j
    · rw [if_pos e, e]
    · rw [if_neg e]; exact hp j (by omega)
theorem double_Bytes_ev {s : List Int} (hn : s.length ≤ 100000) (hb : ∀ x ∈ s, 0 ≤ x ∧ x ≤ 255) : ∃ a, IsSA s a ∧ Ev (fun j => double_Bytes.f j s) (a, 0) := by
  obtain ⟨a, ha, hev⟩ := double_Ints_ev (s := s) (k := 256) hn ⟨by omega, by omega, fun x hx => by have := hb x hx; omega⟩
  refine ⟨a, ha, ?_⟩
  refine Ev.congr (fun k => by rw [double_Bytes.f]) ?_
  simp only [if_neg (show ¬ (s.length : Int) > 100000 by omega), if_pos (show 0 ≤ (s.length : Int) by omega), Int.toNat_natCast, if_pos (show s.length ≤ 35184372088832 by omega)]
  exact double_Bytes_l0 hn hb hev s.length 0 _ (by omega) (by simp) (fun j hj => by omega)
def invR (a : List Int) : List Int × Bool := if isPerm a then (inv a, true) else ([], false)
theorem not_perm_out {a : List Int} {i : Nat} (hi : i < a.length) (h : a.getD i 0 < 0 ∨ (a.length : Int) ≤ a.getD i 0) : ¬ isPerm a := fun hp => by
  have := hp.1 _ (getD_mem hi)
  omega
theorem not_perm_twice {a : List Int} {i : Nat} (hi : i < a.length) (h : a.getD i 0 ∈ a.take i) : ¬ isPerm a := fun hp => by
  obtain ⟨j, hj, e⟩ := List.mem_iff_getElem.1 h
  rw [List.length_take] at hj
  rw [List.getElem_take] at e
  have e2 : a.getD j 0 = a.getD i 0 := by rw [← e, List.getD_eq_getElem?_getD, List.getElem?_eq_getElem (by omega)]; rfl
  have := getD_inj hp.2 (by omega) hi e2
  omega
theorem perm_full {a : List Int} {i : Nat} (hi : a.length ≤ i) (h1 : ∀ x ∈ a.take i, 0 ≤ x ∧ x < (a.length : Int)) (h2 : (a.take i).Nodup) : isPerm a := by
  rw [List.take_of_length_le hi] at h1 h2
  exact ⟨h1, h2⟩
theorem nodup_next {a : List Int} {i : Nat} (hi : i < a.length) (h2 : (a.take i).Nodup) (h : a.getD i 0 ∉ a.take i) : (a.take (i + 1)).Nodup := by
  rw [take_next hi, List.nodup_append]
  exact ⟨h2, by simp, fun x hx y hy => by rintro rfl; simp only [List.mem_singleton] at hy; subst hy; exact h hx⟩
theorem out_next {a out : List Int} {i : Nat} (hi : i < a.length) (hol : out.length = a.length) (hx0 : 0 ≤ a.getD i 0) (hx1 : a.getD i 0 < a.length) (hn : a.getD i 0 ∉ a.take i)
    (ho : ∀ v, v < a.length → (v : Int) ∈ a.take i → out.getD v 0 = ((a.idxOf (v : Int) : Nat) : Int)) :
    ∀ v, v < a.length → (v : Int) ∈ a.take (i + 1) → (out.set (a.getD i 0).toNat (i : Int)).getD v 0 = ((a.idxOf (v : Int) : Nat) : Int) := by
  intro v hv hm
  rw [lset (by omega)]
  by_cases e : (a.getD i 0).toNat = v
  · rw [if_pos e]
    have e2 : (v : Int) = a.getD i 0 := by omega
    have h1 : a.idxOf (v : Int) = i := by
      have hs : a = a.take i ++ (a.getD i 0 :: a.drop (i + 1)) := by
        conv => lhs; rw [← List.take_append_drop i a]
        rw [List.drop_eq_getElem_cons hi, List.getD_eq_getElem?_getD, List.getElem?_eq_getElem hi]; rfl
      rw [e2]
      conv => lhs; arg 2; rw [hs]
      rw [List.idxOf_append, if_neg hn, List.idxOf_cons_self, List.length_take]
      omega
    rw [h1]
  · rw [if_neg e]
    rw [take_next hi, List.mem_append, List.mem_singleton] at hm
    rcases hm with hm | hm
    · exact ho v hv hm
    · omega
theorem inv_done {a out : List Int} (hp : isPerm a) (hol : out.length = a.length) (ho : ∀ v, v < a.length → (v : Int) ∈ a → out.getD v 0 = ((a.idxOf (v : Int) : Nat) : Int)) : out = inv a := by
  refine ext_getD (by rw [hol, inv_length]) (fun v hv => ?_)
  rw [hol] at hv
  rw [inv_get hv, ho v hv (hp.mem (by omega) (by omega))]
theorem ref16_l1 (a : List Int) (hn : a.length ≤ 140737488355328) : ∀ (d i : Nat) (out : List Int), i + d = a.length → out.length = a.length →
    (∀ x ∈ a.take i, 0 ≤ x ∧ x < (a.length : Int)) → (a.take i).Nodup → (∀ v, v < a.length → (v : Int) ∉ a.take i → out.getD v 0 = -1) →
    (∀ v, v < a.length → (v : Int) ∈ a.take i → out.getD v 0 = ((a.idxOf (v : Int) : Nat) : Int)) → Ev (fun k => whorlref16_Inverse.l1 k a out (i : Int)) (invR a) := by
  intro d
  induction d with
  | zero =>
    intro i out hd hol hr hnd hs ho
    have hp := perm_full (i := i) (by omega) hr hnd
    refine Ev.step (fun k => by rw [whorlref16_Inverse.l1]) ?_
    simp only [if_neg (show ¬ (i : Int) < a.length by omega)]
    rw [invR, if_pos hp]
    rw [List.take_of_length_le (by omega)] at ho
    rw [inv_done hp hol ho]
    exact Ev.now _
  | succ d ih =>
    intro i out hd hol hr hnd hs ho
    have hi : i < a.length := by omega
    refine Ev.step (fun k => by rw [whorlref16_Inverse.l1]) ?_
    simp only [if_pos (show (i : Int) < a.length by omega), if_pos (show 0 ≤ (i : Int) by omega), rd_nat]
    by_cases h1 : a.getD i 0 < 0
    · simp only [if_pos h1]
      rw [invR, if_neg (not_perm_out hi (.inl h1))]
      exact Ev.now _
    simp only [if_neg h1]
    by_cases h2 : a.getD i 0 ≥ (a.length : Int)
    · simp only [if_pos h2]
      rw [invR, if_neg (not_perm_out hi (.inr h2))]
      exact Ev.now _
    have e : ((a.getD i 0).toNat : Int) = a.getD i 0 := by omega
    have h3 := hs (a.getD i 0).toNat (by omega)
    have h5 := ho (a.getD i 0).toNat (by omega)
    rw [e] at h3 h5
    simp only [if_neg h2, if_pos (show 0 ≤ a.getD i 0 by omega), if_pos (show a.getD i 0 < (out.length : Int) by omega), rd]
    by_cases h4 : a.getD i 0 ∈ a.take i
    · simp only [h5 h4, if_pos (show ((a.idxOf (a.getD i 0) : Nat) : Int) ≥ 0 by omega)]
      rw [invR, if_neg (not_perm_twice hi h4)]
      exact Ev.now _
    · simp only [h3 h4, if_neg (show ¬ (-1 : Int) ≥ 0 by decide), wrap_nat hi hn]
      refine ih (i + 1) _ (by omega) (by rw [List.length_set, hol]) (fun x hx => ?_) (nodup_next hi hnd h4) (fun v hv hm => ?_) (out_next hi hol (by omega) (by omega) h4 ho)
      · rw [take_next hi, List.mem_append, List.mem_singleton] at hx
        rcases hx with hx | hx
        · exact hr x hx
        · omega
      · rw [take_next hi, List.mem_append, List.mem_singleton, not_or] at hm
        rw [lset_ne (by omega)]
        exact hs v hv hm.1
theorem ref16_l0 (a : List Int) (hn : a.length ≤ 140737488355328) : ∀ (d i : Nat) (out : List Int), i + d = a.length → out.length = a.length → (∀ v, v < i → out.getD v 0 = -1) →
    Ev (fun k => whorlref16_Inverse.l0 k a out (i : Int)) (invR a) := by
  intro d
  induction d with
  | zero =>
    intro i out hd hol ho
    refine Ev.step (fun k => by rw [whorlref16_Inverse.l0]) ?_
    simp only [if_neg (show ¬ (i : Int) < a.length by omega)]
    exact ref16_l1 a hn a.length 0 out (by omega) hol (by simp) (by simp) (fun v hv _ => ho v (by omega)) (by simp)
  | succ d ih =>
    intro i out hd hol ho
    have hi : i < a.length := by omega
    refine Ev.step (fun k => by rw [whorlref16_Inverse.l0]) ?_
    simp only [if_pos (show (i : Int) < a.length by omega), if_pos (show 0 ≤ (i : Int) by omega), if_pos (show (i : Int) < out.length by omega), wrap_nat hi hn, Int.toNat_natCast]
    refine ih (i + 1) _ (by omega) (by rw [List.length_set, hol]) (fun v hv => ?_)
    rw [lset (by omega)]
    by_cases e : i = v
    · rw [if_pos e]
    · rw [if_neg e]; exact ho v (by omega)
theorem ref16_Inverse_ev (a : List Int) (hn : a.length ≤ 35184372088832) : Ev (fun k => whorlref16_Inverse.f k a) (invR a) := by
  refine Ev.congr (fun k => by rw [whorlref16_Inverse.f]) ?_
  simp only [Int.toNat_natCast]
  simp only [if_pos (show 0 ≤ (a.length : Int) by omega), if_pos hn]
  exact ref16_l0 a (by omega) a.length 0 _ (by omega) (by simp) (fun v hv => by omega)
theorem ref16_Is_ev (a : List Int) (hn : a.length ≤ 35184372088832) : Ev (fun k => whorlref16_Is.f k a) (decide (isPerm a)) := by
  refine Ev.congr (fun k => by rw [whorlref16_Is.f]) ?_
  refine Ev.bind (ref16_Inverse_ev a hn) ?_
  by_cases h : isPerm a
  · simp only [invR, h, if_true, decide_true]; exact Ev.now _
  · simp only [invR, h, if_false, decide_false]; exact Ev.now _
theorem ref4_Ints_l0 (a b : List Int) (hl : a.length = b.length) (hn : a.length ≤ 140737488355328) : ∀ (d i : Nat), i + d = a.length → (∀ j, j < i → a.getD j 0 = b.getD j 0) → Ev (fun k => whorlref4_Ints.l0 k a b (i : Int)) (decide (a = b)) := by
  intro d
  induction d with
  | zero =>
    intro i hd h
    refine Ev.step (fun k => by rw [whorlref4_Ints.l0]) ?_
    simp only [if_neg (show ¬ (i : Int) < a.length by omega)]
    rw [decide_eq_true (ext_getD hl (fun j hj => h j (by omega)))]
    exact Ev.now _
  | succ d ih =>
    intro i hd h
    have hi : i < a.length := by omega
    refine Ev.step (fun k => by rw [whorlref4_Ints.l0]) ?_
    simp only [if_pos (show (i : Int) < a.length by omega), if_pos (show 0 ≤ (i : Int) by omega), if_pos (show (i : Int) < b.length by omega), rd_nat, wrap_nat hi hn]
    by_cases e : a.getD i 0 = b.getD i 0
    · simp only [if_pos e]
      refine ih (i + 1) (by omega) (fun j hj => ?_)
      by_cases e2 : j = i
      · rw [e2]; exact e
      · exact h j (by omega)
    · simp only [if_neg e]
      rw [decide_eq_false (fun hab => e (by rw [hab]))]
      exact Ev.now _
theorem ref4_Ints_ev (a b : List Int) (hn : a.length ≤ 140737488355328) : Ev (fun k => whorlref4_Ints.f k a b) (decide (a = b)) := by
  refine Ev.congr (fun k => by rw [whorlref4_Ints.f]) ?_
  by_cases e : a.length = b.length
  · simp only [if_pos (show (a.length : Int) = b.length by omega)]
    exact ref4_Ints_l0 a b e hn a.length 0 (by omega) (fun j hj => by omega)
  · simp only [if_neg (show ¬ (a.length : Int) = b.length by omega)]
    rw [decide_eq_false (fun hab => e (by rw [hab]))]
    exact Ev.now _
theorem ref4_Words_l0 (a b : List Int) (ha : a.length ≤ 140737488355328) : ∀ (d i : Nat), i + d = a.length → i ≤ b.length → a.take i = b.take i → Ev (fun k => whorlref4_Words.l0 k a b (i : Int)) (cmpL a b) := by
  intro d
  induction d with
  | zero =>
    intro i hd hb h
    have e : cmpL a b = cmpL (a.drop i) (b.drop i) := by
      conv => lhs; rw [← List.take_append_drop i a, ← List.take_append_drop i b, h]
      rw [cmpL_append]
    refine Ev.step (fun k => by rw [whorlref4_Words.l0]) ?_
    simp only [if_neg (show ¬ (i : Int) < a.length by omega)]
    refine Ev.step (fun k => by rw [whorlref4_Words.j1]) ?_
    simp only [if_neg (show ¬ false = true by decide)]
    rw [e, List.drop_of_length_le (show a.length ≤ i by omega)]
    by_cases h1 : a.length < b.length
    · simp only [if_pos (show (a.length : Int) < b.length by omega)]
      have : ltL [] (b.drop i) := ltL_nil.2 (fun e => by have := congrArg List.length e; rw [List.length_drop] at this; simp only [List.length_nil] at this; omega)
      rw [this]; exact Ev.now _
    · simp only [if_neg (show ¬ (a.length : Int) < b.length by omega), if_neg (show ¬ (a.length : Int) > b.length by omega)]
      rw [List.drop_of_length_le (show b.length ≤ i by omega)]
      exact Ev.now _
  | succ d ih =>
    intro i hd hb h
    have hi : i < a.length := by omega
    have e : cmpL a b = cmpL (a.drop i) (b.drop i) := by
      conv => lhs; rw [← List.take_append_drop i a, ← List.take_append_drop i b, h]
      rw [cmpL_append]
    refine Ev.step (fun k => by rw [whorlref4_Words.l0]) ?_
    simp only [if_pos (show (i : Int) < a.length by omega)]
    refine Ev.step (fun k => by rw [whorlref4_Words.j1]) ?_
    by_cases hib : i < b.length
    · simp only [show decide ((i : Int) < b.length) = true by simpa using hib, if_true, if_pos (show 0 ≤ (i : Int) by omega), if_pos (show (i : Int) < a.length by omega), if_pos (show (i : Int) < b.length by omega), rd_nat, wrap_nat hi ha]
      have e2 : cmpL (a.drop i) (b.drop i) = if a.getD i 0 < b.getD i 0 then -1 else if b.getD i 0 < a.getD i 0 then 1 else cmpL (a.drop (i + 1)) (b.drop (i + 1)) := by
        rw [drop_cons_get hi, drop_cons_get hib, cmpL]
      rw [e, e2]
      by_cases h1 : a.getD i 0 = b.getD i 0
      · have e3 : cmpL (a.drop (i + 1)) (b.drop (i + 1)) = cmpL a b := by
          rw [e, e2, if_neg (by omega), if_neg (by omega)]
        simp only [if_pos h1]
        rw [if_neg (show ¬ a.getD i 0 < b.getD i 0 by omega), if_neg (show ¬ b.getD i 0 < a.getD i 0 by omega), e3]
        exact ih (i + 1) (by omega) (by omega) (by rw [take_next hi, take_next hib, h, h1])
      · by_cases h2 : a.getD i 0 < b.getD i 0
        · simp only [if_neg h1, if_pos h2]; exact Ev.now _
        · simp only [if_neg h1, if_neg h2]
          rw [if_pos (show b.getD i 0 < a.getD i 0 by omega)]
          exact Ev.now _
    · simp only [show decide ((i : Int) < b.length) = false by simpa using hib, if_neg (show ¬ false = true by decide), if_neg (show ¬ (a.length : Int) < b.length by omega), if_pos (show (a.length : Int) > b.length by omega)]
      rw [e, List.drop_of_length_le (show b.length ≤ i by omega), drop_cons_get hi]
      exact Ev.now _
theorem ref4_Words_ev (a b : List Int) (ha : a.length ≤ 140737488355328) : Ev (fun k => whorlref4_Words.f k a b) (cmpL a b) :=
  Ev.congr (fun k => rfl) (ref4_Words_l0 a b ha a.length 0 (by omega) (by omega) (by simp))
theorem topthree_l0 {s a : List Int} (hn : s.length ≤ 400) (ha : IsSA s a) : ∀ (d i : Nat), i + 1 + d = max a.length 1 → Ev (fun k => whorltop_TopThree.l0 k s a ((i + 1 : Nat) : Int)) true := by
  have hal := ha.1
  intro d
  induction d with
  | zero =>
    intro i hd
    refine Ev.step (fun k => by rw [whorltop_TopThree.l0]) ?_
    simp only [if_neg (show ¬ ((i + 1 : Nat) : Int) < a.length by omega), whorltop_known.f, Option.bind_some]
    exact Ev.now _
  | succ d ih =>
    intro i hd
    have hi : i + 1 < a.length := by omega
    have h1 := ha.2.1 _ (getD_mem (show i < a.length by omega))
    have h2 := ha.2.1 _ (getD_mem hi)
    have hw : wrap64 (((i + 1 : Nat) : Int) - 1) = (i : Int) := by rw [wrap64_id (by omega) (by omega)]; omega
    have hlt := pair_getD ha.2.2 (show i < i + 1 by omega) hi
    refine Ev.step (fun k => by rw [whorltop_TopThree.l0]) ?_
    simp only [if_pos (show ((i + 1 : Nat) : Int) < a.length by omega), hw, if_pos (show 0 ≤ (i : Int) by omega), if_pos (show (i : Int) < a.length by omega), rd_nat, if_pos h1.1, if_pos (show a.getD i 0 ≤ s.length by omega), if_pos (show (0 : Int) ≤ ((i + 1 : Nat) : Int) by omega), if_pos h2.1, if_pos (show a.getD (i + 1) 0 ≤ s.length by omega), wrap_nat hi (show a.length ≤ 140737488355328 by omega)]
    refine Ev.bind (ref4_Words_ev _ _ (by rw [List.length_drop]; omega)) ?_
    have hc : cmpL (s.drop (a.getD i 0).toNat) (s.drop (a.getD (i + 1) 0).toNat) = -1 := hlt
    simp only [hc, if_neg (show ¬ (-1 : Int) ≥ 0 by decide)]
    exact ih (i + 1) (by omega)
theorem TopThree : whorltop_TopThree.Pure := by
  intro s h1 h2 h3
  refine Ev.rounds ?_
  have hb : ∀ x ∈ s, 0 ≤ x ∧ x ≤ 255 := fun x hx => wf_u8 (h3 x hx)
  refine Ev.congr (fun k => by rw [whorltop_TopThree.f]) ?_
  by_cases g1 : (s.length : Int) > 400
  · simp only [if_pos g1]; exact Ev.now _
  simp only [if_neg g1]
  obtain ⟨a, ha, hae⟩ := sais_Bytes_ev (s := s) (by omega) hb
  obtain ⟨b, hb1, hbe⟩ := skew_Bytes_ev (s := s) (by omega) hb
  obtain ⟨c, hc1, hce⟩ := double_Bytes_ev (s := s) (by omega) hb
  obtain rfl := ha.uniq hb1
  obtain rfl := ha.uniq hc1
  have hal := ha.1
  refine Ev.bind hae ?_
  refine Ev.bind hbe ?_
  refine Ev.bind hce ?_
  simp only [if_true, if_pos (show (a.length : Int) = s.length by omega)]
  refine Ev.bind (ref16_Is_ev a (by omega)) ?_
  simp only [ha.perm, decide_true, if_true]
  refine Ev.bind (ref4_Ints_ev _ _ (by omega)) ?_
  simp only [decide_true, if_true]
  refine Ev.bind (ref4_Ints_ev _ _ (by omega)) ?_
  simp only [decide_true, Bool.not_true]
  refine Ev.step (fun k => by rw [whorltop_TopThree.j0]) ?_
  simp only [if_neg (show ¬ false = true by decide)]
  exact topthree_l0 (by omega) ha (max a.length 1 - 1) 0 (by omega)
end Go.Proofs.Ytbbpplnnegdenaa.Pure
end
