/- LfWhole: what the statement LfWhole says of the printed functions, proved for every input that its guards let in. Conditions: none beside the statement's own. -/
import Derived.Test.YthdmoeckoblpdaaHLfWholex5
import Derived.Test.YthdmoeckoblpdaaMLfWhole
set_option linter.unusedVariables false
set_option linter.unusedSimpArgs false
namespace Go.Proofs.Ythdmoeckoblpdaa.Pure
open Go Go.RowKit Go.Proofs.Ythdmoeckoblpdaa.PLfWhole Go.Proofs.YthdmoeckoblpdaaW.PrintWords Go.Proofs.YthdmoeckoblpdaaW.PrintLast Go.Proofs.Ythdmoeckoblpdaa.MM

-- math: W Base Perm Stab
def okKeys (keys : List Int) (k : Int) : Prop := 0 ≤ k ∧ k ≤ 1048576 ∧ ∀ x ∈ keys, 0 ≤ x ∧ x < k

instance (keys : List Int) (k : Int) : Decidable (okKeys keys k) := by unfold okKeys; infer_instance

def countsR (keys : List Int) (k : Int) : List Int × Bool := if okKeys keys k then (cntsOf id keys k.toNat, true) else ([], false)

theorem bucket_Counts_l0 (keys : List Int) (k : Int) (h0 : 0 ≤ k) (hk : k ≤ 1048576) (hn : keys.length ≤ 140737488355328) : ∀ (d i : Nat) (l : List Int), i + d = keys.length → l.length = k.toNat → (∀ c, c < k.toNat → l.getD c 0 = (kcnt id (keys.take i) c : Int)) →
    (∀ x ∈ keys.take i, 0 ≤ x ∧ x < k) → Ev (fun j => bucket_Counts.l0 j k l keys (keys.length : Int) (i : Int)) (countsR keys k) := by
  intro d
  induction d with
  | zero =>
    intro i l hd hl h hr
    refine Ev.step (fun k => by rw [bucket_Counts.l0]) ?_
    rw [List.take_of_length_le (by omega)] at h hr
    simp only [if_neg (show ¬ (i : Int) < keys.length by omega)]
    rw [countsR, if_pos ⟨h0, hk, hr⟩, ext_getD (a := l) (b := cntsOf id keys k.toNat) (by rw [hl, cntsOf_length]) (fun c hc => by rw [cntsOf_get (by omega), h c (by omega)])]
    exact Ev.now _
  | succ d ih =>
    intro i l hd hl h hr
    have hi : i < keys.length := by omega
    refine Ev.step (fun k => by rw [bucket_Counts.l0]) ?_
    simp only [if_pos (show (i : Int) < keys.length by omega), if_pos (show 0 ≤ (i : Int) by omega), rd_nat, wrap_nat hi hn]
    by_cases h1 : keys.getD i 0 < 0
    · simp only [if_pos h1]
      rw [countsR, if_neg (fun hq => by have := hq.2.2 _ (getD_mem hi); omega)]
      exact Ev.now _
    by_cases h2 : keys.getD i 0 ≥ k
    · simp only [if_neg h1, if_pos h2]
      rw [countsR, if_neg (fun hq => by have := hq.2.2 _ (getD_mem hi); omega)]
      exact Ev.now _
    have h3 := h (keys.getD i 0).toNat (by omega)
    have hle : kcnt id (keys.take i) (keys.getD i 0).toNat ≤ keys.length := Nat.le_trans kcnt_le (by rw [List.length_take]; omega)
    simp only [if_neg h1, if_neg h2, if_pos (show 0 ≤ keys.getD i 0 by omega), if_pos (show keys.getD i 0 < l.length by omega), rd, h3]
    rw [wrap64_id (by omega) (by omega)]
    refine ih (i + 1) _ (by omega) (by rw [List.length_set, hl]) (fun c hc => ?_) (fun x hx => ?_)
    · rw [lset (by omega), kcnt_next hi, id]
      by_cases e : (keys.getD i 0).toNat = c
      · rw [if_pos e, if_pos (by omega), ← e]; rfl
      · rw [if_neg e, if_neg (by omega)]; exact h c hc
    · rw [take_next hi, List.mem_append, List.mem_singleton] at hx
      rcases hx with hx | hx
      · exact hr x hx
      · omega

theorem bucket_Counts_ev (keys : List Int) (k : Int) (hn : keys.length ≤ 140737488355328) : Ev (fun j => bucket_Counts.f j keys k) (countsR keys k) := by
  have hno : ¬ (0 ≤ k ∧ k ≤ 1048576) → Ev (fun j => bucket_Counts.j0 j keys k true) (countsR keys k) := fun hno => by
    rw [countsR, if_neg (fun hq => hno ⟨hq.1, hq.2.1⟩)]
    refine Ev.step (fun k => by rw [bucket_Counts.j0]) ?_
    simp only [if_true]
    exact Ev.now _
  refine Ev.congr (fun k => by rw [bucket_Counts.f]) ?_
  by_cases h1 : k < 0
  · simp only [if_pos h1]; exact hno (by omega)
  by_cases h2 : k > 1048576
  · simp only [if_neg h1, h2, decide_true]; exact hno (by omega)
  simp only [if_neg h1, h2, decide_false]
  refine Ev.step (fun k => by rw [bucket_Counts.j0]) ?_
  simp only [if_neg (show ¬ false = true by decide), if_pos (show 0 ≤ k by omega), if_pos (show k.toNat ≤ 35184372088832 by omega)]
  exact bucket_Counts_l0 keys k (by omega) (by omega) hn keys.length 0 _ (by omega) (by simp) (fun c hc => by rw [getD_replicate]; simp [kcnt]) (by simp)

def sumsOk (l : List Int) : Prop := ∀ i, i ≤ l.length → -9223372036854775808 ≤ (l.take i).sum ∧ (l.take i).sum < 9223372036854775808

theorem bucket_Starts_l0 (c : List Int) (hn : c.length ≤ 140737488355328) (hs : sumsOk c) : ∀ (d i : Nat) (l : List Int), i + d = c.length → l.length = c.length → (∀ j, j < i → l.getD j 0 = (c.take j).sum) →
    Ev (fun j => bucket_Starts.l0 j l (c.take i).sum c (c.length : Int) (i : Int)) (startsOf c) := by
  intro d
  induction d with
  | zero =>
    intro i l hd hl h
    refine Ev.step (fun k => by rw [bucket_Starts.l0]) ?_
    simp only [if_neg (show ¬ (i : Int) < c.length by omega)]
    rw [ext_getD (a := l) (b := startsOf c) (by rw [hl, startsOf_length]) (fun j hj => by rw [startsOf_get (by omega), h j (by omega)])]
    exact Ev.now _
  | succ d ih =>
    intro i l hd hl h
    have hi : i < c.length := by omega
    refine Ev.step (fun k => by rw [bucket_Starts.l0]) ?_
    have hw := hs (i + 1) (by omega)
    rw [sum_next hi] at hw
    simp only [if_pos (show (i : Int) < c.length by omega), if_pos (show 0 ≤ (i : Int) by omega), if_pos (show (i : Int) < l.length by omega), rd_nat, wrap_nat hi hn, Int.toNat_natCast]
    rw [wrap64_id hw.1 hw.2, ← sum_next hi]
    refine ih (i + 1) _ (by omega) (by rw [List.length_set, hl]) (fun j hj => ?_)
    rw [lset (by omega)]
    by_cases e : i = j
    · rw [if_pos e, e]
    · rw [if_neg e]; exact h j (by omega)

theorem bucket_Starts_ev (c : List Int) (hn : c.length ≤ 35184372088832) (hs : sumsOk c) : Ev (fun j => bucket_Starts.f j c) (startsOf c) := by
  refine Ev.congr (fun k => by rw [bucket_Starts.f]) ?_
  simp only [Int.toNat_natCast]
  simp only [if_pos (show 0 ≤ (c.length : Int) by omega), if_pos hn]
  exact bucket_Starts_l0 c (by omega) hs c.length 0 _ (by omega) (by simp) (fun j hj => by omega)

theorem cnts_sumsOk {kf : Int → Int} {o : List Int} {k : Nat} (hr : ∀ x ∈ o, 0 ≤ kf x ∧ kf x < (k : Int)) (hn : o.length ≤ 140737488355328) : sumsOk (cntsOf kf o k) := by
  intro i hi
  rw [cntsOf_length] at hi
  rw [cnts_sum hi]
  have h2 := stab_all hr
  have h3 : (stab kf o i).length ≤ (stab kf o k).length := by
    rcases Nat.lt_or_ge i k with h | h
    · have := stab_mono (kf := kf) (o := o) h; omega
    · rw [show i = k by omega]; omega
  omega

/-- a place's key -/
def keyOf (keys : List Int) (i : Int) : Int := keys.getD i.toNat 0

def okPass (o keys : List Int) (k : Int) : Prop := okKeys keys k ∧ ∀ x ∈ o, 0 ≤ x ∧ x < (keys.length : Int)

instance (o keys : List Int) (k : Int) : Decidable (okPass o keys k) := by unfold okPass; infer_instance

def passR (o keys : List Int) (k : Int) : List Int × Bool := if okPass o keys k then (stab (keyOf keys) o k.toNat, true) else ([], false)

theorem key_ok {keys : List Int} {k : Int} (h : okKeys keys k) {x : Int} (h0 : 0 ≤ x) (h1 : x < keys.length) : 0 ≤ keyOf keys x ∧ keyOf keys x < k := h.2.2 _ (getD_mem (by omega))

theorem bucket_Pass_l1 (o keys : List Int) (k : Int) (hok : okPass o keys k) (hn : o.length ≤ 140737488355328) : ∀ (d i : Nat) (at_ l : List Int), i + d = o.length → at_.length = k.toNat → l.length = o.length →
    (∀ c, c < k.toNat → at_.getD c 0 = ((stab (keyOf keys) o c).length + kcnt (keyOf keys) (o.take i) c : Nat)) →
    (∀ c r, c < k.toNat → r < kcnt (keyOf keys) (o.take i) c → l.getD ((stab (keyOf keys) o c).length + r) 0 = (o.filter (fun i => keyOf keys i == (c : Int))).getD r 0) →
    Ev (fun j => bucket_Pass.l1 j keys at_ l o (o.length : Int) (i : Int)) (stab (keyOf keys) o k.toNat, true) := by
  have h0k : 0 ≤ k := hok.1.1
  have hko : ∀ x ∈ o, 0 ≤ keyOf keys x ∧ keyOf keys x < (k.toNat : Int) := fun x hx => by
    have h1 := hok.2 x hx
    have := key_ok hok.1 h1.1 h1.2
    omega
  intro d
  induction d with
  | zero =>
    intro i at_ l hd ha hl hat h
    refine Ev.step (fun k => by rw [bucket_Pass.l1]) ?_
    rw [List.take_of_length_le (by omega)] at h
    simp only [if_neg (show ¬ (i : Int) < o.length by omega)]
    rw [stab_ext (l := l) (by rw [hl, stab_all hko]) (fun c r hc hr => h c r hc hr)]
    exact Ev.now _
  | succ d ih =>
    intro i at_ l hd ha hl hat h
    have hi : i < o.length := by omega
    have hx := hok.2 _ (getD_mem hi)
    have hk := key_ok hok.1 hx.1 hx.2
    obtain ⟨c, hc⟩ : ∃ c : Nat, keyOf keys (o.getD i 0) = c := ⟨(keyOf keys (o.getD i 0)).toNat, by omega⟩
    have hck : c < k.toNat := by omega
    have hcl := kcnt_lt hi hc
    have hmo := stab_mono (kf := keyOf keys) (o := o) hck
    rw [stab_all hko] at hmo
    have h3 := hat c hck
    have e1 : rd keys (o.getD i 0) = (c : Int) := hc
    refine Ev.step (fun k => by rw [bucket_Pass.l1]) ?_
    simp only [if_pos (show (i : Int) < o.length by omega), if_pos (show 0 ≤ (i : Int) by omega), rd_nat, wrap_nat hi hn, if_pos hx.1, if_pos hx.2, e1, if_pos (show (0 : Int) ≤ (c : Int) by omega), if_pos (show (c : Int) < at_.length by omega), h3, Int.toNat_natCast]
    simp only [if_pos (show (0 : Int) ≤ (((stab (keyOf keys) o c).length + kcnt (keyOf keys) (o.take i) c : Nat) : Int) by omega), if_pos (show (((stab (keyOf keys) o c).length + kcnt (keyOf keys) (o.take i) c : Nat) : Int) < l.length by omega)]
    rw [wrap64_id (by omega) (by omega)]
    refine ih (i + 1) _ _ (by omega) (by rw [List.length_set, ha]) (by rw [List.length_set, hl]) (fun c' hc' => ?_) (fun c' r hc' hr => ?_)
    · rw [lset (by omega), kcnt_next hi, hc]
      by_cases e : c = c'
      · rw [if_pos e, if_pos (by omega), e]; omega
      · rw [if_neg e, if_neg (by omega)]; exact hat c' hc'
    · rw [lset (by omega)]
      rw [kcnt_next hi, hc] at hr
      by_cases e : c = c'
      · subst e
        rw [if_pos rfl] at hr
        by_cases e2 : r = kcnt (keyOf keys) (o.take i) c
        · rw [if_pos (by omega), e2, filter_at hi hc]
        · rw [if_neg (by omega)]; exact h c r hck (by omega)
      · rw [if_neg (by omega)] at hr
        have hr' : r < kcnt (keyOf keys) o c' := Nat.lt_of_lt_of_le (by omega) (kcnt_take i)
        rw [if_neg ?_]
        · exact h c' r hc' (by omega)
        · intro he
          rcases Nat.lt_or_ge c c' with hlt | hge
          · have := stab_mono (kf := keyOf keys) (o := o) hlt; omega
          · have := stab_mono (kf := keyOf keys) (o := o) (show c' < c by omega); omega

theorem bucket_Pass_l0 (o keys : List Int) (k : Int) (hok : okKeys keys k) (hn : o.length ≤ 35184372088832) : ∀ (d i : Nat) (l : List Int), i + d = o.length → l.length = k.toNat → (∀ c, c < k.toNat → l.getD c 0 = (kcnt (keyOf keys) (o.take i) c : Int)) →
    (∀ x ∈ o.take i, 0 ≤ x ∧ x < (keys.length : Int)) → Ev (fun j => bucket_Pass.l0 j o keys l o (o.length : Int) (i : Int)) (passR o keys k) := by
  have h0k : 0 ≤ k := hok.1
  have hkm : k ≤ 1048576 := hok.2.1
  intro d
  induction d with
  | zero =>
    intro i l hd hl h hr
    rw [List.take_of_length_le (by omega)] at h hr
    have hp : okPass o keys k := ⟨hok, hr⟩
    have hko : ∀ x ∈ o, 0 ≤ keyOf keys x ∧ keyOf keys x < (k.toNat : Int) := fun x hx => by
      have h1 := hr x hx
      have := key_ok hok h1.1 h1.2
      omega
    have hle : l = cntsOf (keyOf keys) o k.toNat := ext_getD (by rw [hl, cntsOf_length]) (fun c hc => by rw [cntsOf_get (by omega), h c (by omega)])
    refine Ev.step (fun k => by rw [bucket_Pass.l0]) ?_
    simp only [if_neg (show ¬ (i : Int) < o.length by omega)]
    refine Ev.bind (bucket_Starts_ev l (by omega) (by rw [hle]; exact cnts_sumsOk hko (by omega))) ?_
    simp only [Int.toNat_natCast]
    simp only [if_pos (show 0 ≤ (o.length : Int) by omega), if_pos hn]
    rw [passR, if_pos hp]
    refine bucket_Pass_l1 o keys k hp (by omega) o.length 0 _ _ (by omega) (by rw [startsOf_length, hl]) (by simp) (fun c hc => ?_) (fun c r hc hr2 => ?_)
    · rw [startsOf_get (by omega), hle, cnts_sum (by omega)]; simp [kcnt]
    · simp [kcnt] at hr2
  | succ d ih =>
    intro i l hd hl h hr
    have hi : i < o.length := by omega
    refine Ev.step (fun k => by rw [bucket_Pass.l0]) ?_
    simp only [if_pos (show (i : Int) < o.length by omega), if_pos (show 0 ≤ (i : Int) by omega), rd_nat, wrap_nat hi (show o.length ≤ 140737488355328 by omega)]
    by_cases h1 : o.getD i 0 < 0
    · simp only [if_pos h1]
      rw [passR, if_neg (fun hq => by have := hq.2 _ (getD_mem hi); omega)]
      exact Ev.now _
    by_cases h2 : o.getD i 0 ≥ keys.length
    · simp only [if_neg h1, if_pos h2]
      rw [passR, if_neg (fun hq => by have := hq.2 _ (getD_mem hi); omega)]
      exact Ev.now _
    have hk := key_ok hok (x := o.getD i 0) (by omega) (by omega)
    obtain ⟨c, hc⟩ : ∃ c : Nat, keyOf keys (o.getD i 0) = c := ⟨(keyOf keys (o.getD i 0)).toNat, by omega⟩
    have e1 : rd keys (o.getD i 0) = (c : Int) := hc
    have h3 := h c (by omega)
    have hle : kcnt (keyOf keys) (o.take i) c ≤ o.length := Nat.le_trans kcnt_le (by rw [List.length_take]; omega)
    simp only [if_neg h1, if_neg h2, if_pos (show 0 ≤ o.getD i 0 by omega), if_pos (show o.getD i 0 < keys.length by omega), e1, if_pos (show (0 : Int) ≤ (c : Int) by omega), if_pos (show (c : Int) < l.length by omega), rd_nat, h3, Int.toNat_natCast]
    rw [wrap64_id (by omega) (by omega)]
    refine ih (i + 1) _ (by omega) (by rw [List.length_set, hl]) (fun c' hc' => ?_) (fun x hx => ?_)
    · rw [lset (by omega), kcnt_next hi, hc]
      by_cases e : c = c'
      · rw [if_pos e, if_pos (by omega), ← e]; rfl
      · rw [if_neg e, if_neg (by omega)]; exact h c' hc'
    · rw [take_next hi, List.mem_append, List.mem_singleton] at hx
      rcases hx with hx | hx
      · exact hr x hx
      · omega

theorem bucket_Pass_ev (o keys : List Int) (k : Int) (hn : o.length ≤ 35184372088832) (hm : keys.length ≤ 140737488355328) : Ev (fun j => bucket_Pass.f j o keys k) (passR o keys k) := by
  refine Ev.congr (fun k => by rw [bucket_Pass.f]) ?_
  refine Ev.bind (bucket_Counts_ev keys k hm) ?_
  by_cases hok : okKeys keys k
  · rw [countsR, if_pos hok]
    have h1 := hok.1
    have h2 := hok.2.1
    simp only [if_true, if_pos h1, if_pos (show k.toNat ≤ 35184372088832 by omega)]
    exact bucket_Pass_l0 o keys k hok hn o.length 0 _ (by omega) (by simp) (fun c hc => by rw [getD_replicate]; simp [kcnt]) (by simp)
  · rw [countsR, if_neg hok]
    simp only [if_neg (show ¬ false = true by decide)]
    rw [passR, if_neg (fun hq => hok hq.1)]
    exact Ev.now _


-- math: W Base Perm
def invR (a : List Int) : List Int × Bool := if isPerm a then (inv a, true) else ([], false)

theorem not_perm_out {a : List Int} {i : Nat} (hi : i < a.length) (h : a.getD i 0 < 0 ∨ (a.length : Int) ≤ a.getD i 0) : ¬ isPerm a := fun hp => by
  have := hp.1 _ (getD_mem hi)
  omega

theorem not_perm_twice {a : List Int} {i : Nat} (hi : i < a.length) (h : a.getD i 0 ∈ a.take i) : ¬ isPerm a := fun hp => by
  obtain ⟨j, hj, e⟩ := List.mem_iff_getElem.1 h
  rw [List.length_take] at hj
  rw [List.getElem_take] at e
  have e2 : a.getD j 0 = a.getD i 0 := by rw [← e, List.getD_eq_getElem?_getD, List.getElem?_eq_getElem (by omega)]; rfl
  have := getD_inj hp.2 (by omega) hi e2
  omega

theorem perm_full {a : List Int} {i : Nat} (hi : a.length ≤ i) (h1 : ∀ x ∈ a.take i, 0 ≤ x ∧ x < (a.length : Int)) (h2 : (a.take i).Nodup) : isPerm a := by
  rw [List.take_of_length_le hi] at h1 h2
  exact ⟨h1, h2⟩

theorem nodup_next {a : List Int} {i : Nat} (hi : i < a.length) (h2 : (a.take i).Nodup) (h : a.getD i 0 ∉ a.take i) : (a.take (i + 1)).Nodup := by
  rw [take_next hi, List.nodup_append]
  exact ⟨h2, by simp, fun x hx y hy => by rintro rfl; simp only [List.mem_singleton] at hy; subst hy; exact h hx⟩

theorem out_next {a out : List Int} {i : Nat} (hi : i < a.length) (hol : out.length = a.length) (hx0 : 0 ≤ a.getD i 0) (hx1 : a.getD i 0 < a.length) (hn : a.getD i 0 ∉ a.take i)
    (ho : ∀ v, v < a.length → (v : Int) ∈ a.take i → out.getD v 0 = ((a.idxOf (v : Int) : Nat) : Int)) :
    ∀ v, v < a.length → (v : Int) ∈ a.take (i + 1) → (out.set (a.getD i 0).toNat (i : Int)).getD v 0 = ((a.idxOf (v : Int) : Nat) : Int) := by
  intro v hv hm
  rw [lset (by omega)]
  by_cases e : (a.getD i 0).toNat = v
  · rw [if_pos e]
    have e2 : (v : Int) = a.getD i 0 := by omega
    have h1 : a.idxOf (v : Int) = i := by
      have hs : a = a.take i ++ (a.getD i 0 :: a.drop (i + 1)) := by
        conv => lhs; rw [← List.take_append_drop i a]
        rw [List.drop_eq_getElem_cons hi, List.getD_eq_getElem?_getD, List.getElem?_eq_getElem hi]; rfl
      rw [e2]
      conv => lhs; arg 2; rw [hs]
      rw [List.idxOf_append, if_neg hn, List.idxOf_cons_self, List.length_take]
      omega
    rw [h1]
  · rw [if_neg e]
    rw [take_next hi, List.mem_append, List.mem_singleton] at hm
    rcases hm with hm | hm
    · exact ho v hv hm
    · omega

theorem inv_done {a out : List Int} (hp : isPerm a) (hol : out.length = a.length) (ho : ∀ v, v < a.length → (v : Int) ∈ a → out.getD v 0 = ((a.idxOf (v : Int) : Nat) : Int)) : out = inv a := by
  refine ext_getD (by rw [hol, inv_length]) (fun v hv => ?_)
  rw [hol] at hv
  rw [inv_get hv, ho v hv (hp.mem (by omega) (by omega))]

theorem rank_Inverse_l0 (a : List Int) (hn : a.length ≤ 140737488355328) : ∀ (d i : Nat) (out : List Int) (seen : List Bool), i + d = a.length → out.length = a.length → seen.length = a.length →
    (∀ x ∈ a.take i, 0 ≤ x ∧ x < (a.length : Int)) → (a.take i).Nodup → (∀ v, v < a.length → seen.getD v false = decide ((v : Int) ∈ a.take i)) →
    (∀ v, v < a.length → (v : Int) ∈ a.take i → out.getD v 0 = ((a.idxOf (v : Int) : Nat) : Int)) → Ev (fun k => rank_Inverse.l0 k a out seen a (a.length : Int) (i : Int)) (invR a) := by
  intro d
  induction d with
  | zero =>
    intro i out seen hd hol hsl hr hnd hs ho
    have hp := perm_full (i := i) (by omega) hr hnd
    refine Ev.step (fun k => by rw [rank_Inverse.l0]) ?_
    simp only [if_neg (show ¬ (i : Int) < a.length by omega)]
    rw [invR, if_pos hp]
    rw [List.take_of_length_le (by omega)] at ho
    rw [inv_done hp hol ho]
    exact Ev.now _
  | succ d ih =>
    intro i out seen hd hol hsl hr hnd hs ho
    have hi : i < a.length := by omega
    refine Ev.step (fun k => by rw [rank_Inverse.l0]) ?_
    simp only [if_pos (show (i : Int) < a.length by omega), if_pos (show 0 ≤ (i : Int) by omega), rd_nat]
    by_cases h1 : a.getD i 0 < 0
    · simp only [if_pos h1]
      rw [invR, if_neg (not_perm_out hi (.inl h1))]
      exact Ev.now _
    simp only [if_neg h1]
    by_cases h2 : a.getD i 0 ≥ (a.length : Int)
    · simp only [if_pos h2]
      rw [invR, if_neg (not_perm_out hi (.inr h2))]
      exact Ev.now _
    have e : ((a.getD i 0).toNat : Int) = a.getD i 0 := by omega
    have h3 := hs (a.getD i 0).toNat (by omega)
    rw [e] at h3
    simp only [if_neg h2, if_pos (show 0 ≤ a.getD i 0 by omega), if_pos (show a.getD i 0 < (seen.length : Int) by omega), if_pos (show a.getD i 0 < (out.length : Int) by omega), rdOf, h3]
    by_cases h4 : a.getD i 0 ∈ a.take i
    · simp only [h4, decide_true, if_true]
      rw [invR, if_neg (not_perm_twice hi h4)]
      exact Ev.now _
    · simp only [h4, decide_false, if_neg (show ¬ false = true by decide), wrap_nat hi hn]
      refine ih (i + 1) _ _ (by omega) (by rw [List.length_set, hol]) (by rw [List.length_set, hsl]) (fun x hx => ?_) (nodup_next hi hnd h4) (fun v hv => ?_) (out_next hi hol (by omega) (by omega) h4 ho)
      · rw [take_next hi, List.mem_append, List.mem_singleton] at hx
        rcases hx with hx | hx
        · exact hr x hx
        · omega
      · rw [lset (by omega), take_next hi]
        by_cases e2 : (a.getD i 0).toNat = v
        · rw [if_pos e2]; symm; rw [decide_eq_true_eq, List.mem_append, List.mem_singleton]; right; omega
        · rw [if_neg e2, hs v hv]
          have : (v : Int) ≠ a.getD i 0 := by omega
          simp only [List.mem_append, List.mem_singleton, this, or_false]

theorem rank_Inverse_ev (a : List Int) (hn : a.length ≤ 35184372088832) : Ev (fun k => rank_Inverse.f k a) (invR a) := by
  refine Ev.congr (fun k => by rw [rank_Inverse.f]) ?_
  simp only [Int.toNat_natCast]
  simp only [if_pos (show 0 ≤ (a.length : Int) by omega), if_pos hn, if_pos (show a.length ≤ 281474976710656 by omega)]
  refine rank_Inverse_l0 a (by omega) a.length 0 _ _ (by omega) (by simp) (by simp) (by simp) (by simp) (fun v hv => ?_) (by simp)
  rw [getD_replicate]; simp


-- with: rank
theorem rank_Is_ev (a : List Int) (hn : a.length ≤ 35184372088832) : Ev (fun k => rank_Is.f k a) (decide (isPerm a)) := by
  refine Ev.congr (fun k => by rw [rank_Is.f]) ?_
  refine Ev.bind (rank_Inverse_ev a hn) ?_
  by_cases h : isPerm a
  · simp only [invR, h, if_true, decide_true]; exact Ev.now _
  · simp only [invR, h, if_false, decide_false]; exact Ev.now _


-- math: W Base Perm Stab Cyc Kinds
-- with: bucket rank rank_Is
def byK (l : List Int) (x y : Int) : Prop := keyOf l x < keyOf l y ∨ (keyOf l x = keyOf l y ∧ x < y)

instance (l : List Int) : DecidableRel (byK l) := fun x y => by unfold byK; infer_instance

/-- the bytes in order -/
def lfS (l : List Int) : List Int := stab (keyOf l) (iota l.length) 256

def isB (l : List Int) : Prop := ∀ x ∈ l, 0 ≤ x ∧ x ≤ 255

theorem lfS_key {l : List Int} (hb : isB l) : ∀ x ∈ iota l.length, 0 ≤ keyOf l x ∧ keyOf l x < ((256 : Nat) : Int) := fun x hx => by
  rw [iota_mem] at hx
  have := hb _ (getD_mem (a := l) (i := x.toNat) (by omega))
  unfold keyOf; omega

theorem lfS_length {l : List Int} (hb : isB l) : (lfS l).length = l.length := by unfold lfS; rw [stab_all (lfS_key hb), iota_length]

theorem lfS_pw (l : List Int) : (lfS l).Pairwise (byK l) := stab_pairwise (iota_rises _) _

theorem lfS_perm {l : List Int} (hb : isB l) : isPerm (lfS l) := ⟨fun x hx => by
    rw [lfS_length hb]
    have := (stab_mem.1 hx).1; rw [iota_mem] at this; exact this, by
    refine List.Pairwise.imp (fun {x y} h => ?_) (lfS_pw l)
    rintro rfl
    unfold byK at h
    omega⟩

def lfOf (l : List Int) : List Int := inv (lfS l)

theorem lfOf_length {l : List Int} (hb : isB l) : (lfOf l).length = l.length := by unfold lfOf; rw [inv_length, lfS_length hb]

theorem lf_Of_l0 (l : List Int) (hn : l.length ≤ 35184372088832) (hb : isB l) : ∀ (d i : Nat) (o ks : List Int), i + d = l.length → o.length = l.length → ks.length = l.length → (∀ j, j < i → o.getD j 0 = j) → (∀ j, j < i → ks.getD j 0 = l.getD j 0) →
    Ev (fun k => lf_Of.l0 k o ks l (l.length : Int) (i : Int)) (lfOf l) := by
  intro d
  induction d with
  | zero =>
    intro i o ks hd ho hk h1 h2
    have eo : o = iota l.length := ext_getD (by rw [ho, iota_length]) (fun j hj => by
      rw [h1 j (by omega)]
      unfold iota
      rw [List.getD_eq_getElem?_getD, List.getElem?_map, List.getElem?_range (by omega)]; rfl)
    have ek : ks = l := ext_getD hk (fun j hj => h2 j (by omega))
    subst eo
    subst ek
    refine Ev.step (fun k => by rw [lf_Of.l0]) ?_
    simp only [if_neg (show ¬ (i : Int) < ks.length by omega)]
    refine Ev.bind (bucket_Pass_ev _ _ _ (by rw [iota_length]; omega) (by omega)) ?_
    have ok : okPass (iota ks.length) ks 256 := ⟨⟨by decide, by decide, fun x hx => by have := hb x hx; omega⟩, fun x hx => by rw [iota_mem] at hx; omega⟩
    rw [passR, if_pos ok]
    have e : stab (keyOf ks) (iota ks.length) (256 : Int).toNat = lfS ks := rfl
    rw [e]
    refine Ev.bind (rank_Inverse_ev (lfS ks) (by rw [lfS_length hb]; omega)) ?_
    rw [invR, if_pos (lfS_perm hb)]
    simp only
    rw [← lfOf]
    exact Ev.now (lfOf ks)
  | succ d ih =>
    intro i o ks hd ho hk h1 h2
    have hi : i < l.length := by omega
    have hm := hb _ (getD_mem hi)
    refine Ev.step (fun k => by rw [lf_Of.l0]) ?_
    rw [rd_nat, wrap64_id (x := l.getD i 0) (by omega) (by omega)]
    simp only [if_pos (show (i : Int) < l.length by omega), if_pos (show 0 ≤ (i : Int) by omega), if_pos (show (i : Int) < o.length by omega), if_pos (show (i : Int) < ks.length by omega), wrap_nat hi (show l.length ≤ 140737488355328 by omega), Int.toNat_natCast]
    refine ih (i + 1) _ _ (by omega) (by rw [List.length_set, ho]) (by rw [List.length_set, hk]) (fun j hj => ?_) (fun j hj => ?_)
    · rw [lset (by omega)]
      by_cases e : i = j
      · rw [if_pos e, e]
      · rw [if_neg e]; exact h1 j (by omega)
    · rw [lset (by omega)]
      by_cases e : i = j
      · rw [if_pos e, e]
      · rw [if_neg e]; exact h2 j (by omega)

theorem lf_Of_ev (l : List Int) (hn : l.length ≤ 35184372088832) (hb : isB l) : Ev (fun k => lf_Of.f k l) (lfOf l) := by
  refine Ev.congr (fun k => by rw [lf_Of.f]) ?_
  simp only [Int.toNat_natCast]
  simp only [if_pos (show 0 ≤ (l.length : Int) by omega), if_pos hn]
  exact lf_Of_l0 l hn hb l.length 0 _ _ (by omega) (by simp) (by simp) (fun j hj => by omega) (fun j hj => by omega)

/-- places by what comes ahead -/
theorem lfOf_lt {l : List Int} (hb : isB l) {i k : Nat} (hi : i < l.length) (hk : k < l.length) : (lfOf l).getD i 0 < (lfOf l).getD k 0 ↔ byK l i k := by
  have hp := lfS_perm hb
  have hl := lfS_length hb
  have fwd : ∀ {u v : Nat}, u < l.length → v < l.length → (lfOf l).getD u 0 < (lfOf l).getD v 0 → byK l u v := fun {u v} hu hv h => by
    have h1 := at_inv hp (v := u) (by omega)
    have h2 := at_inv hp (v := v) (by omega)
    unfold lfOf at h
    have := pair_getD (lfS_pw l) (i := ((inv (lfS l)).getD u 0).toNat) (j := ((inv (lfS l)).getD v 0).toNat) (by omega) (by omega)
    rwa [h1.1, h2.1] at this
  constructor
  · exact fwd hi hk
  · intro h
    rcases Int.lt_trichotomy ((lfOf l).getD i 0) ((lfOf l).getD k 0) with c | c | c
    · exact c
    · exfalso
      have h1 := at_inv hp (v := i) (by omega)
      have h2 := at_inv hp (v := k) (by omega)
      unfold lfOf at c
      rw [c, h2.1] at h1
      have : k = i := by have := h1.1; omega
      subst this
      unfold byK at h; omega
    · exfalso
      have := fwd hk hi c
      unfold byK at h this; omega

theorem lfOf_count {l : List Int} (hb : isB l) {i : Nat} (hi : i < l.length) : (lfOf l).getD i 0 = (((iota l.length).filter (fun x => decide (byK l x i))).length : Int) := by
  have hp := lfS_perm hb
  have hl := lfS_length hb
  have h1 := at_inv hp (v := i) (by omega)
  have h2 := place_count (R := byK l) (fun x h => by unfold byK at h; omega) (fun x y h k => by unfold byK at h k; omega) (a := lfS l) (j := ((inv (lfS l)).getD i 0).toNat) (lfS_pw l) (by omega)
  rw [h1.1] at h2
  have h3 : ((lfS l).filter (fun x => decide (byK l x i))).length = ((iota l.length).filter (fun x => decide (byK l x i))).length := (List.Perm.filter _ (stab_perm (lfS_key hb))).length_eq
  unfold lfOf
  omega

-- cycles
def cycR (p : List Int) : List (List Int) × Bool := if isPerm p then (cycOf p, true) else ([], false)

theorem lf_Cycles_l1 (p : List Int) (hn : p.length ≤ 5864062014804) (hp : isPerm p) (out : List (List Int)) (ho : out.length ≤ p.length) (i : Nat) (hi : i < p.length) (R : List (List Int) × Bool) : ∀ (f : Nat) (seen : List Bool) (k : Int) (acc : List Int),
    seen.length = p.length → unseen seen < f → 0 ≤ k → k < p.length → acc.length + unseen seen ≤ p.length →
    Ev (fun j => lf_Cycles.l0 j p (ringF p f seen k acc).1 (if (ringF p f seen k acc).2.length > 0 then out ++ [(ringF p f seen k acc).2] else out) (p.length : Int) ((i + 1 : Nat) : Int)) R →
    Ev (fun j => lf_Cycles.l1 j p seen out acc k (p.length : Int) (i : Int)) R := by
  intro f
  induction f with
  | zero => intro seen k acc _ h; omega
  | succ f ih =>
    intro seen k acc hs hf h0 h1 ha hK
    obtain ⟨m, rfl⟩ : ∃ m : Nat, k = m := ⟨k.toNat, by omega⟩
    refine Ev.step (fun j => by rw [lf_Cycles.l1]) ?_
    simp only [if_pos (show 0 ≤ (m : Int) by omega), if_pos (show (m : Int) < seen.length by omega), rdB_nat, wrap_nat hi (show p.length ≤ 140737488355328 by omega)]
    by_cases hse : seen.getD m false = true
    · rw [ringF, Int.toNat_natCast, if_pos hse] at hK
      simp only [hse, if_true]
      by_cases hl : acc.length > 0
      · simp only [if_pos (show (acc.length : Int) > 0 by omega), if_pos (show out.length < 5864062014805 by omega)]
        rw [if_pos hl] at hK
        exact hK
      · simp only [if_neg (show ¬ (acc.length : Int) > 0 by omega)]
        rw [if_neg hl] at hK
        exact hK
    · have hse' : seen.getD m false = false := by simpa using hse
      have hcs := unseen_set (seen := seen) (k := m) (by omega) hse'
      have hpk := hp.1 _ (getD_mem (a := p) (i := m) (by omega))
      rw [ringF, Int.toNat_natCast, if_neg hse] at hK
      simp only [hse', if_neg (show ¬ false = true by decide), if_pos (show acc.length < 17592186044416 by omega), if_pos (show (m : Int) < p.length by omega), rd_nat, Int.toNat_natCast]
      exact ih _ _ _ (by rw [List.length_set, hs]) (by omega) hpk.1 hpk.2 (by rw [List.length_append, List.length_singleton]; omega) hK

theorem ringF_len {p : List Int} (hp : isPerm p) : ∀ (f : Nat) (seen : List Bool) (k : Int) (acc : List Int), seen.length = p.length → 0 ≤ k → k < p.length → (ringF p f seen k acc).1.length = p.length := by
  intro f
  induction f with
  | zero => intro seen k acc hs _ _; exact hs
  | succ f ih =>
    intro seen k acc hs h0 h1
    rw [ringF]
    by_cases h : seen.getD k.toNat false = true
    · rw [if_pos h]; exact hs
    · rw [if_neg h]
      have hpk := hp.1 _ (getD_mem (a := p) (i := k.toNat) (by omega))
      exact ih _ _ _ (by rw [List.length_set, hs]) hpk.1 hpk.2

theorem lf_Cycles_l0 (p : List Int) (hn : p.length ≤ 5864062014804) (hp : isPerm p) : ∀ (d i : Nat) (seen : List Bool) (out : List (List Int)), i + d = p.length → seen.length = p.length → out.length ≤ i →
    Ev (fun j => lf_Cycles.l0 j p seen out (p.length : Int) (i : Int)) (ringsF p d i seen out, true) := by
  intro d
  induction d with
  | zero =>
    intro i seen out hd hs ho
    refine Ev.step (fun k => by rw [lf_Cycles.l0]) ?_
    simp only [if_neg (show ¬ (i : Int) < p.length by omega)]
    exact Ev.now _
  | succ d ih =>
    intro i seen out hd hs ho
    have hi : i < p.length := by omega
    have := unseen_le seen
    refine Ev.step (fun k => by rw [lf_Cycles.l0]) ?_
    simp only [if_pos (show (i : Int) < p.length by omega)]
    refine lf_Cycles_l1 p hn hp out (by omega) i hi _ (p.length + 1) seen i [] hs (by omega) (by omega) (by omega) (by simp; omega) ?_
    refine ih (i + 1) _ _ (by omega) (ringF_len hp _ _ _ _ hs (by omega) (by omega)) ?_
    split
    · rw [List.length_append, List.length_singleton]; omega
    · omega

theorem lf_Cycles_ev (p : List Int) (hn : p.length ≤ 5864062014804) : Ev (fun j => lf_Cycles.f j p) (cycR p) := by
  refine Ev.congr (fun k => by rw [lf_Cycles.f]) ?_
  refine Ev.bind (rank_Is_ev p (by omega)) ?_
  by_cases hp : isPerm p
  · simp only [hp, decide_true, if_true, Int.toNat_natCast]
    simp only [if_pos (show 0 ≤ (p.length : Int) by omega), if_pos (show p.length ≤ 281474976710656 by omega)]
    rw [cycR, if_pos hp]
    exact lf_Cycles_l0 p hn hp p.length 0 _ [] (by omega) (by simp) (by simp)
  · simp only [hp, decide_false, if_neg (show ¬ false = true by decide)]
    rw [cycR, if_neg hp]
    exact Ev.now _


-- math: W Base Perm
theorem ref4_Ints_l0 (a b : List Int) (hl : a.length = b.length) (hn : a.length ≤ 140737488355328) : ∀ (d i : Nat), i + d = a.length → (∀ j, j < i → a.getD j 0 = b.getD j 0) → Ev (fun k => whorlref4_Ints.l0 k a b (i : Int)) (decide (a = b)) := by
  intro d
  induction d with
  | zero =>
    intro i hd h
    refine Ev.step (fun k => by rw [whorlref4_Ints.l0]) ?_
    simp only [if_neg (show ¬ (i : Int) < a.length by omega)]
    rw [decide_eq_true (ext_getD hl (fun j hj => h j (by omega)))]
    exact Ev.now _
  | succ d ih =>
    intro i hd h
    have hi : i < a.length := by omega
    refine Ev.step (fun k => by rw [whorlref4_Ints.l0]) ?_
    simp only [if_pos (show (i : Int) < a.length by omega), if_pos (show 0 ≤ (i : Int) by omega), if_pos (show (i : Int) < b.length by omega), rd_nat, wrap_nat hi hn]
    by_cases e : a.getD i 0 = b.getD i 0
    · simp only [if_pos e]
      refine ih (i + 1) (by omega) (fun j hj => ?_)
      by_cases e2 : j = i
      · rw [e2]; exact e
      · exact h j (by omega)
    · simp only [if_neg e]
      rw [decide_eq_false (fun hab => e (by rw [hab]))]
      exact Ev.now _

theorem ref4_Ints_ev (a b : List Int) (hn : a.length ≤ 140737488355328) : Ev (fun k => whorlref4_Ints.f k a b) (decide (a = b)) := by
  refine Ev.congr (fun k => by rw [whorlref4_Ints.f]) ?_
  by_cases e : a.length = b.length
  · simp only [if_pos (show (a.length : Int) = b.length by omega)]
    exact ref4_Ints_l0 a b e hn a.length 0 (by omega) (fun j hj => by omega)
  · simp only [if_neg (show ¬ (a.length : Int) = b.length by omega)]
    rw [decide_eq_false (fun hab => e (by rw [hab]))]
    exact Ev.now _

-- with: lf ref4_Ints
theorem known_ev : Ev (fun k => whorllaw22_known.f k) true := Ev.of (whorllaw22_known.mono) (k := 400) (by decide +kernel)

theorem cyc_len {p : List Int} (hp : isPerm p) : (cycOf p).length ≤ p.length ∧ ∀ c ∈ cycOf p, c.length ≤ p.length := by
  obtain ⟨h1, h2⟩ := cyc_spec hp
  have key : ∀ l : List (List Int), (∀ c ∈ l, c ≠ []) → l.length ≤ (l.map List.length).sum ∧ ∀ c ∈ l, c.length ≤ (l.map List.length).sum := by
    intro l
    induction l with
    | nil => intro _; simp
    | cons x t ih =>
      intro h
      have := ih (fun c hc => h c (List.mem_cons_of_mem _ hc))
      have hx := List.length_pos_iff.2 (h x (by simp))
      simp only [List.map_cons, List.sum_cons, List.length_cons]
      refine ⟨by omega, fun c hc => ?_⟩
      rcases List.mem_cons.1 hc with rfl | hc
      · omega
      · have := this.2 c hc; omega
  have := key (cycOf p) (fun c hc => (h1.1 c hc).1.1)
  rw [h2] at this
  exact this


-- with: rank
-- the document's
theorem ref16_l1 (a : List Int) (hn : a.length ≤ 140737488355328) : ∀ (d i : Nat) (out : List Int), i + d = a.length → out.length = a.length →
    (∀ x ∈ a.take i, 0 ≤ x ∧ x < (a.length : Int)) → (a.take i).Nodup → (∀ v, v < a.length → (v : Int) ∉ a.take i → out.getD v 0 = -1) →
    (∀ v, v < a.length → (v : Int) ∈ a.take i → out.getD v 0 = ((a.idxOf (v : Int) : Nat) : Int)) → Ev (fun k => whorlref16_Inverse.l1 k a out (i : Int)) (invR a) := by
  intro d
  induction d with
  | zero =>
    intro i out hd hol hr hnd hs ho
    have hp := perm_full (i := i) (by omega) hr hnd
    refine Ev.step (fun k => by rw [whorlref16_Inverse.l1]) ?_
    simp only [if_neg (show ¬ (i : Int) < a.length by omega)]
    rw [invR, if_pos hp]
    rw [List.take_of_length_le (by omega)] at ho
    rw [inv_done hp hol ho]
    exact Ev.now _
  | succ d ih =>
    intro i out hd hol hr hnd hs ho
    have hi : i < a.length := by omega
    refine Ev.step (fun k => by rw [whorlref16_Inverse.l1]) ?_
    simp only [if_pos (show (i : Int) < a.length by omega), if_pos (show 0 ≤ (i : Int) by omega), rd_nat]
    by_cases h1 : a.getD i 0 < 0
    · simp only [if_pos h1]
      rw [invR, if_neg (not_perm_out hi (.inl h1))]
      exact Ev.now _
    simp only [if_neg h1]
    by_cases h2 : a.getD i 0 ≥ (a.length : Int)
    · simp only [if_pos h2]
      rw [invR, if_neg (not_perm_out hi (.inr h2))]
      exact Ev.now _
    have e : ((a.getD i 0).toNat : Int) = a.getD i 0 := by omega
    have h3 := hs (a.getD i 0).toNat (by omega)
    have h5 := ho (a.getD i 0).toNat (by omega)
    rw [e] at h3 h5
    simp only [if_neg h2, if_pos (show 0 ≤ a.getD i 0 by omega), if_pos (show a.getD i 0 < (out.length : Int) by omega), rd]
    by_cases h4 : a.getD i 0 ∈ a.take i
    · simp only [h5 h4, if_pos (show ((a.idxOf (a.getD i 0) : Nat) : Int) ≥ 0 by omega)]
      rw [invR, if_neg (not_perm_twice hi h4)]
      exact Ev.now _
    · simp only [h3 h4, if_neg (show ¬ (-1 : Int) ≥ 0 by decide), wrap_nat hi hn]
      refine ih (i + 1) _ (by omega) (by rw [List.length_set, hol]) (fun x hx => ?_) (nodup_next hi hnd h4) (fun v hv hm => ?_) (out_next hi hol (by omega) (by omega) h4 ho)
      · rw [take_next hi, List.mem_append, List.mem_singleton] at hx
        rcases hx with hx | hx
        · exact hr x hx
        · omega
      · rw [take_next hi, List.mem_append, List.mem_singleton, not_or] at hm
        rw [lset_ne (by omega)]
        exact hs v hv hm.1

theorem ref16_l0 (a : List Int) (hn : a.length ≤ 140737488355328) : ∀ (d i : Nat) (out : List Int), i + d = a.length → out.length = a.length → (∀ v, v < i → out.getD v 0 = -1) →
    Ev (fun k => whorlref16_Inverse.l0 k a out (i : Int)) (invR a) := by
  intro d
  induction d with
  | zero =>
    intro i out hd hol ho
    refine Ev.step (fun k => by rw [whorlref16_Inverse.l0]) ?_
    simp only [if_neg (show ¬ (i : Int) < a.length by omega)]
    exact ref16_l1 a hn a.length 0 out (by omega) hol (by simp) (by simp) (fun v hv _ => ho v (by omega)) (by simp)
  | succ d ih =>
    intro i out hd hol ho
    have hi : i < a.length := by omega
    refine Ev.step (fun k => by rw [whorlref16_Inverse.l0]) ?_
    simp only [if_pos (show (i : Int) < a.length by omega), if_pos (show 0 ≤ (i : Int) by omega), if_pos (show (i : Int) < out.length by omega), wrap_nat hi hn, Int.toNat_natCast]
    refine ih (i + 1) _ (by omega) (by rw [List.length_set, hol]) (fun v hv => ?_)
    rw [lset (by omega)]
    by_cases e : i = v
    · rw [if_pos e]
    · rw [if_neg e]; exact ho v (by omega)

theorem ref16_Inverse_ev (a : List Int) (hn : a.length ≤ 35184372088832) : Ev (fun k => whorlref16_Inverse.f k a) (invR a) := by
  refine Ev.congr (fun k => by rw [whorlref16_Inverse.f]) ?_
  simp only [Int.toNat_natCast]
  simp only [if_pos (show 0 ≤ (a.length : Int) by omega), if_pos hn]
  exact ref16_l0 a (by omega) a.length 0 _ (by omega) (by simp) (fun v hv => by omega)

-- with: rank ref16_Inv
theorem ref16_Is_ev (a : List Int) (hn : a.length ≤ 35184372088832) : Ev (fun k => whorlref16_Is.f k a) (decide (isPerm a)) := by
  refine Ev.congr (fun k => by rw [whorlref16_Is.f]) ?_
  refine Ev.bind (ref16_Inverse_ev a hn) ?_
  by_cases h : isPerm a
  · simp only [invR, h, if_true, decide_true]; exact Ev.now _
  · simp only [invR, h, if_false, decide_false]; exact Ev.now _


-- fn: known22 ref16_Is
theorem getDL {l : List (List Int)} {i : Nat} (h : i < l.length) : l.getD i [] ∈ l := by
  rw [List.getD_eq_getElem?_getD, List.getElem?_eq_getElem h]; exact List.getElem_mem h

theorem whole_l1 (p : List Int) (hn : p.length ≤ 150) (C : List (List Int)) (i : Nat) (hi : i < C.length) (hr : isRing p (C.getD i [])) (hmin : ∀ x ∈ C.getD i [], (C.getD i []).getD 0 0 ≤ x) (hlen : (C.getD i []).length ≤ p.length) (hC : C.length ≤ p.length)
    (K : Ev (fun k => whorllaw22_LfWhole.l0 k p C ((C.getD i []).getD 0 0) ((i + 1 : Nat) : Int)) true) : ∀ (d j : Nat), j + d = (C.getD i []).length → Ev (fun k => whorllaw22_LfWhole.l1 k p C ((C.getD i []).getD 0 0) (i : Int) ((C.getD i []).length : Int) (j : Int)) true := by
  have e : rd_L2 C (i : Int) = C.getD i [] := by simp [rd_L2]
  intro d
  induction d with
  | zero =>
    intro j hd
    refine Ev.step (fun k => by rw [whorllaw22_LfWhole.l1]) ?_
    simp only [if_neg (show ¬ (j : Int) < (C.getD i []).length by omega), wrap_nat hi (show C.length ≤ 140737488355328 by omega)]
    exact K
  | succ d ih =>
    intro j hd
    have hj : j < (C.getD i []).length := by omega
    have hm := getD_mem hj
    have hx := hr.2.2.1 _ hm
    have hx0 := hmin _ hm
    have hnx := hr.2.2.2 j hj
    have hmod : Int.tmod ((j + 1 : Nat) : Int) ((C.getD i []).length : Int) = (((j + 1) % (C.getD i []).length : Nat) : Int) := by
      rw [Int.tmod_eq_emod_of_nonneg (by omega)]; omega
    have hml := Nat.mod_lt (j + 1) (show 0 < (C.getD i []).length by omega)
    have e2 : rd p ((C.getD i []).getD j 0) = p.getD ((C.getD i []).getD j 0).toNat 0 := rfl
    refine Ev.step (fun k => by rw [whorllaw22_LfWhole.l1]) ?_
    simp only [wrap_nat hj (show (C.getD i []).length ≤ 140737488355328 by omega), e, rd_nat, hmod, e2, hnx]
    simp only [if_pos (show (j : Int) < (C.getD i []).length by omega), if_pos (show 0 ≤ (i : Int) by omega), if_pos (show (i : Int) < C.length by omega), if_pos (show 0 ≤ (j : Int) by omega), if_neg (show ¬ (C.getD i []).getD j 0 < (C.getD i []).getD 0 0 by omega), if_neg (show ¬ (C.getD i []).getD j 0 ≥ p.length by omega), if_pos hx.1, if_pos hx.2,
      if_neg (show ¬ ((C.getD i []).length : Int) = 0 by omega), if_pos (show (0 : Int) ≤ (((j + 1) % (C.getD i []).length : Nat) : Int) by omega), if_pos (show (((j + 1) % (C.getD i []).length : Nat) : Int) < (C.getD i []).length by omega), if_true]
    exact ih (j + 1) (by omega)

theorem whole_l0 (p : List Int) (hn : p.length ≤ 150) (hp : isPerm p) : ∀ (d i : Nat) (last : Int), i + d = (cycOf p).length → (∀ h : i < (cycOf p).length, last < ((cycOf p).getD i []).getD 0 0) → Ev (fun k => whorllaw22_LfWhole.l0 k p (cycOf p) last (i : Int)) true := by
  have hc := cyc_len hp
  have hs := (cyc_spec hp).1
  intro d
  induction d with
  | zero =>
    intro i last hd _
    refine Ev.step (fun k => by rw [whorllaw22_LfWhole.l0]) ?_
    simp only [if_neg (show ¬ (i : Int) < (cycOf p).length by omega)]
    exact Ev.bind known_ev (Ev.now _)
  | succ d ih =>
    intro i last hd hlast
    have hi : i < (cycOf p).length := by omega
    have hl := hlast hi
    have hg := hs.1 _ (getDL hi)
    have hpos := List.length_pos_iff.2 hg.1.1
    have e : rd_L2 (cycOf p) (i : Int) = (cycOf p).getD i [] := by simp [rd_L2]
    have e0 : rd ((cycOf p).getD i []) 0 = ((cycOf p).getD i []).getD 0 0 := rd_nat _ 0
    refine Ev.step (fun k => by rw [whorllaw22_LfWhole.l0]) ?_
    simp only [e, e0]
    simp only [if_pos (show (i : Int) < (cycOf p).length by omega), if_pos (show 0 ≤ (i : Int) by omega), if_neg (show ¬ (((cycOf p).getD i []).length : Int) = 0 by omega), if_pos (show (0 : Int) < ((cycOf p).getD i []).length by omega), decide_eq_false (show ¬ ((cycOf p).getD i []).getD 0 0 ≤ last by omega)]
    refine Ev.step (fun k => by rw [whorllaw22_LfWhole.j2]) ?_
    simp only [e, e0]
    simp only [if_neg (show ¬ false = true by decide), if_pos (show (i : Int) < (cycOf p).length by omega), if_pos (show 0 ≤ (i : Int) by omega), if_pos (show (0 : Int) < ((cycOf p).getD i []).length by omega)]
    refine whole_l1 p hn (cycOf p) i hi hg.1 hg.2.2 (hc.2 _ (getDL hi)) hc.1 ?_ ((cycOf p).getD i []).length 0 (by omega)
    refine ih (i + 1) _ (by omega) (fun h => ?_)
    have := List.pairwise_iff_getElem.1 hs.2 i (i + 1) hi h (by omega)
    simpa only [List.getD_eq_getElem?_getD, List.getElem?_eq_getElem hi, List.getElem?_eq_getElem h, Option.getD_some] using this

theorem LfWhole : whorllaw22_LfWhole.Pure := by
  intro p h1 h2 h3
  refine Ev.rounds ?_
  have hg : Ev (fun j => whorllaw22_LfWhole.j0 j p true) true := Ev.step (fun k => by rw [whorllaw22_LfWhole.j0]) (by simp only [if_true]; exact Ev.now _)
  refine Ev.congr (fun k => by rw [whorllaw22_LfWhole.f]) ?_
  by_cases g1 : (p.length : Int) > 150
  · simp only [if_pos g1]; exact hg
  simp only [if_neg g1]
  refine Ev.bind (ref16_Is_ev p (by omega)) ?_
  by_cases hp : isPerm p
  · simp only [hp, decide_true, Bool.not_true]
    refine Ev.step (fun k => by rw [whorllaw22_LfWhole.j0]) ?_
    simp only [if_neg (show ¬ false = true by decide)]
    refine Ev.bind (lf_Cycles_ev p (by omega)) ?_
    rw [cycR, if_pos hp]
    simp only [if_true]
    refine whole_l0 p (by omega) hp (cycOf p).length 0 (-1) (by omega) (fun h => ?_)
    have hgd := (cyc_spec hp).1.1 _ (getDL h)
    have := hgd.1.2.2.1 _ (getD_mem (List.length_pos_iff.2 hgd.1.1))
    omega
  · simp only [hp, decide_false, Bool.not_false]
    exact hg

end Go.Proofs.Ythdmoeckoblpdaa.Pure
