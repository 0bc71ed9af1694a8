/- SkewRuns: what the statement SkewRuns says of the printed functions, proved for every input that its guards let in. Conditions: none beside the statement's own. -/
import Derived.Test.YtomnhkliimkmgaaHSkewRunsx9
import Derived.Test.YtomnhkliimkmgaaMSkewRuns
set_option linter.unusedVariables false
set_option linter.unusedSimpArgs false
namespace Go.Proofs.Ytomnhkliimkmgaa.Pure
open Go Go.RowKit Go.Proofs.Ytomnhkliimkmgaa.PSkewRuns Go.Proofs.YtomnhkliimkmgaaW.PrintWords Go.Proofs.YtomnhkliimkmgaaW.PrintLast Go.Proofs.Ytomnhkliimkmgaa.MM

-- math: W Base Perm Stab
def okKeys (keys : List Int) (k : Int) : Prop := 0 ≤ k ∧ k ≤ 1048576 ∧ ∀ x ∈ keys, 0 ≤ x ∧ x < k

instance (keys : List Int) (k : Int) : Decidable (okKeys keys k) := by unfold okKeys; infer_instance

def countsR (keys : List Int) (k : Int) : List Int × Bool := if okKeys keys k then (cntsOf id keys k.toNat, true) else ([], false)

theorem bucket_Counts_l0 (keys : List Int) (k : Int) (h0 : 0 ≤ k) (hk : k ≤ 1048576) (hn : keys.length ≤ 140737488355328) : ∀ (d i : Nat) (l : List Int), i + d = keys.length → l.length = k.toNat → (∀ c, c < k.toNat → l.getD c 0 = (kcnt id (keys.take i) c : Int)) →
    (∀ x ∈ keys.take i, 0 ≤ x ∧ x < k) → Ev (fun j => bucket_Counts.l0 j k l keys (keys.length : Int) (i : Int)) (countsR keys k) := by
  intro d
  induction d with
  | zero =>
    intro i l hd hl h hr
    refine Ev.step (fun k => by rw [bucket_Counts.l0]) ?_
    rw [List.take_of_length_le (by omega)] at h hr
    simp only [if_neg (show ¬ (i : Int) < keys.length by omega)]
    rw [countsR, if_pos ⟨h0, hk, hr⟩, ext_getD (a := l) (b := cntsOf id keys k.toNat) (by rw [hl, cntsOf_length]) (fun c hc => by rw [cntsOf_get (by omega), h c (by omega)])]
    exact Ev.now _
  | succ d ih =>
    intro i l hd hl h hr
    have hi : i < keys.length := by omega
    refine Ev.step (fun k => by rw [bucket_Counts.l0]) ?_
    simp only [if_pos (show (i : Int) < keys.length by omega), if_pos (show 0 ≤ (i : Int) by omega), rd_nat, wrap_nat hi hn]
    by_cases h1 : keys.getD i 0 < 0
    · simp only [if_pos h1]
      rw [countsR, if_neg (fun hq => by have := hq.2.2 _ (getD_mem hi); omega)]
      exact Ev.now _
    by_cases h2 : keys.getD i 0 ≥ k
    · simp only [if_neg h1, if_pos h2]
      rw [countsR, if_neg (fun hq => by have := hq.2.2 _ (getD_mem hi); omega)]
      exact Ev.now _
    have h3 := h (keys.getD i 0).toNat (by omega)
    have hle : kcnt id (keys.take i) (keys.getD i 0).toNat ≤ keys.length := Nat.le_trans kcnt_le (by rw [List.length_take]; omega)
    simp only [if_neg h1, if_neg h2, if_pos (show 0 ≤ keys.getD i 0 by omega), if_pos (show keys.getD i 0 < l.length by omega), rd, h3]
    rw [wrap64_id (by omega) (by omega)]
    refine ih (i + 1) _ (by omega) (by rw [List.length_set, hl]) (fun c hc => ?_) (fun x hx => ?_)
    · rw [lset (by omega), kcnt_next hi, id]
      by_cases e : (keys.getD i 0).toNat = c
      · rw [if_pos e, if_pos (by omega), ← e]; rfl
      · rw [if_neg e, if_neg (by omega)]; exact h c hc
    · rw [take_next hi, List.mem_append, List.mem_singleton] at hx
      rcases hx with hx | hx
      · exact hr x hx
      · omega

theorem bucket_Counts_ev (keys : List Int) (k : Int) (hn : keys.length ≤ 140737488355328) : Ev (fun j => bucket_Counts.f j keys k) (countsR keys k) := by
  have hno : ¬ (0 ≤ k ∧ k ≤ 1048576) → Ev (fun j => bucket_Counts.j0 j keys k true) (countsR keys k) := fun hno => by
    rw [countsR, if_neg (fun hq => hno ⟨hq.1, hq.2.1⟩)]
    refine Ev.step (fun k => by rw [bucket_Counts.j0]) ?_
    simp only [if_true]
    exact Ev.now _
  refine Ev.congr (fun k => by rw [bucket_Counts.f]) ?_
  by_cases h1 : k < 0
  · simp only [if_pos h1]; exact hno (by omega)
  by_cases h2 : k > 1048576
  · simp only [if_neg h1, h2, decide_true]; exact hno (by omega)
  simp only [if_neg h1, h2, decide_false]
  refine Ev.step (fun k => by rw [bucket_Counts.j0]) ?_
  simp only [if_neg (show ¬ false = true by decide), if_pos (show 0 ≤ k by omega), if_pos (show k.toNat ≤ 35184372088832 by omega)]
  exact bucket_Counts_l0 keys k (by omega) (by omega) hn keys.length 0 _ (by omega) (by simp) (fun c hc => by rw [getD_replicate]; simp [kcnt]) (by simp)

def sumsOk (l : List Int) : Prop := ∀ i, i ≤ l.length → -9223372036854775808 ≤ (l.take i).sum ∧ (l.take i).sum < 9223372036854775808

theorem bucket_Starts_l0 (c : List Int) (hn : c.length ≤ 140737488355328) (hs : sumsOk c) : ∀ (d i : Nat) (l : List Int), i + d = c.length → l.length = c.length → (∀ j, j < i → l.getD j 0 = (c.take j).sum) →
    Ev (fun j => bucket_Starts.l0 j l (c.take i).sum c (c.length : Int) (i : Int)) (startsOf c) := by
  intro d
  induction d with
  | zero =>
    intro i l hd hl h
    refine Ev.step (fun k => by rw [bucket_Starts.l0]) ?_
    simp only [if_neg (show ¬ (i : Int) < c.length by omega)]
    rw [ext_getD (a := l) (b := startsOf c) (by rw [hl, startsOf_length]) (fun j hj => by rw [startsOf_get (by omega), h j (by omega)])]
    exact Ev.now _
  | succ d ih =>
    intro i l hd hl h
    have hi : i < c.length := by omega
    refine Ev.step (fun k => by rw [bucket_Starts.l0]) ?_
    have hw := hs (i + 1) (by omega)
    rw [sum_next hi] at hw
    simp only [if_pos (show (i : Int) < c.length by omega), if_pos (show 0 ≤ (i : Int) by omega), if_pos (show (i : Int) < l.length by omega), rd_nat, wrap_nat hi hn, Int.toNat_natCast]
    rw [wrap64_id hw.1 hw.2, ← sum_next hi]
    refine ih (i + 1) _ (by omega) (by rw [List.length_set, hl]) (fun j hj => ?_)
    rw [lset (by omega)]
    by_cases e : i = j
    · rw [if_pos e, e]
    · rw [if_neg e]; exact h j (by omega)

theorem bucket_Starts_ev (c : List Int) (hn : c.length ≤ 35184372088832) (hs : sumsOk c) : Ev (fun j => bucket_Starts.f j c) (startsOf c) := by
  refine Ev.congr (fun k => by rw [bucket_Starts.f]) ?_
  simp only [Int.toNat_natCast]
  simp only [if_pos (show 0 ≤ (c.length : Int) by omega), if_pos hn]
  exact bucket_Starts_l0 c (by omega) hs c.length 0 _ (by omega) (by simp) (fun j hj => by omega)

theorem cnts_sumsOk {kf : Int → Int} {o : List Int} {k : Nat} (hr : ∀ x ∈ o, 0 ≤ kf x ∧ kf x < (k : Int)) (hn : o.length ≤ 140737488355328) : sumsOk (cntsOf kf o k) := by
  intro i hi
  rw [cntsOf_length] at hi
  rw [cnts_sum hi]
  have h2 := stab_all hr
  have h3 : (stab kf o i).length ≤ (stab kf o k).length := by
    rcases Nat.lt_or_ge i k with h | h
    · have := stab_mono (kf := kf) (o := o) h; omega
    · rw [show i = k by omega]; omega
  omega

/-- a place's key -/
def keyOf (keys : List Int) (i : Int) : Int := keys.getD i.toNat 0

def okPass (o keys : List Int) (k : Int) : Prop := okKeys keys k ∧ ∀ x ∈ o, 0 ≤ x ∧ x < (keys.length : Int)

instance (o keys : List Int) (k : Int) : Decidable (okPass o keys k) := by unfold okPass; infer_instance

def passR (o keys : List Int) (k : Int) : List Int × Bool := if okPass o keys k then (stab (keyOf keys) o k.toNat, true) else ([], false)

theorem key_ok {keys : List Int} {k : Int} (h : okKeys keys k) {x : Int} (h0 : 0 ≤ x) (h1 : x < keys.length) : 0 ≤ keyOf keys x ∧ keyOf keys x < k := h.2.2 _ (getD_mem (by omega))

theorem bucket_Pass_l1 (o keys : List Int) (k : Int) (hok : okPass o keys k) (hn : o.length ≤ 140737488355328) : ∀ (d i : Nat) (at_ l : List Int), i + d = o.length → at_.length = k.toNat → l.length = o.length →
    (∀ c, c < k.toNat → at_.getD c 0 = ((stab (keyOf keys) o c).length + kcnt (keyOf keys) (o.take i) c : Nat)) →
    (∀ c r, c < k.toNat → r < kcnt (keyOf keys) (o.take i) c → l.getD ((stab (keyOf keys) o c).length + r) 0 = (o.filter (fun i => keyOf keys i == (c : Int))).getD r 0) →
    Ev (fun j => bucket_Pass.l1 j keys at_ l o (o.length : Int) (i : Int)) (stab (keyOf keys) o k.toNat, true) := by
  have h0k : 0 ≤ k := hok.1.1
  have hko : ∀ x ∈ o, 0 ≤ keyOf keys x ∧ keyOf keys x < (k.toNat : Int) := fun x hx => by
    have h1 := hok.2 x hx
    have := key_ok hok.1 h1.1 h1.2
    omega
  intro d
  induction d with
  | zero =>
    intro i at_ l hd ha hl hat h
    refine Ev.step (fun k => by rw [bucket_Pass.l1]) ?_
    rw [List.take_of_length_le (by omega)] at h
    simp only [if_neg (show ¬ (i : Int) < o.length by omega)]
    rw [stab_ext (l := l) (by rw [hl, stab_all hko]) (fun c r hc hr => h c r hc hr)]
    exact Ev.now _
  | succ d ih =>
    intro i at_ l hd ha hl hat h
    have hi : i < o.length := by omega
    have hx := hok.2 _ (getD_mem hi)
    have hk := key_ok hok.1 hx.1 hx.2
    obtain ⟨c, hc⟩ : ∃ c : Nat, keyOf keys (o.getD i 0) = c := ⟨(keyOf keys (o.getD i 0)).toNat, by omega⟩
    have hck : c < k.toNat := by omega
    have hcl := kcnt_lt hi hc
    have hmo := stab_mono (kf := keyOf keys) (o := o) hck
    rw [stab_all hko] at hmo
    have h3 := hat c hck
    have e1 : rd keys (o.getD i 0) = (c : Int) := hc
    refine Ev.step (fun k => by rw [bucket_Pass.l1]) ?_
    simp only [if_pos (show (i : Int) < o.length by omega), if_pos (show 0 ≤ (i : Int) by omega), rd_nat, wrap_nat hi hn, if_pos hx.1, if_pos hx.2, e1, if_pos (show (0 : Int) ≤ (c : Int) by omega), if_pos (show (c : Int) < at_.length by omega), h3, Int.toNat_natCast]
    simp only [if_pos (show (0 : Int) ≤ (((stab (keyOf keys) o c).length + kcnt (keyOf keys) (o.take i) c : Nat) : Int) by omega), if_pos (show (((stab (keyOf keys) o c).length + kcnt (keyOf keys) (o.take i) c : Nat) : Int) < l.length by omega)]
    rw [wrap64_id (by omega) (by omega)]
    refine ih (i + 1) _ _ (by omega) (by rw [List.length_set, ha]) (by rw [List.length_set, hl]) (fun c' hc' => ?_) (fun c' r hc' hr => ?_)
    · rw [lset (by omega), kcnt_next hi, hc]
      by_cases e : c = c'
      · rw [if_pos e, if_pos (by omega), e]; omega
      · rw [if_neg e, if_neg (by omega)]; exact hat c' hc'
    · rw [lset (by omega)]
      rw [kcnt_next hi, hc] at hr
      by_cases e : c = c'
      · subst e
        rw [if_pos rfl] at hr
        by_cases e2 : r = kcnt (keyOf keys) (o.take i) c
        · rw [if_pos (by omega), e2, filter_at hi hc]
        · rw [if_neg (by omega)]; exact h c r hck (by omega)
      · rw [if_neg (by omega)] at hr
        have hr' : r < kcnt (keyOf keys) o c' := Nat.lt_of_lt_of_le (by omega) (kcnt_take i)
        rw [if_neg ?_]
        · exact h c' r hc' (by omega)
        · intro he
          rcases Nat.lt_or_ge c c' with hlt | hge
          · have := stab_mono (kf := keyOf keys) (o := o) hlt; omega
          · have := stab_mono (kf := keyOf keys) (o := o) (show c' < c by omega); omega

theorem bucket_Pass_l0 (o keys : List Int) (k : Int) (hok : okKeys keys k) (hn : o.length ≤ 35184372088832) : ∀ (d i : Nat) (l : List Int), i + d = o.length → l.length = k.toNat → (∀ c, c < k.toNat → l.getD c 0 = (kcnt (keyOf keys) (o.take i) c : Int)) →
    (∀ x ∈ o.take i, 0 ≤ x ∧ x < (keys.length : Int)) → Ev (fun j => bucket_Pass.l0 j o keys l o (o.length : Int) (i : Int)) (passR o keys k) := by
  have h0k : 0 ≤ k := hok.1
  have hkm : k ≤ 1048576 := hok.2.1
  intro d
  induction d with
  | zero =>
    intro i l hd hl h hr
    rw [List.take_of_length_le (by omega)] at h hr
    have hp : okPass o keys k := ⟨hok, hr⟩
    have hko : ∀ x ∈ o, 0 ≤ keyOf keys x ∧ keyOf keys x < (k.toNat : Int) := fun x hx => by
      have h1 := hr x hx
      have := key_ok hok h1.1 h1.2
      omega
    have hle : l = cntsOf (keyOf keys) o k.toNat := ext_getD (by rw [hl, cntsOf_length]) (fun c hc => by rw [cntsOf_get (by omega), h c (by omega)])
    refine Ev.step (fun k => by rw [bucket_Pass.l0]) ?_
    simp only [if_neg (show ¬ (i : Int) < o.length by omega)]
    refine Ev.bind (bucket_Starts_ev l (by omega) (by rw [hle]; exact cnts_sumsOk hko (by omega))) ?_
    simp only [Int.toNat_natCast]
    simp only [if_pos (show 0 ≤ (o.length : Int) by omega), if_pos hn]
    rw [passR, if_pos hp]
    refine bucket_Pass_l1 o keys k hp (by omega) o.length 0 _ _ (by omega) (by rw [startsOf_length, hl]) (by simp) (fun c hc => ?_) (fun c r hc hr2 => ?_)
    · rw [startsOf_get (by omega), hle, cnts_sum (by omega)]; simp [kcnt]
    · simp [kcnt] at hr2
  | succ d ih =>
    intro i l hd hl h hr
    have hi : i < o.length := by omega
    refine Ev.step (fun k => by rw [bucket_Pass.l0]) ?_
    simp only [if_pos (show (i : Int) < o.length by omega), if_pos (show 0 ≤ (i : Int) by omega), rd_nat, wrap_nat hi (show o.length ≤ 140737488355328 by omega)]
    by_cases h1 : o.getD i 0 < 0
    · simp only [if_pos h1]
      rw [passR, if_neg (fun hq => by have := hq.2 _ (getD_mem hi); omega)]
      exact Ev.now _
    by_cases h2 : o.getD i 0 ≥ keys.length
    · simp only [if_neg h1, if_pos h2]
      rw [passR, if_neg (fun hq => by have := hq.2 _ (getD_mem hi); omega)]
      exact Ev.now _
    have hk := key_ok hok (x := o.getD i 0) (by omega) (by omega)
    obtain ⟨c, hc⟩ : ∃ c : Nat, keyOf keys (o.getD i 0) = c := ⟨(keyOf keys (o.getD i 0)).toNat, by omega⟩
    have e1 : rd keys (o.getD i 0) = (c : Int) := hc
    have h3 := h c (by omega)
    have hle : kcnt (keyOf keys) (o.take i) c ≤ o.length := Nat.le_trans kcnt_le (by rw [List.length_take]; omega)
    simp only [if_neg h1, if_neg h2, if_pos (show 0 ≤ o.getD i 0 by omega), if_pos (show o.getD i 0 < keys.length by omega), e1, if_pos (show (0 : Int) ≤ (c : Int) by omega), if_pos (show (c : Int) < l.length by omega), rd_nat, h3, Int.toNat_natCast]
    rw [wrap64_id (by omega) (by omega)]
    refine ih (i + 1) _ (by omega) (by rw [List.length_set, hl]) (fun c' hc' => ?_) (fun x hx => ?_)
    · rw [lset (by omega), kcnt_next hi, hc]
      by_cases e : c = c'
      · rw [if_pos e, if_pos (by omega), ← e]; rfl
      · rw [if_neg e, if_neg (by omega)]; exact h c' hc'
    · rw [take_next hi, List.mem_append, List.mem_singleton] at hx
      rcases hx with hx | hx
      · exact hr x hx
      · omega

theorem bucket_Pass_ev (o keys : List Int) (k : Int) (hn : o.length ≤ 35184372088832) (hm : keys.length ≤ 140737488355328) : Ev (fun j => bucket_Pass.f j o keys k) (passR o keys k) := by
  refine Ev.congr (fun k => by rw [bucket_Pass.f]) ?_
  refine Ev.bind (bucket_Counts_ev keys k hm) ?_
  by_cases hok : okKeys keys k
  · rw [countsR, if_pos hok]
    have h1 := hok.1
    have h2 := hok.2.1
    simp only [if_true, if_pos h1, if_pos (show k.toNat ≤ 35184372088832 by omega)]
    exact bucket_Pass_l0 o keys k hok hn o.length 0 _ (by omega) (by simp) (fun c hc => by rw [getD_replicate]; simp [kcnt]) (by simp)
  · rw [countsR, if_neg hok]
    simp only [if_neg (show ¬ false = true by decide)]
    rw [passR, if_neg (fun hq => hok hq.1)]
    exact Ev.now _


-- math: W Base Perm SA Stab Kinds Lcp Skew
-- with: bucket
/-- r, r + 3, .. -/
def plL (r m : Nat) : List Int := (List.range m).map (fun (j : Nat) => ((3 * j + r : Nat) : Int))

theorem plL_length (r m : Nat) : (plL r m).length = m := by simp [plL]

theorem plL_succ (r m : Nat) : plL r (m + 1) = plL r m ++ [((3 * m + r : Nat) : Int)] := by
  unfold plL; rw [List.range_succ, List.map_append]; rfl

theorem plL_get {r m j : Nat} (h : j < m) : (plL r m).getD j 0 = ((3 * j + r : Nat) : Int) := by
  unfold plL
  rw [List.getD_eq_getElem?_getD, List.getElem?_map, List.getElem?_range h]; rfl

theorem plL_mem {r m : Nat} {x : Int} : x ∈ plL r m ↔ ∃ j : Nat, j < m ∧ x = ((3 * j + r : Nat) : Int) := by
  unfold plL
  rw [List.mem_map]
  constructor
  · rintro ⟨j, hj, rfl⟩
    exact ⟨j, List.mem_range.1 hj, rfl⟩
  · rintro ⟨j, hj, rfl⟩
    exact ⟨j, List.mem_range.2 hj, rfl⟩

theorem plL_rises (r : Nat) : ∀ m, (plL r m).Pairwise (· < ·)
  | 0 => by simp [plL]
  | m + 1 => by
    rw [plL_succ]
    rw [List.pairwise_append]
    refine ⟨plL_rises r m, by simp, fun x hx y hy => ?_⟩
    obtain ⟨j, hj, rfl⟩ := plL_mem.1 hx
    rw [List.mem_singleton] at hy
    omega

theorem skew_places_l0 (n r : Nat) (hn : n ≤ 1000000) : ∀ (d j : Nat), n + 3 - (3 * j + r) ≤ d → 3 * j + r < n + 3 → (3 * j + r < 3 ∨ 3 * j + r - 3 < n) → Ev (fun k => skew_places.l0 k (n : Int) (plL r j) ((3 * j + r : Nat) : Int)) (plL r ((n + 2 - r) / 3)) := by
  intro d
  induction d with
  | zero => intro j hd h1; omega
  | succ d ih =>
    intro j hd h1 h2
    refine Ev.step (fun k => by rw [skew_places.l0]) ?_
    by_cases h : 3 * j + r < n
    · simp only [if_pos (show ((3 * j + r : Nat) : Int) < (n : Int) by omega), plL_length, if_pos (show j < 17592186044416 by omega)]
      rw [wrap64_id (by omega) (by omega), ← plL_succ, show ((3 * j + r : Nat) : Int) + 3 = ((3 * (j + 1) + r : Nat) : Int) by omega]
      exact ih (j + 1) (by omega) (by omega) (by omega)
    · simp only [if_neg (show ¬ ((3 * j + r : Nat) : Int) < (n : Int) by omega)]
      rw [show (n + 2 - r) / 3 = j by omega]
      exact Ev.now _

theorem skew_places_ev (n r : Nat) (hn : n ≤ 1000000) (hr : r ≤ 2) : Ev (fun k => skew_places.f k (n : Int) (r : Int)) (plL r ((n + 2 - r) / 3)) := by
  refine Ev.congr (fun k => by rw [skew_places.f]) ?_
  have := skew_places_l0 n r hn (n + 3) 0 (by omega) (by omega) (by omega)
  simpa [plL] using this

/-- the sample -/
def smpL (n : Nat) : List Int := plL 1 ((n + 1) / 3) ++ plL 2 (n / 3)

theorem smpL_length (n : Nat) : (smpL n).length = (n + 1) / 3 + n / 3 := by unfold smpL; rw [List.length_append, plL_length, plL_length]

theorem smpL_mem {n : Nat} {x : Int} : x ∈ smpL n ↔ 0 ≤ x ∧ x < (n : Int) ∧ x % 3 ≠ 0 := by
  unfold smpL
  rw [List.mem_append, plL_mem, plL_mem]
  constructor
  · rintro (⟨j, hj, rfl⟩ | ⟨j, hj, rfl⟩) <;> omega
  · rintro ⟨h1, h2, h3⟩
    by_cases h : x % 3 = 1
    · exact .inl ⟨(x / 3).toNat, by omega, by omega⟩
    · exact .inr ⟨(x / 3).toNat, by omega, by omega⟩

theorem smpL_ne (n : Nat) : (smpL n).Pairwise (· ≠ ·) := by
  unfold smpL
  rw [List.pairwise_append]
  refine ⟨(plL_rises _ _).imp (fun h => by omega), (plL_rises _ _).imp (fun h => by omega), fun x hx y hy => ?_⟩
  obtain ⟨j, hj, rfl⟩ := plL_mem.1 hx
  obtain ⟨i, hi, rfl⟩ := plL_mem.1 hy
  omega

theorem skew_Sample_ev (n : Nat) (hn : n ≤ 100000) : Ev (fun k => skew_Sample.f k (n : Int)) (smpL n) := by
  refine Ev.congr (fun k => by rw [skew_Sample.f]) ?_
  simp only [if_neg (show ¬ (n : Int) < 0 by omega), decide_eq_false (show ¬ (n : Int) > 100000 by omega)]
  refine Ev.step (fun k => by rw [skew_Sample.j0]) ?_
  simp only [if_neg (show ¬ false = true by decide)]
  refine Ev.bind (skew_places_ev n 1 (by omega) (by omega)) ?_
  refine Ev.bind (skew_places_ev n 2 (by omega) (by omega)) ?_
  rw [plL_length, plL_length, if_pos (by omega)]
  rw [show n + 2 - 1 = n + 1 by omega, show n + 2 - 2 = n by omega]
  exact Ev.now _

theorem skew_Sample_no {x : Int} (h : x < 0 ∨ 100000 < x) : Ev (fun k => skew_Sample.f k x) [] := by
  refine Ev.congr (fun k => by rw [skew_Sample.f]) ?_
  by_cases h1 : x < 0
  · simp only [if_pos h1]
    refine Ev.step (fun k => by rw [skew_Sample.j0]) ?_
    simp only [if_true]
    exact Ev.now _
  · simp only [if_neg h1, decide_eq_true (show x > 100000 by omega)]
    refine Ev.step (fun k => by rw [skew_Sample.j0]) ?_
    simp only [if_true]
    exact Ev.now _

/-- numbers that may be -/
def okS (s : List Int) (k : Int) : Prop := s.length ≤ 100000 ∧ k ≤ 1000000 ∧ ∀ x ∈ s, 0 ≤ x ∧ x < k

theorem okS.noNeg {s : List Int} {k : Int} (h : okS s k) : noNeg s := fun x hx => (h.2.2 x hx).1

theorem okS.ky {s : List Int} {k : Int} (h : okS s k) (i : Nat) : 0 ≤ ky s i ∧ ky s i ≤ 1000000 := by
  rcases Nat.lt_or_ge i s.length with hi | hi
  · rw [ky_in hi]
    have := h.2.2 _ (getD_mem hi)
    have := h.2.1
    omega
  · rw [ky_end hi]; omega

theorem skew_key_eq {s : List Int} {k : Int} (h : okS s k) (i : Nat) : skew_key.f s (i : Int) = some (ky s i) := by
  rw [skew_key.f]
  rcases Nat.lt_or_ge i s.length with hi | hi
  · rw [if_neg (by omega), if_pos (by omega), if_pos (by omega), rd_nat, ky_in hi]
    have := h.2.2 _ (getD_mem hi)
    have := h.2.1
    rw [wrap64_id (by omega) (by omega)]
  · rw [if_pos (by omega), ky_end hi]

/-- all places' keys so many on -/
def kysL (s : List Int) (by_ : Nat) : List Int := (List.range s.length).map (fun (i : Nat) => ky s (i + by_))

theorem kysL_length (s : List Int) (b : Nat) : (kysL s b).length = s.length := by simp [kysL]

theorem kysL_get {s : List Int} {b i : Nat} (h : i < s.length) : (kysL s b).getD i 0 = ky s (i + b) := by
  unfold kysL
  rw [List.getD_eq_getElem?_getD, List.getElem?_map, List.getElem?_range h]; rfl

theorem skew_keys_l0 {s : List Int} {kk : Int} (h : okS s kk) (b : Nat) (hb : b ≤ 3) : ∀ (d i : Nat) (l : List Int), i + d = s.length → l.length = s.length → (∀ j, j < i → l.getD j 0 = ky s (j + b)) →
    Ev (fun k => skew_keys.l0 k s (b : Int) l (s.length : Int) (i : Int)) (kysL s b) := by
  have hn := h.1
  intro d
  induction d with
  | zero =>
    intro i l hd hl hp
    refine Ev.step (fun k => by rw [skew_keys.l0]) ?_
    simp only [if_neg (show ¬ (i : Int) < s.length by omega)]
    rw [ext_getD (a := l) (b := kysL s b) (by rw [hl, kysL_length]) (fun j hj => by rw [kysL_get (by omega), hp j (by omega)])]
    exact Ev.now _
  | succ d ih =>
    intro i l hd hl hp
    refine Ev.step (fun k => by rw [skew_keys.l0]) ?_
    simp only [if_pos (show (i : Int) < s.length by omega)]
    rw [wrap64_id (x := (i : Int) + (b : Int)) (by omega) (by omega), show (i : Int) + (b : Int) = ((i + b : Nat) : Int) by omega, skew_key_eq h]
    simp only [Option.bind_some, if_pos (show 0 ≤ (i : Int) by omega), if_pos (show (i : Int) < l.length by omega), Int.toNat_natCast, wrap_nat (show i < s.length by omega) (show s.length ≤ 140737488355328 by omega)]
    refine ih (i + 1) _ (by omega) (by rw [List.length_set, hl]) (fun j hj => ?_)
    rw [lset (by omega)]
    by_cases e : i = j
    · rw [if_pos e, e]
    · rw [if_neg e]; exact hp j (by omega)

theorem skew_keys_ev {s : List Int} {kk : Int} (h : okS s kk) (b : Nat) (hb : b ≤ 3) : Ev (fun k => skew_keys.f k s (b : Int)) (kysL s b) := by
  have hn := h.1
  refine Ev.congr (fun k => by rw [skew_keys.f]) ?_
  simp only [Int.toNat_natCast, if_pos (show 0 ≤ (s.length : Int) by omega), if_pos (show s.length ≤ 35184372088832 by omega), Option.bind_some, List.length_replicate]
  exact skew_keys_l0 h b hb s.length 0 _ (by omega) (by simp) (fun j hj => by omega)

theorem skew_alike_l0 {s : List Int} {kk : Int} (h : okS s kk) {i j : Nat} (hi : i ≤ 1000000) (hj : j ≤ 1000000) : ∀ (d b : Nat), b + d = 3 → (∀ y, y < b → ky s (i + y) = ky s (j + y)) →
    Ev (fun k => skew_alike.l0 k s (i : Int) (j : Int) (b : Int)) (decide (triEq s i j)) := by
  intro d
  induction d with
  | zero =>
    intro b hd hp
    refine Ev.step (fun k => by rw [skew_alike.l0]) ?_
    simp only [if_neg (show ¬ (b : Int) < 3 by omega)]
    rw [decide_eq_true]
    · exact Ev.now _
    · exact ⟨by simpa using hp 0 (by omega), hp 1 (by omega), hp 2 (by omega)⟩
  | succ d ih =>
    intro b hd hp
    refine Ev.step (fun k => by rw [skew_alike.l0]) ?_
    simp only [if_pos (show (b : Int) < 3 by omega)]
    rw [wrap64_id (x := (i : Int) + (b : Int)) (by omega) (by omega), wrap64_id (x := (j : Int) + (b : Int)) (by omega) (by omega), show (i : Int) + (b : Int) = ((i + b : Nat) : Int) by omega, show (j : Int) + (b : Int) = ((j + b : Nat) : Int) by omega, skew_key_eq h, skew_key_eq h]
    simp only [Option.bind_some]
    by_cases he : ky s (i + b) = ky s (j + b)
    · simp only [if_pos he, wrap_nat (show b < 3 by omega) (show 3 ≤ 140737488355328 by omega)]
      refine ih (b + 1) (by omega) (fun y hy => ?_)
      by_cases e : y = b
      · subst e; exact he
      · exact hp y (by omega)
    · simp only [if_neg he]
      rw [decide_eq_false]
      · exact Ev.now _
      · intro hq
        have hc : b = 0 ∨ b = 1 ∨ b = 2 := by omega
        rcases hc with rfl | rfl | rfl
        · exact he (by simpa using hq.1)
        · exact he hq.2.1
        · exact he hq.2.2

theorem skew_alike_ev {s : List Int} {kk : Int} (h : okS s kk) {i j : Nat} (hi : i ≤ 1000000) (hj : j ≤ 1000000) : Ev (fun k => skew_alike.f k s (i : Int) (j : Int)) (decide (triEq s i j)) := by
  refine Ev.congr (fun k => by rw [skew_alike.f]) ?_
  exact skew_alike_l0 h hi hj 3 0 (by omega) (fun y hy => by omega)

theorem tmod3 (x : Nat) : (Int.tmod (x : Int) 3 = 0) ↔ x % 3 = 0 := by
  rw [Int.tmod_eq_emod_of_nonneg (by omega)]; omega

theorem suf_next {s : List Int} {i j : Nat} (hi : i < s.length) (hj : j < s.length) (he : ky s i = ky s j) : sufLt s i j ↔ sufLt s ((i + 1 : Nat) : Int) ((j + 1 : Nat) : Int) := by
  have := sufLt_step hi hj
  rw [ky_in hi, ky_in hj] at he
  rw [this]
  constructor
  · rintro (h | h)
    · omega
    · simpa using h.2
  · intro h
    exact .inr ⟨by omega, by simpa using h⟩

instance (s : List Int) (x y : Int) : Decidable (sufLt s x y) := by unfold sufLt; infer_instance

theorem skew_less_l0 {s o rk : List Int} {kk : Int} (h : okS s kk) (hr : rOk s o rk) : ∀ (d i j : Nat), s.length - i < d → i ≤ s.length → j ≤ s.length → i ≠ j →
    Ev (fun k => skew_less.l0 k s rk (i : Int) (j : Int)) (decide (sufLt s i j)) := by
  have hn := h.1
  intro d
  induction d with
  | zero => intro i j hd; omega
  | succ d ih =>
    intro i j hd hi hj hij
    refine Ev.step (fun k => by rw [skew_less.l0]) ?_
    rw [skew_key_eq h, skew_key_eq h]
    simp only [Option.bind_some]
    by_cases he : ky s i = ky s j
    · have hil : i < s.length := by
        rcases Nat.lt_or_ge i s.length with k | k
        · exact k
        · exfalso
          rw [ky_end k] at he
          have := ky_pos h.noNeg (show j < s.length by omega)
          omega
      have hjl : j < s.length := by
        rcases Nat.lt_or_ge j s.length with k | k
        · exact k
        · exfalso
          rw [ky_end k] at he
          have := ky_pos h.noNeg hil
          omega
      have hnx := suf_next hil hjl he
      simp only [if_pos he]
      rw [wrap_nat (show i < s.length by omega) (by omega), wrap_nat (show j < s.length by omega) (by omega)]
      have hrec : Ev (fun k => skew_less.l0 k s rk ((i + 1 : Nat) : Int) ((j + 1 : Nat) : Int)) (decide (sufLt s i j)) := by
        rw [decide_eq_decide.2 hnx]
        exact ih (i + 1) (j + 1) (by omega) (by omega) (by omega) (by omega)
      by_cases h3 : Int.tmod ((i + 1 : Nat) : Int) 3 = 0
      · simp only [if_pos h3]; exact hrec
      · by_cases h4 : Int.tmod ((j + 1 : Nat) : Int) 3 = 0
        · simp only [if_neg h3, if_pos h4]; exact hrec
        · rw [tmod3] at h3 h4
          have hl := hr.2.2.1
          have e1 : mn ((i + 1 : Nat) : Int) (s.length : Int) = ((i + 1 : Nat) : Int) := by unfold mn; omega
          have e2 : mn ((j + 1 : Nat) : Int) (s.length : Int) = ((j + 1 : Nat) : Int) := by unfold mn; omega
          simp only [tmod3, if_neg h3, if_neg h4, e1, e2, if_pos (show (0 : Int) ≤ ((i + 1 : Nat) : Int) by omega), if_pos (show (0 : Int) ≤ ((j + 1 : Nat) : Int) by omega), if_pos (show ((i + 1 : Nat) : Int) < (rk.length : Int) by omega), if_pos (show ((j + 1 : Nat) : Int) < (rk.length : Int) by omega), rd_nat]
          have e3 : decide (sufLt s i j) = decide (rk.getD (i + 1) 0 < rk.getD (j + 1) 0) := decide_eq_decide.2 (hnx.trans (hr.suf (p := i + 1) (q := j + 1) (by omega) (by omega) (by omega) (by omega)).symm)
          rw [e3]
          exact Ev.now _
    · simp only [if_neg he]
      have hd2 : (ky s i < ky s j) ↔ sufLt s i j := by
        constructor
        · intro hl
          exact ky_suf h.noNeg (m := 0) hi hj (fun y hy => by omega) (by simpa using hl)
        · intro hs
          rcases Int.lt_trichotomy (ky s i) (ky s j) with k | k | k
          · exact k
          · exact absurd k he
          · exact absurd (ky_suf h.noNeg (m := 0) hj hi (fun y hy => by omega) (by simpa using k)) (sufLt_asymm hs)
      rw [decide_eq_decide.2 hd2]
      exact Ev.now _

theorem skew_less_ev {s o rk : List Int} {kk : Int} (h : okS s kk) (hr : rOk s o rk) {i j : Nat} (hi : i ≤ s.length) (hj : j ≤ s.length) (hij : i ≠ j) : Ev (fun k => skew_less.f k s rk (i : Int) (j : Int)) (decide (sufLt s i j)) := by
  refine Ev.congr (fun k => by rw [skew_less.f]) ?_
  exact skew_less_l0 h hr (s.length + 1) i j (by omega) hi hj hij

-- math: W Base Perm SA Stab Kinds Lcp Skew
-- with: bucket skew
/-- what sorted answers, round by round -/
def sfOk (sfk : Nat → List Int → Int → Option (List Int)) (n : Nat) : Prop := ∀ (b : List Int) (m : Int), okS b m → b.length < n → ∃ a, IsSA b a ∧ Ev (fun k => sfk k b m) a

theorem sfOk.next {sfk : Nat → List Int → Int → Option (List Int)} {n : Nat} (h : sfOk sfk n) : sfOk (fun k => sfk (k + 1)) n := fun b m hb hl => by
  obtain ⟨a, ha, K, hK⟩ := h b m hb hl
  exact ⟨a, ha, K, fun k hk => hK (k + 1) (by omega)⟩

theorem ranked_l5 {s o : List Int} (hn : s.length ≤ 100000) (hp : o.Pairwise (sufLt s)) (hm : ∀ x, x ∈ o ↔ 0 ≤ x ∧ x < (s.length : Int) ∧ x % 3 ≠ 0) (hol : o.length ≤ 100000) :
    ∀ (d i : Nat) (rk : List Int) (sfk : Nat → List Int → Int → Option (List Int)), i + d = o.length → rk.length = s.length + 3 → (∀ j, j < i → rk.getD (o.getD j 0).toNat 0 = (j : Int) + 1) → (∀ p : Nat, (p : Int) ∉ o → rk.getD p 0 = 0) →
    ∃ r, rOk s r.1 r.2 ∧ Ev (fun k => skew_ranked.l5 (sfk k) k o rk o (o.length : Int) (i : Int)) r := by
  have hnd : o.Nodup := hp.imp (fun {x y} hxy => by rintro rfl; exact ltL_irrefl _ hxy)
  intro d
  induction d with
  | zero =>
    intro i rk sfk hd hl h1 h2
    refine ⟨(o, rk), ⟨hp, hm, hl, fun j (hj : j < o.length) => h1 j (by omega), h2⟩, ?_⟩
    refine Ev.step (fun k => by rw [skew_ranked.l5]) ?_
    simp only [if_neg (show ¬ (i : Int) < o.length by omega)]
    exact Ev.now _
  | succ d ih =>
    intro i rk sfk hd hl h1 h2
    have hi : i < o.length := by omega
    have hx := (hm _).1 (getD_mem hi)
    have hmi := getD_mem hi
    obtain ⟨r, hr, hev⟩ := ih (i + 1) (rk.set (o.getD i 0).toNat ((i : Int) + 1)) (fun k => sfk (k + 1)) (by omega) (by rw [List.length_set, hl]) (fun j hj => by
      rw [lset (by omega)]
      by_cases e : j = i
      · subst e; rw [if_pos rfl]
      · rw [if_neg]
        · exact h1 j (by omega)
        · intro he
          have hxj := (hm _).1 (getD_mem (show j < o.length by omega))
          exact e (getD_inj hnd (show j < o.length by omega) hi (by omega))) (fun p hpo => by
      rw [lset (by omega), if_neg]
      · exact h2 p hpo
      · rintro rfl
        exact hpo (by rw [Int.toNat_of_nonneg hx.1]; exact hmi))
    refine ⟨r, hr, ?_⟩
    refine Ev.step (fun k => by rw [skew_ranked.l5]) ?_
    simp only [if_pos (show (i : Int) < o.length by omega), if_pos (show 0 ≤ (i : Int) by omega), rd_nat, if_pos hx.1, if_pos (show o.getD i 0 < (rk.length : Int) by omega)]
    rw [wrap64_id (x := (i : Int) + 1) (by omega) (by omega)]
    exact hev

/-- the places that an order of the names tells -/
def backL (n : Nat) (a : List Int) : List Int := (a.filter (fun x => x != (((n + 1) / 3 : Nat) : Int))).map (fun x => ((pl3 n x.toNat : Nat) : Int))

theorem backL_snoc (n : Nat) (a : List Int) (x : Int) : backL n (a ++ [x]) = backL n a ++ (if x = (((n + 1) / 3 : Nat) : Int) then [] else [((pl3 n x.toNat : Nat) : Int)]) := by
  unfold backL
  rw [List.filter_append, List.map_append]
  congr 1
  by_cases h : x = (((n + 1) / 3 : Nat) : Int)
  · rw [if_pos h, List.filter_cons, if_neg (by simpa using h)]; rfl
  · rw [if_neg h, List.filter_cons, if_pos (by simpa using h)]; rfl

theorem backL_len (n : Nat) (a : List Int) : (backL n a).length ≤ a.length := by
  unfold backL; rw [List.length_map]; exact List.length_filter_le _ _

theorem backL_mem {s b a : List Int} (ha : IsSA b a) (hb : b.length = (s.length + 1) / 3 + 1 + s.length / 3) {x : Int} : x ∈ backL s.length a ↔ 0 ≤ x ∧ x < (s.length : Int) ∧ x % 3 ≠ 0 := by
  unfold backL
  rw [List.mem_map]
  constructor
  · rintro ⟨y, hy, rfl⟩
    rw [List.mem_filter] at hy
    have h1 := ha.2.1 y hy.1
    have h2 : y ≠ (((s.length + 1) / 3 : Nat) : Int) := by simpa using hy.2
    have := plc_lt (n := s.length) (i := y.toNat) (by omega) (by omega)
    omega
  · rintro ⟨h1, h2, h3⟩
    by_cases h : x % 3 = 1
    · refine ⟨x / 3, ?_, ?_⟩
      · rw [List.mem_filter, ha.mem]
        exact ⟨by omega, by simp; omega⟩
      · unfold pl3; rw [if_pos (by omega)]; omega
    · refine ⟨(((s.length + 1) / 3 + 1 : Nat) : Int) + x / 3, ?_, ?_⟩
      · rw [List.mem_filter, ha.mem]
        exact ⟨by omega, by simp; omega⟩
      · unfold pl3; rw [if_neg (by omega)]; omega

theorem backL_sorted {s b a : List Int} {R : Nat → Int} (hs : noNeg s) (hR : tNames s R) (hR2 : ∀ p q, p < s.length → p % 3 ≠ 0 → q < s.length → q % 3 ≠ 0 → triLt s p q → R p < R q)
    (hb : isBelow s R b) (ha : IsSA b a) : (backL s.length a).Pairwise (sufLt s) := by
  unfold backL
  rw [List.pairwise_map]
  refine List.Pairwise.imp_of_mem (fun {x y} hx hy hxy => ?_) (ha.2.2.filter _)
  rw [List.mem_filter] at hx hy
  have h1 := ha.2.1 x hx.1
  have h2 := ha.2.1 y hy.1
  have h3 : x ≠ (((s.length + 1) / 3 : Nat) : Int) := by simpa using hx.2
  have h4 : y ≠ (((s.length + 1) / 3 : Nat) : Int) := by simpa using hy.2
  refine below_suf hs hR hR2 hb (i := x.toNat) (j := y.toNat) (by omega) (by omega) (by omega) (by omega) ?_
  rwa [Int.toNat_of_nonneg h1.1, Int.toNat_of_nonneg h2.1]

theorem ranked_l4 {s b a rk : List Int} (hn : s.length ≤ 100000) (ha : IsSA b a) (hb : b.length = (s.length + 1) / 3 + 1 + s.length / 3) (hp : (backL s.length a).Pairwise (sufLt s)) (hl : rk.length = s.length + 3) (hz : ∀ p : Nat, (s.length ≤ p ∨ p % 3 = 0) → rk.getD p 0 = 0) :
    ∀ (d i : Nat) (sfk : Nat → List Int → Int → Option (List Int)), i + d = a.length →
    ∃ r, rOk s r.1 r.2 ∧ Ev (fun k => skew_ranked.l4 (sfk k) k (backL s.length (a.take i)) rk (smpL s.length) (plL 1 ((s.length + 1) / 3)) a (a.length : Int) (i : Int)) r := by
  have hal := ha.1
  intro d
  induction d with
  | zero =>
    intro i sfk hd
    have hm : ∀ x, x ∈ backL s.length a ↔ 0 ≤ x ∧ x < (s.length : Int) ∧ x % 3 ≠ 0 := fun x => backL_mem ha hb
    have hbl := backL_len s.length a
    obtain ⟨r, hr, hev⟩ := ranked_l5 hn hp hm (by omega) (backL s.length a).length 0 rk (fun k => sfk (k + 1)) (by omega) hl (fun j hj => by omega) (fun p hpo => by
      by_cases h : s.length ≤ p ∨ p % 3 = 0
      · exact hz p h
      · exact absurd ((hm p).2 ⟨by omega, by omega, by omega⟩) hpo)
    refine ⟨r, hr, ?_⟩
    refine Ev.step (fun k => by rw [skew_ranked.l4]) ?_
    rw [List.take_of_length_le (by omega)]
    simp only [if_neg (show ¬ (i : Int) < a.length by omega)]
    exact hev
  | succ d ih =>
    intro i sfk hd
    have hi : i < a.length := by omega
    have hx := ha.2.1 _ (getD_mem hi)
    obtain ⟨r, hr, hev⟩ := ih (i + 1) (fun k => sfk (k + 1)) (by omega)
    refine ⟨r, hr, ?_⟩
    refine Ev.step (fun k => by rw [skew_ranked.l4]) ?_
    have hlen : (backL s.length (a.take i)).length ≤ 100001 := by
      have := backL_len s.length (a.take i)
      rw [List.length_take] at this
      omega
    rw [take_next hi, backL_snoc] at hev
    simp only [if_pos (show (i : Int) < a.length by omega), if_pos (show 0 ≤ (i : Int) by omega), rd_nat, plL_length, if_pos hx.1, wrap_nat hi (show a.length ≤ 140737488355328 by omega), if_pos (show (backL s.length (a.take i)).length < 17592186044416 by omega)]
    generalize a.getD i 0 = x at hx hev ⊢
    by_cases h1 : x < (((s.length + 1) / 3 : Nat) : Int)
    · rw [if_neg (by omega)] at hev
      have e : rd (plL 1 ((s.length + 1) / 3)) x = ((pl3 s.length x.toNat : Nat) : Int) := by
        rw [rd, plL_get (by omega)]; unfold pl3; rw [if_pos (by omega)]
      simp only [if_pos h1, e]
      exact hev
    · by_cases h2 : x > (((s.length + 1) / 3 : Nat) : Int)
      · rw [if_neg (by omega)] at hev
        have e : rd (smpL s.length) (x - 1) = ((pl3 s.length x.toNat : Nat) : Int) := by
          rw [rd]; unfold smpL
          rw [List.getD_eq_getElem?_getD, List.getElem?_append_right (by rw [plL_length]; omega), ← List.getD_eq_getElem?_getD, plL_length, plL_get (by omega)]
          unfold pl3; rw [if_neg (by omega)]; omega
        rw [wrap64_id (x := x - 1) (by omega) (by omega)]
        simp only [if_neg h1, if_pos h2, smpL_length, if_pos (show 0 ≤ x - 1 by omega), if_pos (show x - 1 < (((s.length + 1) / 3 + s.length / 3 : Nat) : Int) by omega), e]
        exact hev
      · rw [if_pos (by omega), List.append_nil] at hev
        simp only [if_neg h1, if_neg h2]
        exact hev

/-- names of places -/
def nmL (rk l : List Int) : List Int := l.map (fun p => rk.getD p.toNat 0)

theorem nmL_length (rk l : List Int) : (nmL rk l).length = l.length := by simp [nmL]

theorem nmL_snoc (rk l : List Int) (x : Int) : nmL rk (l ++ [x]) = nmL rk l ++ [rk.getD x.toNat 0] := by simp [nmL]

theorem nmL_get {rk l : List Int} {i : Nat} (h : i < l.length) : (nmL rk l).getD i 0 = rk.getD (l.getD i 0).toNat 0 := by
  unfold nmL
  simp [List.getD_eq_getElem?_getD, List.getElem?_map, List.getElem?_eq_getElem h]

/-- the text of the names -/
def belL (rk : List Int) (n : Nat) : List Int := nmL rk (plL 1 ((n + 1) / 3)) ++ [0] ++ nmL rk (plL 2 (n / 3))

theorem belL_is (s rk : List Int) : isBelow s (fun p => rk.getD p 0) (belL rk s.length) := by
  have l1 : (nmL rk (plL 1 ((s.length + 1) / 3))).length = (s.length + 1) / 3 := by rw [nmL_length, plL_length]
  refine ⟨by unfold belL; simp only [List.length_append, nmL_length, plL_length, List.length_singleton], fun i hi => ?_, ?_, fun i hi => ?_⟩
  · unfold belL
    rw [List.append_assoc, List.getD_eq_getElem?_getD, List.getElem?_append_left (by omega), ← List.getD_eq_getElem?_getD, nmL_get (by rw [plL_length]; exact hi), plL_get hi, Int.toNat_natCast]
  · unfold belL
    rw [List.append_assoc, List.getD_eq_getElem?_getD, List.getElem?_append_right (by omega), l1, Nat.sub_self]; rfl
  · unfold belL
    rw [List.getD_eq_getElem?_getD, List.getElem?_append_right (by rw [List.length_append, l1, List.length_singleton]; omega), ← List.getD_eq_getElem?_getD, List.length_append, l1, List.length_singleton,
      show (s.length + 1) / 3 + 1 + i - ((s.length + 1) / 3 + 1) = i by omega, nmL_get (by rw [plL_length]; exact hi), plL_get hi, Int.toNat_natCast]

theorem ranked_l3 {s rk : List Int} {x8 : Int} (hs : noNeg s) (hn : s.length ≤ 100000) (hn4 : (s.length + 1) / 3 + 1 + s.length / 3 < s.length) (hl : rk.length = s.length + 3) (hz : ∀ p : Nat, (s.length ≤ p ∨ p % 3 = 0) → rk.getD p 0 = 0)
    (hR : tNames s (fun p => rk.getD p 0)) (hR2 : ∀ p q, p < s.length → p % 3 ≠ 0 → q < s.length → q % 3 ≠ 0 → triLt s p q → rk.getD p 0 < rk.getD q 0) (h8 : x8 ≤ 100000 ∧ ∀ p : Nat, 0 ≤ rk.getD p 0 ∧ rk.getD p 0 ≤ x8) :
    ∀ (d i : Nat) (sfk : Nat → List Int → Int → Option (List Int)), sfOk sfk s.length → i + d = s.length / 3 →
    ∃ r, rOk s r.1 r.2 ∧ Ev (fun k => skew_ranked.l3 (sfk k) k rk (smpL s.length) x8 (plL 1 ((s.length + 1) / 3)) (nmL rk (plL 1 ((s.length + 1) / 3)) ++ [0] ++ nmL rk (plL 2 i)) (plL 2 (s.length / 3)) ((plL 2 (s.length / 3)).length : Int) (i : Int)) r := by
  intro d
  induction d with
  | zero =>
    intro i sfk hsf hd
    obtain rfl : i = s.length / 3 := by omega
    have hb := belL_is s rk
    have hbl := hb.1
    have h0 := (h8.2 0)
    have hok : okS (belL rk s.length) (x8 + 1) := by
      refine ⟨by omega, by omega, fun x hx => ?_⟩
      unfold belL nmL at hx
      simp only [List.mem_append, List.mem_map, List.mem_singleton] at hx
      rcases hx with (⟨p, _, rfl⟩ | rfl) | ⟨p, _, rfl⟩
      · have := h8.2 p.toNat; omega
      · omega
      · have := h8.2 p.toNat; omega
    obtain ⟨a, ha, hae⟩ := hsf.next (belL rk s.length) (x8 + 1) hok (by omega)
    obtain ⟨r, hr, hev⟩ := ranked_l4 hn ha hbl (backL_sorted hs hR hR2 hb ha) hl hz a.length 0 (fun k => sfk (k + 1)) (by omega)
    refine ⟨r, hr, ?_⟩
    refine Ev.step (fun k => by rw [skew_ranked.l3]) ?_
    simp only [plL_length, if_neg (show ¬ ((s.length / 3 : Nat) : Int) < ((s.length / 3 : Nat) : Int) by omega)]
    rw [wrap64_id (x := x8 + 1) (by omega) (by omega)]
    exact Ev.bind hae hev
  | succ d ih =>
    intro i sfk hsf hd
    obtain ⟨r, hr, hev⟩ := ih (i + 1) (fun k => sfk (k + 1)) hsf.next (by omega)
    refine ⟨r, hr, ?_⟩
    refine Ev.step (fun k => by rw [skew_ranked.l3]) ?_
    rw [plL_succ, nmL_snoc, ← List.append_assoc] at hev
    have hlen : (nmL rk (plL 1 ((s.length + 1) / 3)) ++ [0] ++ nmL rk (plL 2 i)).length < 17592186044416 := by
      simp only [List.length_append, nmL_length, plL_length, List.length_singleton]; omega
    simp only [if_pos hlen, rd_nat, plL_get (show i < s.length / 3 by omega), if_pos (show (0 : Int) ≤ (i : Int) by omega), if_pos (show (0 : Int) ≤ ((3 * i + 2 : Nat) : Int) by omega), if_pos (show ((3 * i + 2 : Nat) : Int) < (rk.length : Int) by omega)]
    simp only [plL_length] at hev ⊢
    simp only [if_pos (show (i : Int) < ((s.length / 3 : Nat) : Int) by omega)]
    rw [wrap_nat (show i < s.length / 3 by omega) (by omega)]
    rw [Int.toNat_natCast] at hev
    exact hev

theorem ranked_l2 {s rk : List Int} {x8 : Int} (hs : noNeg s) (hn : s.length ≤ 100000) (hn4 : (s.length + 1) / 3 + 1 + s.length / 3 < s.length) (hl : rk.length = s.length + 3) (hz : ∀ p : Nat, (s.length ≤ p ∨ p % 3 = 0) → rk.getD p 0 = 0)
    (hR : tNames s (fun p => rk.getD p 0)) (hR2 : ∀ p q, p < s.length → p % 3 ≠ 0 → q < s.length → q % 3 ≠ 0 → triLt s p q → rk.getD p 0 < rk.getD q 0) (h8 : x8 ≤ 100000 ∧ ∀ p : Nat, 0 ≤ rk.getD p 0 ∧ rk.getD p 0 ≤ x8) :
    ∀ (d i : Nat) (sfk : Nat → List Int → Int → Option (List Int)), sfOk sfk s.length → i + d = (s.length + 1) / 3 →
    ∃ r, rOk s r.1 r.2 ∧ Ev (fun k => skew_ranked.l2 (sfk k) k s rk (smpL s.length) x8 (plL 1 ((s.length + 1) / 3)) (nmL rk (plL 1 i)) (plL 1 ((s.length + 1) / 3)) ((plL 1 ((s.length + 1) / 3)).length : Int) (i : Int)) r := by
  intro d
  induction d with
  | zero =>
    intro i sfk hsf hd
    obtain rfl : i = (s.length + 1) / 3 := by omega
    obtain ⟨r, hr, hev⟩ := ranked_l3 hs hn hn4 hl hz hR hR2 h8 (s.length / 3) 0 (fun k => sfk (k + 1)) hsf.next (by omega)
    refine ⟨r, hr, ?_⟩
    refine Ev.step (fun k => by rw [skew_ranked.l2]) ?_
    have hlen : (nmL rk (plL 1 ((s.length + 1) / 3))).length < 17592186044416 := by rw [nmL_length, plL_length]; omega
    simp only [if_pos hlen]
    simp only [plL_length, if_neg (show ¬ (((s.length + 1) / 3 : Nat) : Int) < (((s.length + 1) / 3 : Nat) : Int) by omega)]
    refine Ev.bind (skew_places_ev s.length 2 (by omega) (by omega)) ?_
    rw [show s.length + 2 - 2 = s.length by omega]
    have e : plL 2 0 = [] := rfl
    rw [e, show nmL rk [] = [] from rfl, List.append_nil] at hev
    exact hev
  | succ d ih =>
    intro i sfk hsf hd
    obtain ⟨r, hr, hev⟩ := ih (i + 1) (fun k => sfk (k + 1)) hsf.next (by omega)
    refine ⟨r, hr, ?_⟩
    refine Ev.step (fun k => by rw [skew_ranked.l2]) ?_
    rw [plL_succ 1 i, nmL_snoc] at hev
    have hlen : (nmL rk (plL 1 i)).length < 17592186044416 := by rw [nmL_length, plL_length]; omega
    simp only [if_pos hlen, rd_nat, plL_get (show i < (s.length + 1) / 3 by omega), if_pos (show (0 : Int) ≤ (i : Int) by omega), if_pos (show (0 : Int) ≤ ((3 * i + 1 : Nat) : Int) by omega), if_pos (show ((3 * i + 1 : Nat) : Int) < (rk.length : Int) by omega)]
    simp only [plL_length] at hev ⊢
    simp only [if_pos (show (i : Int) < (((s.length + 1) / 3 : Nat) : Int) by omega)]
    rw [wrap_nat (show i < (s.length + 1) / 3 by omega) (by omega)]
    rw [Int.toNat_natCast] at hev
    exact hev

/-- the count of classes so far -/
def ncl (s o : List Int) : Nat → Int
  | 0 => 0
  | i + 1 => clsT s o i

theorem ncl_bd (s o : List Int) (i : Nat) : 0 ≤ ncl s o i ∧ ncl s o i ≤ (i : Int) := by
  cases i with
  | zero => simp [ncl]
  | succ i => have := cls_pos s o i; simp only [ncl]; omega

theorem ranked_l1 {s o : List Int} {kk : Int} (hok : okS s kk) (hp : o.Pairwise (fun x y => triLt s x.toNat y.toNat ∨ triEq s x.toNat y.toNat)) (hnd : o.Nodup) (hm : ∀ x, x ∈ o ↔ 0 ≤ x ∧ x < (s.length : Int) ∧ x % 3 ≠ 0) (hol : o.length = (s.length + 1) / 3 + s.length / 3) :
    ∀ (d i : Nat) (rk : List Int) (sfk : Nat → List Int → Int → Option (List Int)), sfOk sfk s.length → i + d = o.length → rk.length = s.length + 3 → (∀ j, j < i → rk.getD (o.getD j 0).toNat 0 = clsT s o j) → (∀ p : Nat, (p : Int) ∉ o.take i → rk.getD p 0 = 0) →
    ∃ r, rOk s r.1 r.2 ∧ Ev (fun k => skew_ranked.l1 (sfk k) k s o rk (smpL s.length) (ncl s o i) o (o.length : Int) (i : Int)) r := by
  have hn := hok.1
  have hs := hok.noNeg
  intro d
  induction d with
  | zero =>
    intro i rk sfk hsf hd hl h1 h2
    obtain rfl : i = o.length := by omega
    rw [List.take_of_length_le (by omega)] at h2
    by_cases hfull : ncl s o o.length = ((smpL s.length).length : Int)
    · have hf : ∀ j, j < o.length → clsT s o j = (j : Int) + 1 := by
        intro j hj
        obtain ⟨q, hq⟩ : ∃ q, o.length = q + 1 := ⟨o.length - 1, by omega⟩
        rw [hq] at hfull
        simp only [ncl, smpL_length] at hfull
        exact cls_full (n := q) (by omega) (by omega)
      refine ⟨(o, rk), ⟨cls_sorted hs (fun x hx => by have := (hm x).1 hx; omega) hp hf, hm, hl, fun j hj => by rw [h1 j hj, hf j hj], h2⟩, ?_⟩
      refine Ev.step (fun k => by rw [skew_ranked.l1]) ?_
      simp only [if_neg (show ¬ (o.length : Int) < o.length by omega), if_pos hfull]
      exact Ev.now _
    · have hidx : ∀ p : Nat, p < s.length → p % 3 ≠ 0 → ∃ j, j < o.length ∧ o.getD j 0 = (p : Int) ∧ rk.getD p 0 = clsT s o j := fun p hp1 hp3 => by
        have hmem : (p : Int) ∈ o := (hm _).2 ⟨by omega, by omega, by omega⟩
        have hlt := List.idxOf_lt_length_of_mem hmem
        refine ⟨o.idxOf (p : Int), hlt, idxOf_getD hmem, ?_⟩
        have := h1 _ hlt
        rw [idxOf_getD hmem] at this
        simpa using this
      have hz : ∀ p : Nat, (s.length ≤ p ∨ p % 3 = 0) → rk.getD p 0 = 0 := fun p hp1 => h2 p (fun hmem => by have := (hm _).1 hmem; omega)
      have hR : tNames s (fun p => rk.getD p 0) := by
        refine ⟨fun p hp1 hp3 => ?_, fun p q hp1 hp3 hq1 hq3 hlt => ?_⟩
        · obtain ⟨j, hj, ej, rj⟩ := hidx p hp1 hp3
          have := (cls_pos s o j).1
          show 1 ≤ rk.getD p 0
          omega
        · obtain ⟨i, hi, ei, ri⟩ := hidx p hp1 hp3
          obtain ⟨j, hj, ej, rj⟩ := hidx q hq1 hq3
          replace hlt : rk.getD p 0 < rk.getD q 0 := hlt
          rw [ri, rj] at hlt
          rcases Nat.lt_or_ge i j with hij | hij
          · have := (cls_le hp (i := i) (j := j) (by omega) hj).2.1 hlt
            rw [ei, ej] at this
            simpa using this
          · have := (cls_le hp (i := j) (j := i) (by omega) hi).1
            omega
      have hR2 : ∀ p q, p < s.length → p % 3 ≠ 0 → q < s.length → q % 3 ≠ 0 → triLt s p q → rk.getD p 0 < rk.getD q 0 := fun p q hp1 hp3 hq1 hq3 hlt => by
        obtain ⟨i, hi, ei, ri⟩ := hidx p hp1 hp3
        obtain ⟨j, hj, ej, rj⟩ := hidx q hq1 hq3
        rw [ri, rj]
        rcases Nat.lt_or_ge i j with hij | hij
        · have h3 := cls_le hp (i := i) (j := j) (by omega) hj
          rw [ei, ej] at h3
          simp only [Int.toNat_natCast] at h3
          rcases Int.lt_or_eq_of_le h3.1 with k | k
          · exact k
          · exact absurd hlt (triLt_irrefl (h3.2.2 k))
        · have h3 := cls_le hp (i := j) (j := i) (by omega) hi
          rw [ei, ej] at h3
          simp only [Int.toNat_natCast] at h3
          rcases Int.lt_or_eq_of_le h3.1 with k | k
          · exact absurd hlt (triLt_asymm (h3.2.1 k))
          · have := h3.2.2 k
            exact absurd hlt (triLt_irrefl ⟨this.1.symm, this.2.1.symm, this.2.2.symm⟩)
      have hbd := ncl_bd s o o.length
      have h8 : ncl s o o.length ≤ 100000 ∧ ∀ p : Nat, 0 ≤ rk.getD p 0 ∧ rk.getD p 0 ≤ ncl s o o.length := by
        refine ⟨by omega, fun p => ?_⟩
        by_cases hp1 : s.length ≤ p ∨ p % 3 = 0
        · rw [hz p hp1]; omega
        · obtain ⟨j, hj, ej, rj⟩ := hidx p (by omega) (by omega)
          have h3 := cls_pos s o j
          obtain ⟨q, hq⟩ : ∃ q, o.length = q + 1 := ⟨o.length - 1, by omega⟩
          have h4 := (cls_le hp (i := j) (j := q) (by omega) (by omega)).1
          rw [hq, rj]; simp only [ncl]; omega
      have hn4 : (s.length + 1) / 3 + 1 + s.length / 3 < s.length := by
        rcases Nat.lt_or_ge s.length 4 with h4 | h4
        · exfalso
          apply hfull
          rw [smpL_length]
          have hc : o.length = 0 ∨ o.length = 1 ∨ o.length = 2 := by omega
          rcases hc with hc | hc | hc
          · rw [hc]; simp only [ncl]; omega
          · rw [hc]; simp only [ncl, clsT]; omega
          · rw [hc]; simp only [ncl, clsT]
            have hs3 : s.length = 3 := by omega
            have hm0 := (hm _).1 (getD_mem (show 0 < o.length by omega))
            have hm1 := (hm _).1 (getD_mem (show 1 < o.length by omega))
            have hne : o.getD 0 0 ≠ o.getD 1 0 := fun e => by have := getD_inj hnd (show 0 < o.length by omega) (show 1 < o.length by omega) e; omega
            have hno : ¬ triEq s (o.getD 0 0).toNat (o.getD (0 + 1) 0).toNat := by
              simp only [Nat.zero_add]
              have k2 := ky_pos hs (show 2 < s.length by omega)
              have k3 := ky_end (s := s) (i := 3) (by omega)
              have hc2 : (o.getD 0 0 = 1 ∧ o.getD 1 0 = 2) ∨ (o.getD 0 0 = 2 ∧ o.getD 1 0 = 1) := by omega
              rcases hc2 with ⟨e0, e1⟩ | ⟨e0, e1⟩
              · rw [e0, e1]; intro ht; have := ht.2.1; simp only [show (1 : Int).toNat + 1 = 2 from rfl, show (2 : Int).toNat + 1 = 3 from rfl] at this; omega
              · rw [e0, e1]; intro ht; have := ht.2.1; simp only [show (1 : Int).toNat + 1 = 2 from rfl, show (2 : Int).toNat + 1 = 3 from rfl] at this; omega
            rw [if_neg hno]; omega
        · omega
      obtain ⟨r, hr, hev⟩ := ranked_l2 hs hn hn4 hl hz hR hR2 h8 ((s.length + 1) / 3) 0 (fun k => sfk (k + 1)) hsf.next (by omega)
      refine ⟨r, hr, ?_⟩
      refine Ev.step (fun k => by rw [skew_ranked.l1]) ?_
      simp only [if_neg (show ¬ (o.length : Int) < o.length by omega), if_neg hfull]
      refine Ev.bind (skew_places_ev s.length 1 (by omega) (by omega)) ?_
      rw [show s.length + 2 - 1 = s.length + 1 by omega]
      exact hev
  | succ d ih =>
    intro i rk sfk hsf hd hl h1 h2
    have hi : i < o.length := by omega
    have hx := (hm _).1 (getD_mem hi)
    have hbd := ncl_bd s o (i + 1)
    have hbd0 := ncl_bd s o i
    obtain ⟨r, hr, hev⟩ := ih (i + 1) (rk.set (o.getD i 0).toNat (clsT s o i)) (fun k => sfk (k + 1)) hsf.next (by omega) (by rw [List.length_set, hl]) (fun j hj => by
      rw [lset (by omega)]
      by_cases e : j = i
      · subst e; rw [if_pos rfl]
      · rw [if_neg]
        · exact h1 j (by omega)
        · intro he
          have hxj := (hm _).1 (getD_mem (show j < o.length by omega))
          exact e (getD_inj hnd (show j < o.length by omega) hi (by omega))) (fun p hpo => by
      rw [take_next hi, List.mem_append, List.mem_singleton, not_or] at hpo
      rw [lset (by omega), if_neg]
      · exact h2 p hpo.1
      · rintro rfl
        exact hpo.2 (by rw [Int.toNat_of_nonneg hx.1]))
    refine ⟨r, hr, ?_⟩
    refine Ev.step (fun k => by rw [skew_ranked.l1]) ?_
    simp only [if_pos (show (i : Int) < o.length by omega), if_pos (show 0 ≤ (i : Int) by omega), rd_nat, if_pos hx.1, if_pos (show o.getD i 0 < (rk.length : Int) by omega), wrap_nat hi (show o.length ≤ 140737488355328 by omega)]
    cases i with
    | zero =>
      simp only [Int.natCast_zero, if_true, show ((0 : Nat) : Int) = 0 from rfl]
      rw [wrap64_id (x := ncl s o 0 + 1) (by omega) (by omega)]
      simp only [ncl, clsT] at hev ⊢
      exact hev
    | succ i =>
      rw [wrap64_id (x := ((i + 1 : Nat) : Int) - 1) (by omega) (by omega), show ((i + 1 : Nat) : Int) - 1 = (i : Int) by omega]
      simp only [if_neg (show ¬ ((i + 1 : Nat) : Int) = 0 by omega)]
      have hxi := (hm _).1 (getD_mem (show i < o.length by omega))
      simp only [if_pos (show 0 ≤ (i : Int) by omega), if_pos (show (i : Int) < (o.length : Int) by omega), rd_nat]
      have e1 : o.getD i 0 = (((o.getD i 0).toNat : Nat) : Int) := by omega
      have e2 : o.getD (i + 1) 0 = (((o.getD (i + 1) 0).toNat : Nat) : Int) := by omega
      have hal := skew_alike_ev hok (i := (o.getD i 0).toNat) (j := (o.getD (i + 1) 0).toNat) (by omega) (by omega)
      rw [← e1, ← e2] at hal
      refine Ev.bind hal ?_
      simp only [ncl, clsT] at hev hbd ⊢
      by_cases ht : triEq s (o.getD i 0).toNat (o.getD (i + 1) 0).toNat
      · rw [if_pos ht, Int.add_zero] at hev
        simp only [decide_eq_true ht, if_true]
        exact hev
      · rw [if_neg ht] at hev
        rw [if_neg ht] at hbd
        rw [wrap64_id (x := clsT s o i + 1) (by omega) (by omega)]
        simp only [decide_eq_false ht, if_neg (show ¬ false = true by decide)]
        exact hev

theorem kysL_okKeys {s : List Int} {kk : Int} (hok : okS s kk) (hk : 0 ≤ kk) (b : Nat) : okKeys (kysL s b) (kk + 1) := by
  refine ⟨by omega, by have := hok.2.1; omega, fun x hx => ?_⟩
  obtain ⟨i, hi, rfl⟩ := List.mem_map.1 hx
  rcases Nat.lt_or_ge (i + b) s.length with h | h
  · have := hok.2.2 _ (getD_mem h)
    rw [ky_in h]; omega
  · rw [ky_end h]; omega

theorem ranked_l0_step {s o : List Int} {kk : Int} (hok : okS s kk) (hk : 0 ≤ kk) {b : Nat} (hb : b ≤ 2) (ho : ∀ x ∈ o, 0 ≤ x ∧ x < (s.length : Int)) (hol : o.length ≤ 100000) {sfk : Nat → List Int → Int → Option (List Int)} {r : List Int × List Int}
    (h : Ev (fun k => skew_ranked.l0 (sfk (k + 1)) k s kk (stab (keyOf (kysL s b)) o (kk + 1).toNat) (smpL s.length) ((b : Int) - 1)) r) :
    Ev (fun k => skew_ranked.l0 (sfk k) k s kk o (smpL s.length) (b : Int)) r := by
  have hn := hok.1
  have hkk := hok.2.1
  refine Ev.step (fun k => by rw [skew_ranked.l0]) ?_
  simp only [if_pos (show (b : Int) ≥ 0 by omega)]
  refine Ev.bind (skew_keys_ev hok b (by omega)) ?_
  rw [wrap64_id (x := kk + 1) (by omega) (by omega), wrap64_id (x := (b : Int) - 1) (by omega) (by omega)]
  refine Ev.bind (bucket_Pass_ev o (kysL s b) (kk + 1) (by omega) (by rw [kysL_length]; omega)) ?_
  rw [passR, if_pos ⟨kysL_okKeys hok hk b, fun x hx => by rw [kysL_length]; exact ho x hx⟩]
  exact h

theorem stab_of_keys {s o : List Int} {kk : Int} (hok : okS s kk) (hk : 0 ≤ kk) (b : Nat) (ho : ∀ x ∈ o, 0 ≤ x ∧ x < (s.length : Int)) :
    (stab (keyOf (kysL s b)) o (kk + 1).toNat).length = o.length ∧ ∀ x, x ∈ stab (keyOf (kysL s b)) o (kk + 1).toNat ↔ x ∈ o := by
  have hr : ∀ x ∈ o, 0 ≤ keyOf (kysL s b) x ∧ keyOf (kysL s b) x < ((kk + 1).toNat : Int) := fun x hx => by
    have := key_ok (kysL_okKeys hok hk b) (ho x hx).1 (by rw [kysL_length]; exact (ho x hx).2)
    omega
  exact ⟨stab_all hr, fun x => by rw [stab_mem]; exact ⟨fun h => h.1, fun h => ⟨h, hr x h⟩⟩⟩

theorem keyOf_kys {s : List Int} {b : Nat} {x : Int} (h0 : 0 ≤ x) (h1 : x < (s.length : Int)) : keyOf (kysL s b) x = ky s (x.toNat + b) := by
  unfold keyOf; rw [kysL_get (by omega)]

theorem skew_ranked_ev {s : List Int} {kk : Int} (hok : okS s kk) (hk : 0 ≤ kk) {sfk : Nat → List Int → Int → Option (List Int)} (hsf : sfOk sfk s.length) : ∃ r, rOk s r.1 r.2 ∧ Ev (fun k => skew_ranked.f (sfk k) k s kk) r := by
  have hn := hok.1
  have h0 : ∀ x ∈ smpL s.length, 0 ≤ x ∧ x < (s.length : Int) := fun x hx => by have := smpL_mem.1 hx; omega
  have s2 := stab_of_keys hok hk 2 h0
  generalize h2 : stab (keyOf (kysL s 2)) (smpL s.length) (kk + 1).toNat = o2 at s2
  have h2r : ∀ x ∈ o2, 0 ≤ x ∧ x < (s.length : Int) := fun x hx => h0 x ((s2.2 x).1 hx)
  have s1 := stab_of_keys hok hk 1 h2r
  generalize h1 : stab (keyOf (kysL s 1)) o2 (kk + 1).toNat = o1 at s1
  have h1r : ∀ x ∈ o1, 0 ≤ x ∧ x < (s.length : Int) := fun x hx => h2r x ((s1.2 x).1 hx)
  have s0 := stab_of_keys hok hk 0 h1r
  generalize h0' : stab (keyOf (kysL s 0)) o1 (kk + 1).toNat = o0 at s0
  have hm : ∀ x, x ∈ o0 ↔ 0 ≤ x ∧ x < (s.length : Int) ∧ x % 3 ≠ 0 := fun x => by rw [s0.2, s1.2, s2.2]; exact smpL_mem
  have hsl := smpL_length s.length
  have hpw : o0.Pairwise (fun x y => keyOf (kysL s 0) x < keyOf (kysL s 0) y ∨ (keyOf (kysL s 0) x = keyOf (kysL s 0) y ∧ (keyOf (kysL s 1) x < keyOf (kysL s 1) y ∨ (keyOf (kysL s 1) x = keyOf (kysL s 1) y ∧
      (keyOf (kysL s 2) x < keyOf (kysL s 2) y ∨ (keyOf (kysL s 2) x = keyOf (kysL s 2) y ∧ x ≠ y)))))) := by
    rw [← h0', ← h1, ← h2]
    exact stab_pairwise (stab_pairwise (stab_pairwise (smpL_ne _) _) _) _
  have hnd : o0.Nodup := hpw.imp (fun {x y} h => by rintro rfl; omega)
  have hp : o0.Pairwise (fun x y => triLt s x.toNat y.toNat ∨ triEq s x.toNat y.toNat) := by
    refine List.Pairwise.imp_of_mem (fun {x y} hx hy h => ?_) hpw
    have mx := (hm x).1 hx
    have my := (hm y).1 hy
    rw [keyOf_kys mx.1 mx.2.1, keyOf_kys my.1 my.2.1, keyOf_kys mx.1 mx.2.1, keyOf_kys my.1 my.2.1, keyOf_kys mx.1 mx.2.1, keyOf_kys my.1 my.2.1] at h
    unfold triLt triEq
    simp only [Nat.add_zero] at h
    omega
  have hsf4 : sfOk (fun k => sfk (k + 1 + 1 + 1 + 1)) s.length := hsf.next.next.next.next
  obtain ⟨r, hr, hev⟩ := ranked_l1 hok hp hnd hm (by omega) o0.length 0 (List.replicate (s.length + 3) 0) _ hsf4 (by omega) (by simp) (fun j hj => by omega) (fun p _ => getD_replicate)
  refine ⟨r, hr, ?_⟩
  refine Ev.congr (fun k => by rw [skew_ranked.f]) ?_
  refine Ev.bind (skew_Sample_ev s.length (by omega)) ?_
  refine ranked_l0_step hok hk (b := 2) (by omega) h0 (by omega) ?_
  rw [h2]
  refine ranked_l0_step hok hk (b := 1) (sfk := fun k => sfk (k + 1)) (by omega) h2r (by omega) ?_
  rw [h1]
  refine ranked_l0_step hok hk (b := 0) (sfk := fun k => sfk (k + 1 + 1)) (by omega) h1r (by omega) ?_
  rw [h0']
  refine Ev.step (fun k => by rw [skew_ranked.l0]) ?_
  rw [wrap64_id (x := (s.length : Int) + 3) (by omega) (by omega)]
  simp only [if_neg (show ¬ (((0 : Nat) : Int) - 1 ≥ 0) by omega), if_pos (show (0 : Int) ≤ (s.length : Int) + 3 by omega), show ((s.length : Int) + 3).toNat = s.length + 3 by omega, if_pos (show s.length + 3 ≤ 35184372088832 by omega)]
  exact hev

-- math: W Base Perm SA Stab Kinds Lcp Skew
-- with: bucket skew skew_ranked
/-- a merge, with what is in it -/
def mOk (s l o t : List Int) : Prop := mInv s l o t ∧ l.length + o.length + t.length = s.length ∧ (∀ x ∈ l, 0 ≤ x ∧ x < (s.length : Int)) ∧ (∀ x ∈ o, 0 ≤ x ∧ x < (s.length : Int) ∧ x % 3 ≠ 0) ∧ ∀ x ∈ t, 0 ≤ x ∧ x < (s.length : Int) ∧ x % 3 = 0

theorem mOk.fromO {s l o t : List Int} {a b : Int} (h : mOk s l (a :: o) (b :: t)) (hab : sufLt s a b) : mOk s (l ++ [a]) o (b :: t) := by
  obtain ⟨h1, h2, h3, h4, h5⟩ := h
  refine ⟨h1.fromO hab, by simp only [List.length_append, List.length_cons, List.length_nil] at h2 ⊢; omega, fun x hx => ?_, fun x hx => h4 x (List.mem_cons_of_mem _ hx), h5⟩
  rcases List.mem_append.1 hx with hx | hx
  · exact h3 x hx
  · rw [List.mem_singleton] at hx; subst hx
    have := h4 x (by simp)
    omega

theorem mOk.fromT {s l o t : List Int} {b : Int} (h : mOk s l o (b :: t)) (hab : ∀ a ∈ o.head?, sufLt s b a) : mOk s (l ++ [b]) o t := by
  obtain ⟨h1, h2, h3, h4, h5⟩ := h
  refine ⟨h1.fromT hab, by simp only [List.length_append, List.length_cons, List.length_nil] at h2 ⊢; omega, fun x hx => ?_, h4, fun x hx => h5 x (List.mem_cons_of_mem _ hx)⟩
  rcases List.mem_append.1 hx with hx | hx
  · exact h3 x hx
  · rw [List.mem_singleton] at hx; subst hx
    have := h5 x (by simp)
    omega

theorem mOk.done {s l o : List Int} (h : mOk s l o []) : IsSA s (l ++ o) := by
  obtain ⟨h1, h2, h3, h4, h5⟩ := h
  refine ⟨by rw [List.length_append]; simpa using h2, fun x hx => ?_, h1.done⟩
  rcases List.mem_append.1 hx with hx | hx
  · exact h3 x hx
  · have := h4 x hx; omega

theorem sorted_l2 {s o0 rk t : List Int} {kk : Int} (hok : okS s kk) (hr : rOk s o0 rk) {i : Nat} (hi : i < t.length) (ht : t.length ≤ 100000)
    (hnext : ∀ l o, mOk s l o (t.drop (i + 1)) → ∃ r, IsSA s r ∧ Ev (fun k => skew_sorted.l1 k s o rk l t (t.length : Int) ((i + 1 : Nat) : Int)) r) :
    ∀ (o l : List Int), mOk s l o (t.drop i) → ∃ r, IsSA s r ∧ Ev (fun k => skew_sorted.l2 k s o rk l (t.getD i 0) t (t.length : Int) (i : Int)) r := by
  have hn := hok.1
  have hdrop := drop_cons_get hi
  intro o
  induction o with
  | nil =>
    intro l h
    have hlen := h.2.1
    rw [hdrop] at h
    obtain ⟨r, hrs, hev⟩ := hnext _ _ (h.fromT (by simp))
    refine ⟨r, hrs, ?_⟩
    refine Ev.step (fun k => by rw [skew_sorted.l2]) ?_
    simp only [List.length_nil, if_neg (show ¬ ((0 : Nat) : Int) > 0 by omega), if_pos (show l.length < 17592186044416 by omega), wrap_nat hi (show t.length ≤ 140737488355328 by omega)]
    exact hev
  | cons a o ih =>
    intro l h
    have hlen := h.2.1
    have h4 := h.2.2.2.1 a (by simp)
    have h5 := h.2.2.2.2 (t.getD i 0) (by rw [hdrop]; simp)
    have hless := skew_less_ev hok hr (i := a.toNat) (j := (t.getD i 0).toNat) (by omega) (by omega) (by omega)
    rw [Int.toNat_of_nonneg h4.1, Int.toNat_of_nonneg h5.1] at hless
    rw [hdrop] at h
    have hrd : rd (a :: o) 0 = a := rfl
    by_cases hl : sufLt s a (t.getD i 0)
    · obtain ⟨r, hrs, hev⟩ := ih (l ++ [a]) (by rw [hdrop]; exact h.fromO hl)
      refine ⟨r, hrs, ?_⟩
      refine Ev.step (fun k => by rw [skew_sorted.l2]) ?_
      simp only [List.length_cons, if_pos (show ((o.length + 1 : Nat) : Int) > 0 by omega), if_pos (show (0 : Int) < ((o.length + 1 : Nat) : Int) by omega), hrd]
      refine Ev.bind hless ?_
      simp only [decide_eq_true hl, if_true, if_pos (show l.length < 17592186044416 by omega), if_pos (show (1 : Int) ≤ ((o.length + 1 : Nat) : Int) by omega)]
      exact hev
    · obtain ⟨r, hrs, hev⟩ := hnext _ _ (h.fromT (fun a' ha' => by
        simp only [List.head?_cons, Option.mem_def, Option.some.injEq] at ha'
        subst ha'
        rcases suf_tri (s := s) (x := a) (y := t.getD i 0) h4.1 (by omega) h5.1 (by omega) (by omega) with k | k
        · exact absurd k hl
        · exact k))
      refine ⟨r, hrs, ?_⟩
      refine Ev.step (fun k => by rw [skew_sorted.l2]) ?_
      simp only [List.length_cons, if_pos (show ((o.length + 1 : Nat) : Int) > 0 by omega), if_pos (show (0 : Int) < ((o.length + 1 : Nat) : Int) by omega), hrd]
      refine Ev.bind hless ?_
      simp only [decide_eq_false hl, if_neg (show ¬ false = true by decide), if_pos (show l.length < 17592186044416 by omega), wrap_nat hi (show t.length ≤ 140737488355328 by omega)]
      exact hev

theorem sorted_l1 {s o0 rk t : List Int} {kk : Int} (hok : okS s kk) (hr : rOk s o0 rk) (ht : t.length ≤ 100000) :
    ∀ (d i : Nat) (l o : List Int), i + d = t.length → mOk s l o (t.drop i) → ∃ r, IsSA s r ∧ Ev (fun k => skew_sorted.l1 k s o rk l t (t.length : Int) (i : Int)) r := by
  have hn := hok.1
  intro d
  induction d with
  | zero =>
    intro i l o hd h
    have hlen := h.2.1
    rw [List.drop_of_length_le (by omega)] at h
    refine ⟨l ++ o, h.done, ?_⟩
    refine Ev.step (fun k => by rw [skew_sorted.l1]) ?_
    simp only [if_neg (show ¬ (i : Int) < t.length by omega), if_pos (show l.length + o.length < 17592186044416 by omega)]
    exact Ev.now _
  | succ d ih =>
    intro i l o hd h
    have hi : i < t.length := by omega
    obtain ⟨r, hrs, hev⟩ := sorted_l2 hok hr hi ht (fun l o h => ih (i + 1) l o (by omega) h) o l h
    refine ⟨r, hrs, ?_⟩
    refine Ev.step (fun k => by rw [skew_sorted.l1]) ?_
    simp only [if_pos (show (i : Int) < t.length by omega), if_pos (show 0 ≤ (i : Int) by omega), rd_nat]
    exact hev

/-- the ranks behind each place -/
def behL (rk : List Int) (n : Nat) : List Int := (List.range n).map (fun (i : Nat) => rk.getD (i + 1) 0)

theorem behL_length (rk : List Int) (n : Nat) : (behL rk n).length = n := by simp [behL]

theorem behL_get {rk : List Int} {n i : Nat} (h : i < n) : (behL rk n).getD i 0 = rk.getD (i + 1) 0 := by
  unfold behL
  rw [List.getD_eq_getElem?_getD, List.getElem?_map, List.getElem?_range h]; rfl

theorem rOk_bd {s o rk : List Int} (h : rOk s o rk) (hol : o.length ≤ s.length) (p : Nat) : 0 ≤ rk.getD p 0 ∧ rk.getD p 0 ≤ (s.length : Int) := by
  by_cases hp : s.length ≤ p ∨ p % 3 = 0
  · rw [h.out hp]; omega
  · obtain ⟨i, hi, _, ri⟩ := h.at_ (p := p) (by omega) (by omega)
    omega

theorem rOk_len {s o rk : List Int} (h : rOk s o rk) : o.length = (s.length + 1) / 3 + s.length / 3 := by
  have hnd : o.Nodup := h.1.imp (fun {x y} hxy => by rintro rfl; exact ltL_irrefl _ hxy)
  have hsn : (smpL s.length).Nodup := smpL_ne s.length
  have h1 : o.length ≤ (smpL s.length).length := nd_len hnd (fun x hx => smpL_mem.2 ((h.2.1 x).1 hx))
  have h2 : (smpL s.length).length ≤ o.length := nd_len hsn (fun x hx => (h.2.1 x).2 (smpL_mem.1 hx))
  rw [smpL_length] at h1 h2
  omega

theorem sorted_l0 {s o rk : List Int} {kk : Int} (hok : okS s kk) (hk : 0 ≤ kk) (hr : rOk s o rk) : ∀ (d i : Nat) (b : List Int), i + d = s.length → b.length = s.length → (∀ j, j < i → b.getD j 0 = rk.getD (j + 1) 0) →
    ∃ r, IsSA s r ∧ Ev (fun k => skew_sorted.l0 k s kk o rk (plL 0 ((s.length + 2) / 3)) b (s.length : Int) (i : Int)) r := by
  have hn := hok.1
  have hol := (rOk_len hr)
  intro d
  induction d with
  | zero =>
    intro i b hd hbl hb
    obtain rfl : b = behL rk s.length := ext_getD (by rw [behL_length, hbl]) (fun j hj => by rw [behL_get (by omega), hb j (by omega)])
    have hplm : ∀ x, x ∈ plL 0 ((s.length + 2) / 3) ↔ 0 ≤ x ∧ x < (s.length : Int) ∧ x % 3 = 0 := fun x => by
      rw [plL_mem]
      constructor
      · rintro ⟨j, hj, rfl⟩; omega
      · rintro ⟨h1, h2, h3⟩; exact ⟨(x / 3).toNat, by omega, by omega⟩
    have hkb : okKeys (behL rk s.length) ((s.length : Int) + 1) := by
      refine ⟨by omega, by omega, fun x hx => ?_⟩
      obtain ⟨j, _, rfl⟩ := List.mem_map.1 hx
      have := rOk_bd hr (by omega) (j + 1)
      omega
    have hb1 : ∀ x ∈ plL 0 ((s.length + 2) / 3), 0 ≤ keyOf (behL rk s.length) x ∧ keyOf (behL rk s.length) x < (((s.length : Int) + 1).toNat : Int) := fun x hx => by
      have h1 := (hplm x).1 hx
      have := key_ok hkb h1.1 (by rw [behL_length]; exact h1.2.1)
      omega
    have m1 : ∀ x, x ∈ stab (keyOf (behL rk s.length)) (plL 0 ((s.length + 2) / 3)) ((s.length : Int) + 1).toNat ↔ 0 ≤ x ∧ x < (s.length : Int) ∧ x % 3 = 0 := fun x => by
      rw [stab_mem, ← hplm]; exact ⟨fun h => h.1, fun h => ⟨h, hb1 x h⟩⟩
    have l1 := stab_all hb1
    rw [plL_length] at l1
    have hpw := stab_pairwise (kf := keyOf (kysL s 0)) (stab_pairwise (kf := keyOf (behL rk s.length)) (plL_rises 0 ((s.length + 2) / 3)) ((s.length : Int) + 1).toNat) (kk + 1).toNat
    generalize h1 : stab (keyOf (behL rk s.length)) (plL 0 ((s.length + 2) / 3)) ((s.length : Int) + 1).toNat = t1 at m1 l1 hpw
    have s0 := stab_of_keys hok hk 0 (o := t1) (fun x hx => by have := (m1 x).1 hx; omega)
    generalize h2 : stab (keyOf (kysL s 0)) t1 (kk + 1).toNat = t0 at s0 hpw
    have m0 : ∀ x, x ∈ t0 ↔ 0 ≤ x ∧ x < (s.length : Int) ∧ x % 3 = 0 := fun x => by rw [s0.2]; exact m1 x
    have hsort : t0.Pairwise (sufLt s) := by
      refine List.Pairwise.imp_of_mem (fun {x y} hx hy h => ?_) hpw
      have mx := (m0 x).1 hx
      have my := (m0 y).1 hy
      rw [keyOf_kys mx.1 mx.2.1, keyOf_kys my.1 my.2.1] at h
      simp only [keyOf, Nat.add_zero] at h
      rw [behL_get (show x.toNat < s.length by omega), behL_get (show y.toNat < s.length by omega)] at h
      have hne : x ≠ y := fun e => by subst e; omega
      have := others_suf hr (x := x.toNat) (y := y.toNat) (by omega) (by omega) (by omega) (by omega) (by omega) (by omega)
      rwa [Int.toNat_of_nonneg mx.1, Int.toNat_of_nonneg my.1] at this
    have hM : mOk s [] o (t0.drop 0) := by
      refine ⟨⟨.nil, hr.1, by simpa using hsort, by simp, by simp⟩, ?_, by simp, fun x hx => (hr.2.1 x).1 hx, fun x hx => (m0 x).1 (by simpa using hx)⟩
      simp only [List.length_nil, List.drop_zero]
      omega
    obtain ⟨r, hrs, hev⟩ := sorted_l1 hok hr (t := t0) (by omega) t0.length 0 [] o (by omega) hM
    refine ⟨r, hrs, ?_⟩
    refine Ev.step (fun k => by rw [skew_sorted.l0]) ?_
    simp only [if_neg (show ¬ (i : Int) < s.length by omega)]
    have hkk := hok.2.1
    rw [wrap64_id (x := (s.length : Int) + 1) (by omega) (by omega), wrap64_id (x := kk + 1) (by omega) (by omega)]
    refine Ev.bind (bucket_Pass_ev _ _ _ (by rw [plL_length]; omega) (by rw [behL_length]; omega)) ?_
    rw [passR, if_pos ⟨hkb, fun x hx => by have := (hplm x).1 hx; rw [behL_length]; omega⟩, h1]
    refine Ev.bind (skew_keys_ev hok 0 (by omega)) ?_
    refine Ev.bind (bucket_Pass_ev _ _ _ (show t1.length ≤ _ by omega) (by rw [kysL_length]; omega)) ?_
    rw [passR, if_pos ⟨kysL_okKeys hok hk 0, fun x hx => by have := (m1 x).1 hx; rw [kysL_length]; omega⟩, h2]
    exact hev
  | succ d ih =>
    intro i b hd hbl hb
    have hi : i < s.length := by omega
    have hrl := hr.2.2.1
    obtain ⟨r, hrs, hev⟩ := ih (i + 1) (b.set i (rk.getD (i + 1) 0)) (by omega) (by rw [List.length_set, hbl]) (fun j hj => by
      rw [lset (by omega)]
      by_cases e : i = j
      · rw [if_pos e, e]
      · rw [if_neg e]; exact hb j (by omega))
    refine ⟨r, hrs, ?_⟩
    refine Ev.step (fun k => by rw [skew_sorted.l0]) ?_
    rw [wrap_nat hi (show s.length ≤ 140737488355328 by omega)]
    simp only [if_pos (show (i : Int) < s.length by omega), if_pos (show (0 : Int) ≤ ((i + 1 : Nat) : Int) by omega), if_pos (show ((i + 1 : Nat) : Int) < (rk.length : Int) by omega), if_pos (show (0 : Int) ≤ (i : Int) by omega), if_pos (show (i : Int) < (b.length : Int) by omega), rd_nat, Int.toNat_natCast]
    exact hev

theorem skew_sorted_ev : ∀ (n : Nat) (s : List Int) (kk : Int), s.length < n → okS s kk → ∃ a, IsSA s a ∧ Ev (fun k => skew_sorted.f k s kk) a := by
  intro n
  induction n with
  | zero => intro s kk h; omega
  | succ n ih =>
    intro s kk hlt hok
    have hn := hok.1
    have hpl := skew_places_ev s.length 0 (by omega) (by omega)
    by_cases h2 : s.length < 2
    · refine ⟨(plL 0 ((s.length + 2) / 3)).take s.length, ?_, ?_⟩
      · have hc : s.length = 0 ∨ s.length = 1 := by omega
        rcases hc with hc | hc
        · rw [hc]; exact ⟨by rw [hc]; rfl, by simp, by simp⟩
        · rw [hc]
          have e : (plL 0 ((1 + 2) / 3)).take 1 = [0] := by decide
          rw [e]
          exact ⟨by rw [hc]; rfl, fun x hx => by rw [List.mem_singleton] at hx; omega, by simp⟩
      · refine Ev.step (fun k => by rw [skew_sorted.f]) ?_
        simp only [if_pos (show (s.length : Int) < 2 by omega)]
        refine Ev.bind hpl ?_
        simp only [plL_length, if_pos (show 0 ≤ (s.length : Int) by omega), Int.toNat_natCast]
        rw [if_pos (show (s.length : Int) ≤ (((s.length + 2 - 0) / 3 : Nat) : Int) by omega)]
        exact Ev.now _
    · have hk : 0 ≤ kk := by
        have := hok.2.2 _ (getD_mem (show 0 < s.length by omega))
        omega
      have hsf : sfOk (fun k => skew_sorted.f k) s.length := fun b m hb hbl => ih b m (by omega) hb
      obtain ⟨r, hr, hre⟩ := skew_ranked_ev hok hk hsf
      obtain ⟨a, ha, hev⟩ := sorted_l0 hok hk hr s.length 0 (List.replicate s.length 0) (by omega) (by simp) (fun j hj => by omega)
      refine ⟨a, ha, ?_⟩
      refine Ev.step (fun k => by rw [skew_sorted.f]) ?_
      simp only [if_neg (show ¬ (s.length : Int) < 2 by omega)]
      refine Ev.bind hre ?_
      refine Ev.bind hpl ?_
      simp only [Int.toNat_natCast, if_pos (show 0 ≤ (s.length : Int) by omega), if_pos (show s.length ≤ 35184372088832 by omega), Option.bind_some, List.length_replicate]
      exact hev

-- math: W Base Perm SA Stab Kinds Lcp Skew
-- with: bucket skew skew_ranked skew_sorted
theorem sum_set : ∀ {l : List Int} {i : Nat} {v : Int}, i < l.length → (l.set i v).sum = l.sum - l.getD i 0 + v
  | [], i, v, h => by simp at h
  | x :: l, 0, v, _ => by simp only [List.set_cons_zero, List.sum_cons, List.getD_cons_zero]; omega
  | x :: l, i + 1, v, h => by
    have := sum_set (l := l) (i := i) (v := v) (by simpa using h)
    simp only [List.set_cons_succ, List.sum_cons, List.getD_cons_succ]; omega

theorem sum_rep (n : Nat) : (List.replicate n (0 : Int)).sum = 0 := by
  induction n with
  | zero => rfl
  | succ n ih => rw [List.replicate_succ, List.sum_cons, ih]; rfl

/-- noughts and ones -/
def bits (l : List Int) : Prop := ∀ i, l.getD i 0 = 0 ∨ l.getD i 0 = 1

theorem bits_sum {l : List Int} (h : bits l) : ∀ {j : Nat}, j ≤ l.length → 0 ≤ (l.take j).sum ∧ (l.take j).sum ≤ (j : Int)
  | 0, _ => by simp
  | j + 1, hj => by
    have := bits_sum h (j := j) (by omega)
    rw [sum_next (by omega)]
    have := h j
    omega

theorem bits_mono {l : List Int} (h : bits l) {i : Nat} : ∀ {j : Nat}, i ≤ j → j ≤ l.length → (l.take i).sum ≤ (l.take j).sum
  | 0, hi, _ => by rw [show i = 0 by omega]; omega
  | j + 1, hi, hj => by
    by_cases e : i = j + 1
    · rw [e]; omega
    · have := bits_mono h (i := i) (j := j) (by omega) (by omega)
      rw [sum_next (by omega)]
      have := h j
      omega

/-- a number squeezed -/
def sqz (th : List Int) (x : Int) : Int := (th.take x.toNat).sum

theorem sqz_lt {th : List Int} (h : bits th) {x y : Int} (hx : 0 ≤ x) (hxl : x < (th.length : Int)) (hy : y < (th.length : Int)) (hx1 : th.getD x.toNat 0 = 1) (hxy : x < y) : sqz th x < sqz th y := by
  unfold sqz
  have h1 := bits_mono h (i := x.toNat + 1) (j := y.toNat) (by omega) (by omega)
  rw [sum_next (by omega), hx1] at h1
  omega

theorem squeezed_l2 {s th : List Int} (hn : s.length ≤ 100000) (hr : ∀ x ∈ s, 0 ≤ x ∧ x < (th.length : Int)) : ∀ (d i : Nat) (l : List Int), i + d = s.length → l.length = s.length → (∀ j, j < i → l.getD j 0 = sqz th (s.getD j 0)) →
    Ev (fun k => skew_squeezed.l2 k (startsOf th) l s (s.length : Int) (i : Int)) (s.map (sqz th)) := by
  intro d
  induction d with
  | zero =>
    intro i l hd hl hp
    refine Ev.step (fun k => by rw [skew_squeezed.l2]) ?_
    simp only [if_neg (show ¬ (i : Int) < s.length by omega)]
    rw [ext_getD (a := l) (b := s.map (sqz th)) (by rw [hl, List.length_map]) (fun j hj => by
      rw [hp j (by omega), List.getD_eq_getElem?_getD (l := s.map _), List.getElem?_map, List.getElem?_eq_getElem (by omega), List.getD_eq_getElem?_getD, List.getElem?_eq_getElem (by omega)]; rfl)]
    exact Ev.now _
  | succ d ih =>
    intro i l hd hl hp
    have hi : i < s.length := by omega
    have hx := hr _ (getD_mem hi)
    refine Ev.step (fun k => by rw [skew_squeezed.l2]) ?_
    have e : rd (startsOf th) (s.getD i 0) = sqz th (s.getD i 0) := by rw [rd, startsOf_get (by omega)]; rfl
    simp only [if_pos (show (i : Int) < s.length by omega), if_pos (show 0 ≤ (i : Int) by omega), rd_nat, if_pos hx.1, startsOf_length, if_pos hx.2, if_pos (show (i : Int) < (l.length : Int) by omega), e, Int.toNat_natCast, wrap_nat hi (show s.length ≤ 140737488355328 by omega)]
    refine ih (i + 1) _ (by omega) (by rw [List.length_set, hl]) (fun j hj => ?_)
    rw [lset (by omega)]
    by_cases e2 : i = j
    · rw [if_pos e2, e2]
    · rw [if_neg e2]; exact hp j (by omega)

/-- what squeezed answers: the same order, and small -/
def sqOk (s t : List Int) : Prop := t.length = s.length ∧ (∀ x ∈ t, 0 ≤ x ∧ x ≤ (s.length : Int)) ∧ ∀ i j, i < s.length → j < s.length → (t.getD i 0 < t.getD j 0 ↔ s.getD i 0 < s.getD j 0)

theorem map_getD {f : Int → Int} {s : List Int} {i : Nat} (h : i < s.length) : (s.map f).getD i 0 = f (s.getD i 0) := by
  simp [List.getD_eq_getElem?_getD, List.getElem?_map, List.getElem?_eq_getElem h]

theorem squeezed_l1 {s : List Int} (hn : s.length ≤ 100000) {m : Nat} (hm : m ≤ 2000000) (hr : ∀ x ∈ s, 0 ≤ x ∧ x < (m : Int)) : ∀ (d i : Nat) (th : List Int), i + d = s.length → th.length = m → bits th → th.sum ≤ (i : Int) → (∀ x ∈ s.take i, th.getD x.toNat 0 = 1) →
    ∃ t, sqOk s t ∧ Ev (fun k => skew_squeezed.l1 k s th s (s.length : Int) (i : Int)) t := by
  intro d
  induction d with
  | zero =>
    intro i th hd hl hb hs h1
    rw [List.take_of_length_le (by omega)] at h1
    refine ⟨s.map (sqz th), ⟨by rw [List.length_map], fun x hx => ?_, fun i' j hi hj => ?_⟩, ?_⟩
    · obtain ⟨y, hy, rfl⟩ := List.mem_map.1 hx
      have hy1 := hr y hy
      have h2 := bits_sum hb (j := y.toNat) (by omega)
      have h3 := bits_mono hb (i := y.toNat) (j := th.length) (by omega) (by omega)
      rw [List.take_length] at h3
      unfold sqz
      omega
    · rw [map_getD hi, map_getD hj]
      have hi1 := hr _ (getD_mem hi)
      have hj1 := hr _ (getD_mem hj)
      constructor
      · intro hlt
        rcases Int.lt_trichotomy (s.getD i' 0) (s.getD j 0) with k | k | k
        · exact k
        · rw [k] at hlt; omega
        · have := sqz_lt hb hj1.1 (by omega) (by omega) (h1 _ (getD_mem hj)) k
          omega
      · intro hlt
        exact sqz_lt hb hi1.1 (by omega) (by omega) (h1 _ (getD_mem hi)) hlt
    · refine Ev.step (fun k => by rw [skew_squeezed.l1]) ?_
      simp only [if_neg (show ¬ (i : Int) < s.length by omega)]
      refine Ev.bind (bucket_Starts_ev th (by omega) (fun j hj => ?_)) ?_
      · have := bits_sum hb hj
        omega
      · simp only [if_pos (show 0 ≤ (s.length : Int) by omega), Int.toNat_natCast, if_pos (show s.length ≤ 35184372088832 by omega)]
        exact squeezed_l2 hn (fun x hx => by rw [hl]; exact hr x hx) s.length 0 _ (by omega) (by simp) (fun j hj => by omega)
  | succ d ih =>
    intro i th hd hl hb hs h1
    have hi : i < s.length := by omega
    have hx := hr _ (getD_mem hi)
    have hbi := hb (s.getD i 0).toNat
    obtain ⟨t, ht, hev⟩ := ih (i + 1) (th.set (s.getD i 0).toNat 1) (by omega) (by rw [List.length_set, hl]) (fun j => by
      rw [lset (by omega)]
      by_cases e : (s.getD i 0).toNat = j
      · rw [if_pos e]; exact .inr rfl
      · rw [if_neg e]; exact hb j) (by rw [sum_set (by omega)]; omega) (fun x hx2 => by
      rw [lset (by omega)]
      by_cases e : (s.getD i 0).toNat = x.toNat
      · rw [if_pos e]
      · rw [if_neg e]
        rw [take_next hi, List.mem_append, List.mem_singleton] at hx2
        rcases hx2 with hx2 | hx2
        · exact h1 x hx2
        · exact absurd (by rw [hx2]) e)
    refine ⟨t, ht, ?_⟩
    refine Ev.step (fun k => by rw [skew_squeezed.l1]) ?_
    simp only [if_pos (show (i : Int) < s.length by omega), if_pos (show 0 ≤ (i : Int) by omega), rd_nat, if_pos hx.1, if_pos (show s.getD i 0 < (th.length : Int) by omega), wrap_nat hi (show s.length ≤ 140737488355328 by omega)]
    exact hev

theorem squeezed_l0 {s : List Int} (hn : s.length ≤ 100000) (hr : ∀ x ∈ s, 0 ≤ x ∧ x < 1048576) : ∀ (d i : Nat) (m : Int), i + d = s.length → 0 ≤ m → m < 1048576 → (∀ x ∈ s.take i, x ≤ m) →
    ∃ t, sqOk s t ∧ Ev (fun k => skew_squeezed.l0 k s m s (s.length : Int) (i : Int)) t := by
  intro d
  induction d with
  | zero =>
    intro i m hd h0 h1 hm
    rw [List.take_of_length_le (by omega)] at hm
    obtain ⟨t, ht, hev⟩ := squeezed_l1 hn (m := (m + 1).toNat) (by omega) (fun x hx => by have := hr x hx; have := hm x hx; omega) s.length 0 (List.replicate (m + 1).toNat 0) (by omega) (by simp) (fun j => .inl getD_replicate) (by rw [sum_rep]; omega) (by simp)
    refine ⟨t, ht, ?_⟩
    refine Ev.step (fun k => by rw [skew_squeezed.l0]) ?_
    rw [wrap64_id (x := m + 1) (by omega) (by omega)]
    simp only [if_neg (show ¬ (i : Int) < s.length by omega), if_pos (show 0 ≤ m + 1 by omega), if_pos (show (m + 1).toNat ≤ 35184372088832 by omega)]
    exact hev
  | succ d ih =>
    intro i m hd h0 h1 hm
    have hi : i < s.length := by omega
    have hx := hr _ (getD_mem hi)
    have hmx : mx m (s.getD i 0) = m ∨ mx m (s.getD i 0) = s.getD i 0 := by unfold mx; split <;> simp
    have hmx2 : m ≤ mx m (s.getD i 0) ∧ s.getD i 0 ≤ mx m (s.getD i 0) := by unfold mx; split <;> omega
    obtain ⟨t, ht, hev⟩ := ih (i + 1) (mx m (s.getD i 0)) (by omega) (by omega) (by omega) (fun x hx2 => by
      rw [take_next hi, List.mem_append, List.mem_singleton] at hx2
      rcases hx2 with hx2 | hx2
      · have := hm x hx2; omega
      · omega)
    refine ⟨t, ht, ?_⟩
    refine Ev.step (fun k => by rw [skew_squeezed.l0]) ?_
    simp only [if_pos (show (i : Int) < s.length by omega), if_pos (show 0 ≤ (i : Int) by omega), rd_nat, wrap_nat hi (show s.length ≤ 140737488355328 by omega)]
    exact hev

theorem skew_squeezed_ev {s : List Int} (hn : s.length ≤ 100000) (hr : ∀ x ∈ s, 0 ≤ x ∧ x < 1048576) : ∃ t, sqOk s t ∧ Ev (fun k => skew_squeezed.f k s) t := by
  obtain ⟨t, ht, hev⟩ := squeezed_l0 hn hr s.length 0 0 (by omega) (by omega) (by omega) (by simp)
  exact ⟨t, ht, Ev.congr (fun k => by rw [skew_squeezed.f]; rfl) hev⟩

theorem skew_Ints_long {s : List Int} {k : Int} (h : 100000 < s.length) : Ev (fun j => skew_Ints.f j s k) ([], 2) := by
  refine Ev.congr (fun k => by rw [skew_Ints.f]) ?_
  simp only [if_pos (show (s.length : Int) > 100000 by omega)]
  exact Ev.now _

theorem skew_Ints_no {s : List Int} {k : Int} (h : s.length ≤ 100000) (hk : ¬ okKeys s k) : Ev (fun j => skew_Ints.f j s k) ([], 1) := by
  refine Ev.congr (fun k => by rw [skew_Ints.f]) ?_
  simp only [if_neg (show ¬ (s.length : Int) > 100000 by omega)]
  refine Ev.bind (bucket_Counts_ev s k (by omega)) ?_
  simp only [countsR, if_neg hk, if_neg (show ¬ false = true by decide)]
  exact Ev.now _

theorem skew_Ints_yes {s : List Int} {k : Int} (h : s.length ≤ 100000) (hk : okKeys s k) : ∃ a, IsSA s a ∧ Ev (fun j => skew_Ints.f j s k) (a, 0) := by
  obtain ⟨t, ht, hte⟩ := skew_squeezed_ev h (fun x hx => by have := hk.2.2 x hx; have := hk.2.1; omega)
  obtain ⟨a, ha, hae⟩ := skew_sorted_ev (t.length + 1) t ((s.length : Int) + 1) (by omega) ⟨by rw [ht.1]; omega, by omega, fun x hx => by have := ht.2.1 x hx; omega⟩
  refine ⟨a, isSA_mono ht.1 (fun i j hi hj => ht.2.2 i j (by rw [← ht.1]; exact hi) (by rw [← ht.1]; exact hj)) ha, ?_⟩
  refine Ev.congr (fun k => by rw [skew_Ints.f]) ?_
  simp only [if_neg (show ¬ (s.length : Int) > 100000 by omega)]
  refine Ev.bind (bucket_Counts_ev s k (by omega)) ?_
  simp only [countsR, if_pos hk, if_true]
  refine Ev.bind hte ?_
  rw [wrap64_id (x := (s.length : Int) + 1) (by omega) (by omega)]
  refine Ev.bind hae ?_
  exact Ev.now _

-- math: W Base Perm SA Stab Kinds Lcp Skew
-- with: bucket skew skew_ranked skew_sorted skew_Ints
theorem skew_Bytes_l0 {s : List Int} (hn : s.length ≤ 100000) (hb : ∀ x ∈ s, 0 ≤ x ∧ x ≤ 255) {r : List Int × Int} (hr : Ev (fun k => skew_Ints.f k s 256) r) : ∀ (d i : Nat) (l : List Int), i + d = s.length → l.length = s.length → (∀ j, j < i → l.getD j 0 = s.getD j 0) →
    Ev (fun k => skew_Bytes.l0 k l s (s.length : Int) (i : Int)) r := by
  intro d
  induction d with
  | zero =>
    intro i l hd hl hp
    obtain rfl : l = s := ext_getD hl (fun j hj => hp j (by omega))
    refine Ev.step (fun k => by rw [skew_Bytes.l0]) ?_
    simp only [if_neg (show ¬ (i : Int) < l.length by omega)]
    exact Ev.bind hr (Ev.now _)
  | succ d ih =>
    intro i l hd hl hp
    have hi : i < s.length := by omega
    have hx := hb _ (getD_mem hi)
    refine Ev.step (fun k => by rw [skew_Bytes.l0]) ?_
    rw [rd_nat, wrap64_id (x := s.getD i 0) (by omega) (by omega)]
    simp only [if_pos (show (i : Int) < s.length by omega), if_pos (show 0 ≤ (i : Int) by omega), if_pos (show (i : Int) < (l.length : Int) by omega), Int.toNat_natCast, wrap_nat hi (show s.length ≤ 140737488355328 by omega)]
    refine ih (i + 1) _ (by omega) (by rw [List.length_set, hl]) (fun j hj => ?_)
    rw [lset (by omega)]
    by_cases e : i = j
    · rw [if_pos e, e]
    · rw [if_neg e]; exact hp j (by omega)

theorem skew_Bytes_long {s : List Int} (h : 100000 < s.length) : Ev (fun j => skew_Bytes.f j s) ([], 2) := by
  refine Ev.congr (fun k => by rw [skew_Bytes.f]) ?_
  simp only [if_pos (show (s.length : Int) > 100000 by omega)]
  exact Ev.now _

theorem skew_Bytes_ev {s : List Int} (hn : s.length ≤ 100000) (hb : ∀ x ∈ s, 0 ≤ x ∧ x ≤ 255) : ∃ a, IsSA s a ∧ Ev (fun j => skew_Bytes.f j s) (a, 0) := by
  obtain ⟨a, ha, hev⟩ := skew_Ints_yes (s := s) (k := 256) hn ⟨by omega, by omega, fun x hx => by have := hb x hx; omega⟩
  refine ⟨a, ha, ?_⟩
  refine Ev.congr (fun k => by rw [skew_Bytes.f]) ?_
  simp only [if_neg (show ¬ (s.length : Int) > 100000 by omega), if_pos (show 0 ≤ (s.length : Int) by omega), Int.toNat_natCast, if_pos (show s.length ≤ 35184372088832 by omega)]
  exact skew_Bytes_l0 hn hb hev s.length 0 _ (by omega) (by simp) (fun j hj => by omega)

-- math: W Base Perm
theorem ref4_Ints_l0 (a b : List Int) (hl : a.length = b.length) (hn : a.length ≤ 140737488355328) : ∀ (d i : Nat), i + d = a.length → (∀ j, j < i → a.getD j 0 = b.getD j 0) → Ev (fun k => whorlref4_Ints.l0 k a b (i : Int)) (decide (a = b)) := by
  intro d
  induction d with
  | zero =>
    intro i hd h
    refine Ev.step (fun k => by rw [whorlref4_Ints.l0]) ?_
    simp only [if_neg (show ¬ (i : Int) < a.length by omega)]
    rw [decide_eq_true (ext_getD hl (fun j hj => h j (by omega)))]
    exact Ev.now _
  | succ d ih =>
    intro i hd h
    have hi : i < a.length := by omega
    refine Ev.step (fun k => by rw [whorlref4_Ints.l0]) ?_
    simp only [if_pos (show (i : Int) < a.length by omega), if_pos (show 0 ≤ (i : Int) by omega), if_pos (show (i : Int) < b.length by omega), rd_nat, wrap_nat hi hn]
    by_cases e : a.getD i 0 = b.getD i 0
    · simp only [if_pos e]
      refine ih (i + 1) (by omega) (fun j hj => ?_)
      by_cases e2 : j = i
      · rw [e2]; exact e
      · exact h j (by omega)
    · simp only [if_neg e]
      rw [decide_eq_false (fun hab => e (by rw [hab]))]
      exact Ev.now _

theorem ref4_Ints_ev (a b : List Int) (hn : a.length ≤ 140737488355328) : Ev (fun k => whorlref4_Ints.f k a b) (decide (a = b)) := by
  refine Ev.congr (fun k => by rw [whorlref4_Ints.f]) ?_
  by_cases e : a.length = b.length
  · simp only [if_pos (show (a.length : Int) = b.length by omega)]
    exact ref4_Ints_l0 a b e hn a.length 0 (by omega) (fun j hj => by omega)
  · simp only [if_neg (show ¬ (a.length : Int) = b.length by omega)]
    rw [decide_eq_false (fun hab => e (by rw [hab]))]
    exact Ev.now _

-- with: skew_Bytes ref4_Ints
theorem known_ev : Ev (fun k => whorllaw14_known.f k) true := by
  refine Ev.congr (fun k => by rw [whorllaw14_known.f]) ?_
  obtain ⟨a, ha, hev⟩ := skew_Bytes_ev (s := [98, 97, 110, 97, 110, 97]) (by decide) (by decide)
  have hb : IsSA [98, 97, 110, 97, 110, 97] [5, 3, 1, 0, 4, 2] := by unfold IsSA sufLt; decide
  obtain rfl := ha.uniq hb
  refine Ev.bind hev ?_
  simp only [if_true]
  refine Ev.bind (ref4_Ints_ev _ _ (by decide)) ?_
  exact Ev.now _

-- math: W Base Perm SA Kinds
theorem ref11_Words_l0 (a b : List Int) (ha : a.length ≤ 140737488355328) : ∀ (d i : Nat), i + d = a.length → i ≤ b.length → a.take i = b.take i → Ev (fun k => whorlref11_Words.l0 k a b (i : Int)) (cmpL a b) := by
  intro d
  induction d with
  | zero =>
    intro i hd hb h
    have e : cmpL a b = cmpL (a.drop i) (b.drop i) := by
      conv => lhs; rw [← List.take_append_drop i a, ← List.take_append_drop i b, h]
      rw [cmpL_append]
    refine Ev.step (fun k => by rw [whorlref11_Words.l0]) ?_
    simp only [if_neg (show ¬ (i : Int) < a.length by omega)]
    refine Ev.step (fun k => by rw [whorlref11_Words.j1]) ?_
    simp only [if_neg (show ¬ false = true by decide)]
    rw [e, List.drop_of_length_le (show a.length ≤ i by omega)]
    by_cases h1 : a.length < b.length
    · simp only [if_pos (show (a.length : Int) < b.length by omega)]
      have : ltL [] (b.drop i) := ltL_nil.2 (fun e => by have := congrArg List.length e; rw [List.length_drop] at this; simp only [List.length_nil] at this; omega)
      rw [this]; exact Ev.now _
    · simp only [if_neg (show ¬ (a.length : Int) < b.length by omega), if_neg (show ¬ (a.length : Int) > b.length by omega)]
      rw [List.drop_of_length_le (show b.length ≤ i by omega)]
      exact Ev.now _
  | succ d ih =>
    intro i hd hb h
    have hi : i < a.length := by omega
    have e : cmpL a b = cmpL (a.drop i) (b.drop i) := by
      conv => lhs; rw [← List.take_append_drop i a, ← List.take_append_drop i b, h]
      rw [cmpL_append]
    refine Ev.step (fun k => by rw [whorlref11_Words.l0]) ?_
    simp only [if_pos (show (i : Int) < a.length by omega)]
    refine Ev.step (fun k => by rw [whorlref11_Words.j1]) ?_
    by_cases hib : i < b.length
    · simp only [show decide ((i : Int) < b.length) = true by simpa using hib, if_true, if_pos (show 0 ≤ (i : Int) by omega), if_pos (show (i : Int) < a.length by omega), if_pos (show (i : Int) < b.length by omega), rd_nat, wrap_nat hi ha]
      have e2 : cmpL (a.drop i) (b.drop i) = if a.getD i 0 < b.getD i 0 then -1 else if b.getD i 0 < a.getD i 0 then 1 else cmpL (a.drop (i + 1)) (b.drop (i + 1)) := by
        rw [drop_cons_get hi, drop_cons_get hib, cmpL]
      rw [e, e2]
      by_cases h1 : a.getD i 0 < b.getD i 0
      · simp only [if_pos h1]; exact Ev.now _
      · by_cases h2 : a.getD i 0 > b.getD i 0
        · simp only [if_neg h1, if_pos h2]; exact Ev.now _
        · simp only [if_neg h1, if_neg h2]
          have e3 : cmpL (a.drop (i + 1)) (b.drop (i + 1)) = cmpL a b := by
            rw [e, e2, if_neg h1, if_neg h2]
          rw [e3]
          exact ih (i + 1) (by omega) (by omega) (by rw [take_next hi, take_next hib, h, show a.getD i 0 = b.getD i 0 by omega])
    · simp only [show decide ((i : Int) < b.length) = false by simpa using hib, if_neg (show ¬ false = true by decide), if_neg (show ¬ (a.length : Int) < b.length by omega), if_pos (show (a.length : Int) > b.length by omega)]
      rw [e, List.drop_of_length_le (show b.length ≤ i by omega), drop_cons_get hi]
      exact Ev.now _

theorem ref11_Words_ev (a b : List Int) (ha : a.length ≤ 140737488355328) : Ev (fun k => whorlref11_Words.f k a b) (cmpL a b) :=
  Ev.congr (fun k => rfl) (ref11_Words_l0 a b ha a.length 0 (by omega) (by omega) (by simp))


-- math: W Base Perm SA Kinds Ins
-- with: ref11
/-- so far -/
def ordSo (s out : List Int) (i : Nat) : Prop := out.length = i ∧ out.Pairwise (sufLt s) ∧ ∀ x, x ∈ out ↔ 0 ≤ x ∧ x < (i : Int)

theorem Order_l1 (s : List Int) (hn : s.length < 17592186044416) (i : Nat) (hi : i < s.length) (out : List Int) (ho : ordSo s out i) (R : List Int)
    (K : ∀ out', ordSo s out' (i + 1) → Ev (fun k => whorlref13_Order.l0 k s out' ((i + 1 : Nat) : Int)) R) : ∀ (j : Nat), j ≤ i → (∀ q, j ≤ q → q < i → sufLt s i (out.getD q 0)) → Ev (fun k => whorlref13_Order.l1 k s out (i : Int) (j : Int)) R := by
  obtain ⟨hl, hp, hm⟩ := ho
  have fin : ∀ j : Nat, j ≤ i → (∀ q, j ≤ q → q < i → sufLt s i (out.getD q 0)) → (∀ q, q < j → sufLt s (out.getD q 0) i) → ordSo s (out.take j ++ [(i : Int)] ++ out.drop j) (i + 1) := fun j hj h2 h1 =>
    ⟨by rw [ins_length (by omega), hl], ins_pw hp (by omega) h1 (fun q hq1 hq2 => h2 q hq1 (by omega)), fun x => by rw [ins_mem, hm]; omega⟩
  intro j
  induction j with
  | zero =>
    intro hj h2
    refine Ev.step (fun k => by rw [whorlref13_Order.l1]) ?_
    have hf := K _ (fin 0 hj h2 (fun q hq => by omega))
    simp only [if_neg (show ¬ ((0 : Nat) : Int) > 0 by omega), Option.bind_some, Int.toNat_natCast, List.nil_append, List.length_nil, List.length_take, List.length_append, List.length_singleton, List.length_drop]
    simp only [if_pos (show (0 : Int) ≤ ((0 : Nat) : Int) by omega), if_pos (show ((0 : Nat) : Int) ≤ out.length by omega), if_pos (show 0 + min 0 out.length < 17592186044416 by omega), if_pos (show 0 + min 0 out.length + 1 < 17592186044416 by omega), if_pos (show 0 + min 0 out.length + 1 + (out.length - 0) < 17592186044416 by omega), wrap_nat hi (show s.length ≤ 140737488355328 by omega)]
    exact hf
  | succ j ih =>
    intro hj h2
    have hx := (hm (out.getD j 0)).1 (getD_mem (by omega))
    have w : wrap64 (((j + 1 : Nat) : Int) - 1) = (j : Int) := by rw [wrap64_id (by omega) (by omega)]; omega
    refine Ev.step (fun k => by rw [whorlref13_Order.l1]) ?_
    simp only [w, rd_nat]
    clear w
    simp only [if_pos (show ((j + 1 : Nat) : Int) > 0 by omega), if_pos (show 0 ≤ (i : Int) by omega), if_pos (show (i : Int) ≤ s.length by omega), if_pos (show 0 ≤ (j : Int) by omega), if_pos (show (j : Int) < out.length by omega), if_pos hx.1, if_pos (show out.getD j 0 ≤ s.length by omega), Int.toNat_natCast]
    refine Ev.bind (ref11_Words_ev _ _ (by rw [List.length_drop]; omega)) ?_
    by_cases hc : cmpL (s.drop i) (s.drop (out.getD j 0).toNat) < 0
    · simp only [if_pos hc]
      refine ih (by omega) (fun q hq1 hq2 => ?_)
      by_cases e : q = j
      · subst e
        unfold sufLt ltL
        simp only [Int.toNat_natCast]
        rcases cmpL_vals (s.drop i) (s.drop (out.getD q 0).toNat) with k | k | k <;> omega
      · exact h2 q (by omega) hq2
    · simp only [if_neg hc, Option.bind_some, List.nil_append, List.length_nil, List.length_take, List.length_append, List.length_singleton, List.length_drop]
      have hlt : sufLt s (out.getD j 0) i := by
        rcases suf_tri (s := s) (x := out.getD j 0) (y := (i : Int)) hx.1 (by omega) (by omega) (by omega) (by omega) with k | k
        · exact k
        · exfalso
          unfold sufLt ltL at k
          simp only [Int.toNat_natCast] at k
          omega
      have hf := K _ (fin (j + 1) hj h2 (fun q hq => by
        by_cases e : q = j
        · rw [e]; exact hlt
        · exact ltL_trans (pair_getD hp (show q < j by omega) (by omega)) hlt))
      simp only [if_pos (show (0 : Int) ≤ ((j + 1 : Nat) : Int) by omega), if_pos (show ((j + 1 : Nat) : Int) ≤ out.length by omega), if_pos (show 0 + min (j + 1) out.length < 17592186044416 by omega), if_pos (show 0 + min (j + 1) out.length + 1 < 17592186044416 by omega), if_pos (show 0 + min (j + 1) out.length + 1 + (out.length - (j + 1)) < 17592186044416 by omega), wrap_nat hi (show s.length ≤ 140737488355328 by omega)]
      exact hf

theorem Order_l0 (s : List Int) (hn : s.length < 17592186044416) : ∃ a, IsSA s a ∧ ∀ (d i : Nat) (out : List Int), i + d = s.length → ordSo s out i → Ev (fun k => whorlref13_Order.l0 k s out (i : Int)) a := by
  -- the order itself
  have key : ∀ (d i : Nat) (out : List Int), i + d = s.length → ordSo s out i → ∃ a, IsSA s a ∧ Ev (fun k => whorlref13_Order.l0 k s out (i : Int)) a := by
    intro d
    induction d with
    | zero =>
      intro i out hd ho
      refine ⟨out, ⟨by rw [ho.1]; omega, fun x hx => ?_, ho.2.1⟩, ?_⟩
      · have := (ho.2.2 x).1 hx; omega
      · refine Ev.step (fun k => by rw [whorlref13_Order.l0]) ?_
        simp only [if_neg (show ¬ (i : Int) < s.length by omega)]
        exact Ev.now _
    | succ d ih =>
      intro i out hd ho
      have hi : i < s.length := by omega
      -- all ways to go on come to one order
      by_cases hex : ∃ out', ordSo s out' (i + 1)
      · obtain ⟨out1, ho1⟩ := hex
        obtain ⟨a, ha, _⟩ := ih (i + 1) out1 (by omega) ho1
        refine ⟨a, ha, ?_⟩
        refine Ev.step (fun k => by rw [whorlref13_Order.l0]) ?_
        simp only [if_pos (show (i : Int) < s.length by omega)]
        rw [ho.1]
        refine Order_l1 s hn i hi out ho a (fun out' ho' => ?_) i (Nat.le_refl _) (fun q h1 h2 => by omega)
        obtain ⟨a', ha', hev'⟩ := ih (i + 1) out' (by omega) ho'
        rw [ha.uniq ha']
        exact hev'
      · -- there is one
        exfalso
        have : ∀ j : Nat, j ≤ i → (∀ q, j ≤ q → q < i → sufLt s i (out.getD q 0)) → False := by
          intro j
          induction j with
          | zero =>
            intro hj h2
            exact hex ⟨_, by rw [ins_length (j := 0) (i := (i : Int)) (by omega), ho.1], ins_pw (j := 0) ho.2.1 (by omega) (fun q hq => by omega) (fun q _ hq2 => h2 q (by omega) (by rw [ho.1] at hq2; exact hq2)), fun x => by rw [ins_mem, ho.2.2]; omega⟩
          | succ j ihj =>
            intro hj h2
            have hx := (ho.2.2 (out.getD j 0)).1 (getD_mem (by rw [ho.1]; omega))
            rcases suf_tri (s := s) (x := out.getD j 0) (y := (i : Int)) hx.1 (by omega) (by omega) (by omega) (by omega) with k | k
            · exact hex ⟨_, by rw [ins_length (j := j + 1) (i := (i : Int)) (by rw [ho.1]; omega), ho.1], ins_pw (j := j + 1) ho.2.1 (by rw [ho.1]; omega) (fun q hq => by
                by_cases e : q = j
                · rw [e]; exact k
                · exact ltL_trans (pair_getD ho.2.1 (show q < j by omega) (by rw [ho.1]; omega)) k) (fun q hq1 hq2 => h2 q hq1 (by rw [ho.1] at hq2; exact hq2)), fun x => by rw [ins_mem, ho.2.2]; omega⟩
            · exact ihj (by omega) (fun q hq1 hq2 => by
                by_cases e : q = j
                · rw [e]; exact k
                · exact h2 q (by omega) hq2)
        exact this i (Nat.le_refl _) (fun q h1 h2 => by omega)
  obtain ⟨a, ha, _⟩ := key s.length 0 [] (by omega) ⟨rfl, by simp, fun x => by simp⟩
  refine ⟨a, ha, fun d i out hd ho => ?_⟩
  obtain ⟨a', ha', hev⟩ := key d i out hd ho
  rw [ha.uniq ha']
  exact hev

theorem ref13_Order_ev (s : List Int) (hn : s.length < 17592186044416) : ∃ a, IsSA s a ∧ Ev (fun k => whorlref13_Order.f k s) a := by
  obtain ⟨a, ha, h⟩ := Order_l0 s hn
  exact ⟨a, ha, Ev.congr (fun k => rfl) (h s.length 0 [] (by omega) ⟨rfl, by simp, fun x => by simp⟩)⟩


-- with: ref13_Order
theorem ref13_Numbers_l0 (s : List Int) (hn : s.length < 17592186044416) (hb : ∀ x ∈ s, 0 ≤ x ∧ x ≤ 255) : ∀ (d i : Nat), i + d = s.length → Ev (fun k => whorlref13_Numbers.l0 k s (s.take i) (i : Int)) s := by
  intro d
  induction d with
  | zero =>
    intro i hd
    refine Ev.step (fun k => by rw [whorlref13_Numbers.l0]) ?_
    simp only [if_neg (show ¬ (i : Int) < s.length by omega)]
    rw [List.take_of_length_le (by omega)]
    exact Ev.now _
  | succ d ih =>
    intro i hd
    have hi : i < s.length := by omega
    have hm := hb _ (getD_mem hi)
    refine Ev.step (fun k => by rw [whorlref13_Numbers.l0]) ?_
    rw [rd_nat, wrap64_id (x := s.getD i 0) (by omega) (by omega)]
    simp only [if_pos (show (i : Int) < s.length by omega), if_pos (show 0 ≤ (i : Int) by omega), List.length_take, if_pos (show min i s.length < 17592186044416 by omega), wrap_nat hi (show s.length ≤ 140737488355328 by omega)]
    rw [← take_next hi]
    exact ih (i + 1) (by omega)

theorem ref13_Bytes_ev (s : List Int) (hn : s.length < 17592186044416) (hb : ∀ x ∈ s, 0 ≤ x ∧ x ≤ 255) : ∃ a, IsSA s a ∧ Ev (fun k => whorlref13_Bytes.f k s) a := by
  obtain ⟨a, ha, hev⟩ := ref13_Order_ev s hn
  refine ⟨a, ha, ?_⟩
  refine Ev.congr (fun k => by rw [whorlref13_Bytes.f]) ?_
  refine Ev.bind (g := fun k => whorlref13_Numbers.f k s) (a := s) (Ev.congr (fun k => rfl) (ref13_Numbers_l0 s hn hb s.length 0 (by omega))) ?_
  exact Ev.bind hev (Ev.now _)


-- fn: known14 ref13_Bytes
theorem SkewRuns_l0 (w more : List Int) (n : Int) (hw : w.length ≤ 10) (hm : more.length ≤ 10) (hn : n ≤ 20) (h1 : ∀ x ∈ w, 0 ≤ x ∧ x ≤ 255) (h2 : ∀ x ∈ more, 0 ≤ x ∧ x ≤ 255) :
    ∀ (d i : Nat) (l : List Int), (i : Int) + d = n → l.length ≤ i * 10 → (∀ x ∈ l, 0 ≤ x ∧ x ≤ 255) → Ev (fun k => whorllaw14_SkewRuns.l0 k w n more l (i : Int)) true := by
  intro d
  induction d with
  | zero =>
    intro i l hd hl hb
    refine Ev.step (fun k => by rw [whorllaw14_SkewRuns.l0]) ?_
    simp only [if_neg (show ¬ (i : Int) < n by omega), if_pos (show l.length + more.length < 140737488355328 by omega), Option.bind_some]
    have hlen : (l ++ more).length ≤ 100000 := by rw [List.length_append]; omega
    have hall : ∀ x ∈ l ++ more, 0 ≤ x ∧ x ≤ 255 := fun x hx => by
      rcases List.mem_append.1 hx with hx | hx
      · exact hb x hx
      · exact h2 x hx
    obtain ⟨a, ha, hae⟩ := skew_Bytes_ev (s := l ++ more) hlen hall
    obtain ⟨b, hb2, hbe⟩ := ref13_Bytes_ev (l ++ more) (by omega) hall
    obtain rfl := ha.uniq hb2
    refine Ev.bind hae ?_
    simp only [if_true]
    refine Ev.bind hbe ?_
    refine Ev.bind (ref4_Ints_ev _ _ (by rw [ha.1]; omega)) ?_
    simp only [decide_true, if_true]
    exact Ev.bind known_ev (Ev.now _)
  | succ d ih =>
    intro i l hd hl hb
    refine Ev.step (fun k => by rw [whorllaw14_SkewRuns.l0]) ?_
    simp only [if_pos (show (i : Int) < n by omega), if_pos (show l.length + w.length < 140737488355328 by omega)]
    rw [wrap64_id (x := (i : Int) + 1) (by omega) (by omega), show (i : Int) + 1 = ((i + 1 : Nat) : Int) by omega]
    refine ih (i + 1) _ (by omega) (by rw [List.length_append]; omega) (fun x hx => ?_)
    rcases List.mem_append.1 hx with hx | hx
    · exact hb x hx
    · exact h1 x hx

theorem SkewRuns : whorllaw14_SkewRuns.Pure := by
  intro w n more h1 h2 h3 h4 h5 h6 h7
  refine Ev.rounds ?_
  have hg : Ev (fun j => whorllaw14_SkewRuns.j0 j w n more true) true := Ev.step (fun k => by rw [whorllaw14_SkewRuns.j0]) (by simp only [if_true]; exact Ev.now _)
  refine Ev.congr (fun k => by rw [whorllaw14_SkewRuns.f]) ?_
  by_cases g1 : (w.length : Int) > 10
  · simp only [if_pos g1]; exact hg
  by_cases g2 : n < 0
  · simp only [if_neg g1, if_pos g2]; exact hg
  by_cases g3 : n > 20
  · simp only [if_neg g1, if_neg g2, if_pos g3]; exact hg
  simp only [if_neg g1, if_neg g2, if_neg g3]
  by_cases g4 : (more.length : Int) > 10
  · simp only [decide_eq_true g4]; exact hg
  · simp only [decide_eq_false g4]
    refine Ev.step (fun k => by rw [whorllaw14_SkewRuns.j0]) ?_
    simp only [if_neg (show ¬ false = true by decide)]
    have := SkewRuns_l0 w more n (by omega) (by omega) (by omega) (fun x hx => wf_u8 (h3 x hx)) (fun x hx => wf_u8 (h7 x hx)) n.toNat 0 [] (by omega) (by simp) (by simp)
    exact this

end Go.Proofs.Ytomnhkliimkmgaa.Pure
