-- Laid by a program of this session (wip/hp.sh): functions, contracts, rows for this claim. Lean checks it.
import Derived.Test.YthdmoeckoblpdaaHLfRisesx0
import Derived.Test.YthdmoeckoblpdaaHLfRisesx3
namespace Go.Proofs.Ythdmoeckoblpdaa.PLfRises
open Go.RowKit Go.Proofs.YthdmoeckoblpdaaW.PrintWords Go.Proofs.YthdmoeckoblpdaaW.PrintLast Go.Proofs.YthdmoeckoblpdaaW.PrintMore
attribute [local go_sem] max2_int min2_int max_two min_two max_three min_three max_four min_four   -- for this text's walks alone
set_option linter.unusedVariables false
set_option linter.unusedSimpArgs false


/-! ### whorllaw22_known: function 14 -/
def whorllaw22_known.f (k : Nat)  : Option (Bool) := (lf_Of.f k (([98, 97, 98] : List Int))).bind fun t218 => ((lf_Cycles.f k t218).bind fun bt221 => ((whorlref4_Ints.f k t218 (([1, 0, 2] : List Int))).bind fun t228 => (if t228 = true then (if bt221.2 = true then ((whorlref22_Rows.f k bt221.1 (([(([0, 1] : List Int)), (([2] : List Int))] : List (List Int)))).bind fun t238 => (some t238)) else (some false)) else (some false))))
theorem whorllaw22_known.mono : ∀ k, LeO (whorllaw22_known.f k ) (whorllaw22_known.f (k + 1) ) := by
  intro k
  unfold whorllaw22_known.f
  repeat' first
      | (with_reducible exact lf_Of.mono _ _)
      | (with_reducible exact lf_Cycles.mono _ _)
      | (with_reducible exact whorlref4_Ints.mono _ _ _)
      | (with_reducible exact whorlref22_Rows.mono _ _ _)
      | (with_reducible exact LeO.refl _)
      | (with_reducible exact LeO.none _)
      | (with_reducible refine LeO.ite ?_ ?_)
      | (with_reducible refine LeO.bind ?_ (fun _ => ?_))
set_option maxHeartbeats 4000000 in
theorem whorllaw22_known.calls (k : Nat)  (r : Bool) (w : World) (h : whorllaw22_known.f k  = some r) :
    Calls Try.prog 14 #[] w fun e w' => e = .returned (.bool r) ∧ Below w.heap.size w w' := by
  have h60 : whorllaw22_known.f 400 = some true := by decide +kernel
  obtain rfl : r = true := by
    have h1 := at_rounds (g := whorllaw22_known.f) whorllaw22_known.mono (Nat.le_max_left k 400) h
    rw [at_rounds (g := whorllaw22_known.f) whorllaw22_known.mono (Nat.le_max_right k 400) h60] at h1
    exact (Option.some.inj h1).symm
  clear h h60
  have kc := fun (w : World) (C : Array Value) (n c : Nat) => Lib.run_convert_bytes_const (P := Try.prog) w 22 5 C n c Try.underlying22 Try.underlying5
  have A1 : lf_Of.f 400 [98, 97, 98] = some [1, 0, 2] := by decide +kernel
  have A2 : lf_Cycles.f 400 [1, 0, 2] = some ([[0, 1], [2]], true) := by decide +kernel
  have A3 : whorlref4_Ints.f 400 [1, 0, 2] [1, 0, 2] = some true := by decide +kernel
  have A4 : whorlref22_Rows.f 400 [[0, 1], [2]] [[0, 1], [2]] = some true := by decide +kernel
  go_enter Try.func14, Try.ntmps14
  go_wp2_with (fail)
  refine Calls.mono (show Calls Try.prog 7 #[.slice (some ⟨w.heap.size, 0, none⟩) 3 3] _ _ from lf_Of.calls 400 _ 3 [98, 97, 98] [1, 0, 2] _ (lit_reads .u8 w 5 _ (3, 4) (by decide) rfl) (by decide) A1) ?_
  rintro e w1 ⟨v1, rfl, hR1, hB1⟩
  obtain ⟨p1, q1, rfl⟩ := Kd.R_slice hR1
  have B1 := Aside0.mk (below_step (below_alloc (Below.refl _ _) _) hB1)
  have R1 := Aside0.mk hR1
  clear hB1 hR1
  go_wp2_with (fail)
  refine Calls.mono (show Calls Try.prog 8 #[.slice p1 3 q1] _ _ from lf_Cycles.calls 400 p1 q1 [1, 0, 2] [[0, 1], [2]] true _ (Kd.R_reads' R1.out).2.2 (Kd.R_reads' R1.out).2.1 A2) ?_
  rintro e w2 ⟨v2, rfl, hS2, hB2⟩
  have hN2 := Kd.S_N hS2
  obtain ⟨p2, q2, rfl⟩ := Kd.N_slice hN2
  have B2 := Aside0.mk (below_step B1.out hB2)
  have C1 := Aside0.mk (Kd.C_below (Kd.R_reads' R1.out).2.2 hB2)
  have L1 := Aside0.mk (Kd.R_reads' R1.out).2.1
  have N2 := Aside0.mk (Kd.N_reads' hN2)
  clear hB2 hS2 hN2 B1 R1
  go_wp2_with (fail)
  refine Calls.mono (show Calls Try.prog 11 #[.slice p1 3 q1, .slice (some ⟨w2.heap.size, 0, none⟩) 3 3] _ _ from whorlref4_Ints.calls 400 p1 q1 [1, 0, 2] _ 3 [1, 0, 2] true _ (Kd.C_alloc C1.out _) L1.out (lit_reads .i64 w2 3 _ _ (by decide) rfl) (by decide) A3) ?_
  rintro e w3 ⟨rfl, hd⟩
  have N3 := Aside0.mk (Kd.C_below (Kd.C_alloc N2.out.2.2 (.cells #[.int .i64 1, .int .i64 0, .int .i64 2] 3)) hd.below)
  have L3 := Aside0.mk N2.out.2.1
  have B3 := Aside0.mk (below_step (below_alloc B2.out _) hd.below)
  clear hd B2 C1 N2 L1
  go_wp2_with (fail)
  refine Calls.mono (show Calls Try.prog 13 #[.slice p2 2 q2, .slice (some ⟨w3.heap.size + 2, 0, none⟩) 2 2] _ _ from whorlref22_Rows.calls 400 p2 q2 [[0, 1], [2]] _ 2 [[0, 1], [2]] true _ (Kd.C_alloc (Kd.C_alloc (Kd.C_alloc N3.out _) _) _) L3.out
    (by
      have := rows_reads2 .i64 3 ((w3.alloc (.cells #[.int .i64 0, .int .i64 1] 3)).alloc (.cells #[.int .i64 2] 3)) 23 (0, 0) (A1 := some ⟨w3.heap.size, 0, none⟩) (A2 := some ⟨w3.heap.size + 1, 0, none⟩) (c1 := 2) (c2 := 1) (x1 := [0, 1]) (x2 := [2])
        (Kd.C_alloc (lit_reads .i64 w3 3 _ _ (by decide) rfl) _) (by decide)
        (by have := lit_reads .i64 (w3.alloc (.cells #[.int .i64 0, .int .i64 1] 3)) 3 [2] (0, 0) (by decide) rfl; simpa using this) (by decide) rfl
      simpa using this) (by decide) A4) ?_
  rintro e w4 ⟨rfl, hd⟩
  have B4 := Aside0.mk (below_step (below_alloc (below_alloc (below_alloc B3.out _) _) _) hd.below)
  clear hd B3 N3
  go_wp2_with (fail)
  go_ret
  exact ⟨rfl, B4.out⟩

end Go.Proofs.Ythdmoeckoblpdaa.PLfRises
