/- The chapter's example. -/
import Derived.Test.YtnniejaknnpcjaaPlM2
import Derived.Test.YtnniejaknnpcjaaPPlanWordsx2
namespace Go.Proofs.Ytnniejaknnpcjaa.PlW
open Go.RowKit Go.Proofs.YtnniejaknnpcjaaW.PrintWords Go.Proofs.YtnniejaknnpcjaaW.PrintLast Go.Proofs.YtnniejaknnpcjaaW.PrintMore Go.Proofs.Ytnniejaknnpcjaa.Mine Go.Proofs.Ytnniejaknnpcjaa.PPlanWords
open Go.Proofs.Ytnniejaknnpcjaa.Sl (SL Stp Chg St No)
set_option linter.unusedVariables false
set_option linter.unusedSimpArgs false
attribute [local go_sem] max2_int min2_int max_two min_two max_three min_three max_four min_four
/-- The chapter's example. -/
theorem ex_mk : mk [⟨0, 2, 1⟩, ⟨1, 4, 2⟩] 4 = some ([0, 0], [0, 1, 0, 1]) := by kernel_rfl
theorem ex_right : ∀ i, i < ([⟨0, 2, 1⟩, ⟨1, 4, 2⟩] : List S69).length → Right 4 [⟨0, 2, 1⟩, ⟨1, 4, 2⟩] i := by
  intro i hi
  match i, hi with
  | 0, _ => unfold Right; simp
  | 1, _ => unfold Right; simp
theorem sameints_loop (l : List Int) (hl : l.length ≤ 100000) : ∀ (d i k : Nat), i + d = l.length → d + 1 ≤ k → countwheelref10_SameInts.l0 k l l (i : Int) = some true
  | 0, i, k, h, hk => by
    obtain ⟨k, rfl⟩ : ∃ m, k = m + 1 := ⟨k - 1, by omega⟩
    simp only [countwheelref10_SameInts.l0]
    rw [if_neg (by omega)]
  | d + 1, i, k, h, hk => by
    obtain ⟨k, rfl⟩ : ∃ m, k = m + 1 := ⟨k - 1, by omega⟩
    simp only [countwheelref10_SameInts.l0]
    rw [if_pos (by omega), if_pos (by omega), if_pos (by omega), msucc (by omega), if_pos trivial]
    exact sameints_loop l hl d (i + 1) k (by omega) (by omega)
theorem sameints_is (l : List Int) (hl : l.length ≤ 100000) (k : Nat) (hk : l.length + 1 ≤ k) : countwheelref10_SameInts.f k l l = some true := by
  unfold countwheelref10_SameInts.f
  rw [if_pos rfl]
  exact sameints_loop l hl l.length 0 k (by omega) hk
set_option maxHeartbeats 3200000 in
set_option maxRecDepth 100000 in
theorem awake_is (w : World) : Calls Try.prog 38 #[] w fun e w' => e = .returned (.bool true) ∧ Below w.heap.size w w' := by
  have HS := Go.Lib.hid (St.start w)
  go_enter Try.func38, Try.ntmps38
  go_wp2_with (first | ((with_reducible refine gate_dst (N := 6) rfl ?_); refine Sl.lit_st (k69) ((flat_iso (flat_pair (flat_int .i64) (flat_pair (flat_int .i64) (flat_int .i64))))) HS.out 69 (by rfl) (xs := [⟨0, 2, 1⟩, ⟨1, 4, 2⟩]) (inner := [.int .i64 0, .int .i64 2, .int .i64 1, .int .i64 1, .int .i64 4, .int .i64 2]) ?hr ?hp ?hm ?_; (case hr => first | (go_simp; done) | (go_simp; rfl)); (case hp => exact Reps.c3 (k69_mk _ _) (Reps.c3 (k69_mk _ _) (Reps.none _ _))); (case hm => first | decide | (simp; done)); intro v6_ w1_ HSn; obtain ⟨A6, c6, hv6, _⟩ := HSn.rowC 0 rfl; subst hv6; replace HS : Hid (St (SL.row k69 69 (.slice A6 2 c6) [⟨0, 2, 1⟩, ⟨1, 4, 2⟩] :: []) w w1_) := Go.Lib.hid HSn; clear HSn))
  obtain ⟨_, _, hv, hc, hC⟩ := HS.out.rowC 0 rfl
  injection hv with q1 _ q3
  subst q1 q3
  refine (make_ok 4 (by decide) (by decide) A6 c6 [⟨0, 2, 1⟩, ⟨1, 4, 2⟩] (by decide) hc ex_right _ hC ([0, 0], [0, 1, 0, 1]) ex_mk (by decide)).mono ?_
  rintro e w3 ⟨A2, c2, rfl, HSn⟩
  replace HS : Hid (St [SL.row (Kd.int .i64) 3 (.slice A2 4 c2) [0, 1, 0, 1], SL.row k69 69 (.slice A6 2 c6) [⟨0, 2, 1⟩, ⟨1, 4, 2⟩]] w w3) := Go.Lib.hid (HS.out.join1 HSn)
  clear HSn hC hc
  go_wp2_with fail
  have hS2 := HS.out.row (Sl.lit_R (Kd.int .i64) (flat_int .i64) w3 3 (xs := [0, 1, 0, 1]) (Kd.reps_scalar [0, 1, 0, 1]) (by decide)) (below_alloc (Below.refl _ _) _)
  replace HS := Go.Lib.hid hS2
  clear hS2
  obtain ⟨_, _, hv, hc, hC⟩ := HS.out.rowC 0 rfl
  injection hv with q1 _ q3
  subst q1 q3
  obtain ⟨_, _, hv, hc2, hC2⟩ := HS.out.rowC 1 rfl
  injection hv with q1 _ q3
  subst q1 q3
  refine (countwheelref10_SameInts.calls 5 A2 c2 [0, 1, 0, 1] (some ⟨w3.heap.size, 0, none⟩) 4 [0, 1, 0, 1] true _ hC2 hc2 hC hc (sameints_is _ (by decide) 5 (by decide))).mono ?_
  rintro e w4 ⟨rfl, hD⟩
  replace HS := Go.Lib.hid (HS.out.drawn hD)
  clear hD hC hC2
  go_wp2_with fail
  go_ret
  exact ⟨rfl, HS.out.below⟩
end Go.Proofs.Ytnniejaknnpcjaa.PlW
