/- Mode: the document's Set, walked at each pair of modes. -/
import Derived.Test.YtkmhgolohppliaaMod0
import Derived.BigRegion
namespace Go.Proofs.Ytkmhgolohppliaa.Mod
open Go.RowKit Go.Proofs.YtkmhgolohppliaaW.PrintWords Go.Proofs.YtkmhgolohppliaaW.PrintLast Go.Proofs.YtkmhgolohppliaaW.PrintMore
set_option linter.unusedVariables false

set_option maxHeartbeats 800000 in
set_option maxRecDepth 100000 in
theorem ref_1_0 (w : World) : Calls Try.prog 18 #[.int .i64 1, .int .i64 0] w fun e w' => e = .returned (.tuple #[.int .i64 0, .int .i64 0, .int .i64 0]) ∧ Below w.heap.size w w' := by
  go_enter Try.func18, Try.ntmps18
  go_wp2_with fail
  go_region
  all_goals go_wp2_with fail
  all_goals (go_ret3; exact ⟨rfl, by go_grown⟩)
set_option maxHeartbeats 800000 in
set_option maxRecDepth 100000 in
theorem ref_1_1 (w : World) : Calls Try.prog 18 #[.int .i64 1, .int .i64 1] w fun e w' => e = .returned (.tuple #[.int .i64 1, .int .i64 2, .int .i64 0]) ∧ Below w.heap.size w w' := by
  go_enter Try.func18, Try.ntmps18
  go_wp2_with fail
  go_region
  all_goals go_wp2_with fail
  all_goals (go_ret3; exact ⟨rfl, by go_grown⟩)
set_option maxHeartbeats 800000 in
set_option maxRecDepth 100000 in
theorem ref_1_2 (w : World) : Calls Try.prog 18 #[.int .i64 1, .int .i64 2] w fun e w' => e = .returned (.tuple #[.int .i64 1, .int .i64 0, .int .i64 5]) ∧ Below w.heap.size w w' := by
  go_enter Try.func18, Try.ntmps18
  go_wp2_with fail
  all_goals (go_ret3; exact ⟨rfl, by go_grown⟩)
set_option maxHeartbeats 800000 in
set_option maxRecDepth 100000 in
theorem ref_1_3 (w : World) : Calls Try.prog 18 #[.int .i64 1, .int .i64 3] w fun e w' => e = .returned (.tuple #[.int .i64 3, .int .i64 0, .int .i64 0]) ∧ Below w.heap.size w w' := by
  go_enter Try.func18, Try.ntmps18
  go_wp2_with fail
  go_region
  all_goals go_wp2_with fail
  all_goals (go_ret3; exact ⟨rfl, by go_grown⟩)
set_option maxHeartbeats 800000 in
set_option maxRecDepth 100000 in
theorem ref_2_0 (w : World) : Calls Try.prog 18 #[.int .i64 2, .int .i64 0] w fun e w' => e = .returned (.tuple #[.int .i64 0, .int .i64 0, .int .i64 0]) ∧ Below w.heap.size w w' := by
  go_enter Try.func18, Try.ntmps18
  go_wp2_with fail
  go_region
  all_goals go_wp2_with fail
  all_goals (go_ret3; exact ⟨rfl, by go_grown⟩)
set_option maxHeartbeats 800000 in
set_option maxRecDepth 100000 in
theorem ref_2_1 (w : World) : Calls Try.prog 18 #[.int .i64 2, .int .i64 1] w fun e w' => e = .returned (.tuple #[.int .i64 1, .int .i64 2, .int .i64 0]) ∧ Below w.heap.size w w' := by
  go_enter Try.func18, Try.ntmps18
  go_wp2_with fail
  go_region
  all_goals go_wp2_with fail
  all_goals (go_ret3; exact ⟨rfl, by go_grown⟩)
set_option maxHeartbeats 800000 in
set_option maxRecDepth 100000 in
theorem ref_2_2 (w : World) : Calls Try.prog 18 #[.int .i64 2, .int .i64 2] w fun e w' => e = .returned (.tuple #[.int .i64 2, .int .i64 1, .int .i64 0]) ∧ Below w.heap.size w w' := by
  go_enter Try.func18, Try.ntmps18
  go_wp2_with fail
  go_region
  all_goals go_wp2_with fail
  all_goals (go_ret3; exact ⟨rfl, by go_grown⟩)
set_option maxHeartbeats 800000 in
set_option maxRecDepth 100000 in
theorem ref_2_3 (w : World) : Calls Try.prog 18 #[.int .i64 2, .int .i64 3] w fun e w' => e = .returned (.tuple #[.int .i64 3, .int .i64 0, .int .i64 0]) ∧ Below w.heap.size w w' := by
  go_enter Try.func18, Try.ntmps18
  go_wp2_with fail
  go_region
  all_goals go_wp2_with fail
  all_goals (go_ret3; exact ⟨rfl, by go_grown⟩)
set_option maxHeartbeats 800000 in
set_option maxRecDepth 100000 in
theorem ref_3_0 (w : World) : Calls Try.prog 18 #[.int .i64 3, .int .i64 0] w fun e w' => e = .returned (.tuple #[.int .i64 0, .int .i64 0, .int .i64 0]) ∧ Below w.heap.size w w' := by
  go_enter Try.func18, Try.ntmps18
  go_wp2_with fail
  go_region
  all_goals go_wp2_with fail
  all_goals (go_ret3; exact ⟨rfl, by go_grown⟩)
set_option maxHeartbeats 800000 in
set_option maxRecDepth 100000 in
theorem ref_3_1 (w : World) : Calls Try.prog 18 #[.int .i64 3, .int .i64 1] w fun e w' => e = .returned (.tuple #[.int .i64 1, .int .i64 2, .int .i64 0]) ∧ Below w.heap.size w w' := by
  go_enter Try.func18, Try.ntmps18
  go_wp2_with fail
  go_region
  all_goals go_wp2_with fail
  all_goals (go_ret3; exact ⟨rfl, by go_grown⟩)
set_option maxHeartbeats 800000 in
set_option maxRecDepth 100000 in
theorem ref_3_2 (w : World) : Calls Try.prog 18 #[.int .i64 3, .int .i64 2] w fun e w' => e = .returned (.tuple #[.int .i64 2, .int .i64 1, .int .i64 0]) ∧ Below w.heap.size w w' := by
  go_enter Try.func18, Try.ntmps18
  go_wp2_with fail
  go_region
  all_goals go_wp2_with fail
  all_goals (go_ret3; exact ⟨rfl, by go_grown⟩)
set_option maxHeartbeats 800000 in
set_option maxRecDepth 100000 in
theorem ref_3_3 (w : World) : Calls Try.prog 18 #[.int .i64 3, .int .i64 3] w fun e w' => e = .returned (.tuple #[.int .i64 3, .int .i64 0, .int .i64 1]) ∧ Below w.heap.size w w' := by
  go_enter Try.func18, Try.ntmps18
  go_wp2_with fail
  all_goals (go_ret3; exact ⟨rfl, by go_grown⟩)

theorem ref_a (now want : Int) (h : want < 0 ∨ 3 < want) (w : World) : Calls Try.prog 18 #[.int .i64 now, .int .i64 want] w fun e w' => e = .returned (.tuple #[.int .i64 now, .int .i64 0, .int .i64 3]) ∧ Below w.heap.size w w' := by
  by_cases a : want < 0
  · have ha : decide (want < 0) = true := by simpa using a
    clear h a
    go_enter Try.func18, Try.ntmps18
    go_wp2_with fail
    go_ret3; exact ⟨rfl, by go_grown⟩
  · have ha : decide (want < 0) = false := by simpa using a
    have hb : decide (3 < want) = true := by simp; omega
    clear h a
    go_enter Try.func18, Try.ntmps18
    go_wp2_with fail
    go_ret3; exact ⟨rfl, by go_grown⟩
theorem ref_b (now want : Int) (h0 : 0 ≤ want) (h1 : want ≤ 3) (h : now < 1 ∨ 3 < now) (w : World) : Calls Try.prog 18 #[.int .i64 now, .int .i64 want] w fun e w' => e = .returned (.tuple #[.int .i64 now, .int .i64 0, .int .i64 5]) ∧ Below w.heap.size w w' := by
  have ha : decide (want < 0) = false := by simp; omega
  have hb : decide (3 < want) = false := by simp; omega
  by_cases a : now < 1
  · have hc : decide (now < 1) = true := by simpa using a
    clear h a h0 h1
    go_enter Try.func18, Try.ntmps18
    go_wp2_with fail
    go_ret3; exact ⟨rfl, by go_grown⟩
  · have hc : decide (now < 1) = false := by simpa using a
    have hd : decide (3 < now) = true := by simp; omega
    clear h a h0 h1
    go_enter Try.func18, Try.ntmps18
    go_wp2_with fail
    go_ret3; exact ⟨rfl, by go_grown⟩
/-- The document's Set is the program's. -/
theorem rset_calls (now want : Int) (w : World) : Calls Try.prog 18 #[.int .i64 now, .int .i64 want] w fun e w' => e = .returned (.tuple #[.int .i64 (setM now want).1, .int .i64 (setM now want).2.1, .int .i64 (setM now want).2.2]) ∧ Below w.heap.size w w' := by
  by_cases h : want < 0 ∨ 3 < want
  · have e : setM now want = (now, 0, 3) := by
      have : right want = false := by unfold right; simp; omega
      simp [setM, askd, this]
    rw [e]; exact ref_a now want h w
  · by_cases hn : now < 1 ∨ 3 < now
    · have e : setM now want = (now, 0, 5) := by
        have h1 : right want = true := by unfold right; simp; omega
        have h2 : runs now = false := by unfold runs; simp; omega
        simp [setM, askd, h1, h2]
      rw [e]; exact ref_b now want (by omega) (by omega) hn w
    · have hw : want = 0 ∨ want = 1 ∨ want = 2 ∨ want = 3 := by omega
      have hm : now = 1 ∨ now = 2 ∨ now = 3 := by omega
      rcases hm with rfl | rfl | rfl <;> rcases hw with rfl | rfl | rfl | rfl
      · exact ref_1_0 w
      · exact ref_1_1 w
      · exact ref_1_2 w
      · exact ref_1_3 w
      · exact ref_2_0 w
      · exact ref_2_1 w
      · exact ref_2_2 w
      · exact ref_2_3 w
      · exact ref_3_0 w
      · exact ref_3_1 w
      · exact ref_3_2 w
      · exact ref_3_3 w
end Go.Proofs.Ytkmhgolohppliaa.Mod
