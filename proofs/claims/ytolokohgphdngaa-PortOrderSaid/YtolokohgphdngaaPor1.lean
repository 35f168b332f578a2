/- Sampling ports: new ones, the chapter's example, and that port and document agree. -/
import Derived.Test.YtolokohgphdngaaPorW
import Derived.Test.YtolokohgphdngaaOpn
namespace Go.Proofs.Ytolokohgphdngaa.Por
open Go.RowKit Go.WideShapes Go.ChangeShapes Go.Proofs.Ytolokohgphdngaa.PPortSamples Go.Proofs.YtolokohgphdngaaW.PrintWords Go.Proofs.YtolokohgphdngaaW.PrintLast Go.Proofs.YtolokohgphdngaaW.PrintMore Go.Proofs.Ytolokohgphdngaa.Opn
set_option linter.unusedVariables false
set_option linter.unusedSimpArgs false
set_option maxRecDepth 100000
attribute [local go_sem] max2_int min2_int max_two min_two max_three min_three max_four min_four

theorem new_no (size refresh : Int) (w : World) (h : size < 1 ∨ 8192 < size) : Calls Try.prog 10 #[.int .i64 size, .int .u64 refresh] w fun e w' => e = .returned (.tuple #[.pointer none, .int .i64 4]) ∧ w = w' := by
  by_cases h1 : size < 1
  · have h1' : decide (size < 1) = true := by simpa using h1
    clear h h1
    go_enter Try.func10, Try.ntmps10
    go_wp2_with fail
    go_ret2
    exact ⟨rfl, rfl⟩
  · have h1' : decide (size < 1) = false := by simpa using h1
    have h2' : decide (8192 < size) = true := by have := h.resolve_left h1; simpa using this
    clear h h1
    go_enter Try.func10, Try.ntmps10
    go_wp2_with fail
    go_ret2
    exact ⟨rfl, rfl⟩
theorem new_yes (w0 : World) (size refresh : Int) (w : World) (h1 : 1 ≤ size) (h2 : size ≤ 8192) (hB : Below w0.heap.size w0 w) : Calls Try.prog 10 #[.int .i64 size, .int .u64 refresh] w fun e w' =>
    ∃ g, e = .returned (.tuple #[.pointer (some ⟨g, 0, none⟩), .int .i64 0]) ∧ IsS119 w0 w' g size refresh ⟨#[]⟩ 0 0 ∧ Below w0.heap.size w0 w' := by
  have h1' : decide (size < 1) = false := by simp; omega
  have h2' : decide (8192 < size) = false := by simp; omega
  have HS := Go.Lib.hid (IsS119.new w0 w size refresh ⟨#[]⟩ 0 0 hB)
  have HB := Go.Lib.hid (below_alloc hB (.cells #[.int .i64 size, .int .u64 refresh, .string ⟨#[]⟩, .int .u64 0, .int .i64 0] 119))
  clear h1 h2 hB
  go_enter Try.func10, Try.ntmps10
  go_wp2_with fail
  go_ret2
  exact ⟨_, rfl, HS.out, HB.out⟩

set_option maxHeartbeats 1600000 in
theorem awake_calls (w : World) : Calls Try.prog 9 #[] w fun e w' => e = .returned (.bool true) ∧ Below w.heap.size w w' := by
  go_enter Try.func9, Try.ntmps9
  go_wp2_with fail
  refine (new_yes w 4 5 w (by decide) (by decide) (Below.refl _ _)).mono ?_
  rintro e w1 ⟨g, rfl, hS, hB⟩
  have HS := Go.Lib.hid hS
  have HB := Go.Lib.hid hB
  clear hS hB
  go_wp2_with fail
  refine (port_Sampling_Write.calls g 4 5 ⟨#[]⟩ 0 0 10 ⟨#[120]⟩ 0 4 5 ⟨#[120]⟩ 10 1 w w1 (by decide) (by decide) HS.out HB.out (by kernel_rfl)).mono ?_
  rintro e w2 ⟨rfl, hS, hB, _⟩
  replace HS := Go.Lib.hid hS
  replace HB := Go.Lib.hid hB
  clear hS hB
  go_wp2_with fail
  refine (port_Sampling_Read.calls g 4 5 ⟨#[120]⟩ 10 1 15 ⟨#[120]⟩ true 0 4 5 ⟨#[120]⟩ 10 1 w w2 HS.out HB.out (by kernel_rfl)).mono ?_
  rintro e w3 ⟨rfl, hS, hB, _⟩
  replace HS := Go.Lib.hid hS
  replace HB := Go.Lib.hid hB
  clear hS hB
  go_wp2_with fail
  refine (port_Sampling_Read.calls g 4 5 ⟨#[120]⟩ 10 1 16 ⟨#[120]⟩ false 0 4 5 ⟨#[120]⟩ 10 1 w w3 HS.out HB.out (by kernel_rfl)).mono ?_
  rintro e w4 ⟨rfl, hS, hB, _⟩
  replace HB := Go.Lib.hid hB
  clear hS hB
  go_wp2_with fail
  go_ret
  exact ⟨rfl, HB.out⟩

/-- A message, written to both. -/
theorem writes_agree (size refresh : Int) (m : ByteArray) (at_ n now : Int) (msg : ByteArray) (h0 : 0 ≤ n) (h1 : n ≤ 1000) :
    ∃ k m' at' n', port_Sampling_Write.f size refresh m at_ n now msg = some (k, size, refresh, m', at', n') ∧ countwheelref40_Write.f 5 size refresh m at_ (decide (0 < n)) now msg = some (size, refresh, m', at', decide (0 < n'), k) ∧
      n' = (if k = 0 then n + 1 else n) := by
  have e : wrap64 (n + 1) = n + 1 := by unfold wrap64; omega
  have hz : decide (0 < n + 1) = true := decide_eq_true (by omega)
  have z3 : ∀ a b : Int, a = if (3 : Int) = 0 then b else a := fun a b => (if_neg (by decide)).symm
  have z5 : ∀ a b : Int, a = if (5 : Int) = 0 then b else a := fun a b => (if_neg (by decide)).symm
  have z0 : ∀ a b : Int, b = if (0 : Int) = 0 then b else a := fun a b => (if_pos rfl).symm
  unfold port_Sampling_Write.f countwheelref40_Write.f
  rw [e, fits_is]
  clear e
  simp only [countwheelref40_Write.j0]
  by_cases hf : 1 ≤ (msg.size : Int) ∧ (msg.size : Int) ≤ size
  · rw [decide_eq_true hf, if_neg (show ¬ (msg.size : Int) = 0 by omega)]
    have d3 : decide ((msg.size : Int) > size) = false := decide_eq_false (by omega)
    rw [d3]
    simp only [Option.bind_some, if_true, Bool.false_eq_true, if_false]
    by_cases c3 : n > 0
    · rw [if_pos c3, if_pos (decide_eq_true c3)]
      by_cases c4 : now < at_
      · exact ⟨5, m, at_, n, by rw [if_pos c4], by rw [if_pos c4], z5 _ _⟩
      · exact ⟨0, msg, now, n + 1, by rw [if_neg c4], by rw [if_neg c4, hz], z0 _ _⟩
    · rw [if_neg c3, if_neg (by simpa using c3)]
      exact ⟨0, msg, now, n + 1, rfl, by rw [hz], z0 _ _⟩
  · rw [decide_eq_false hf]
    simp only [Option.bind_some, Bool.false_eq_true, if_false]
    refine ⟨3, m, at_, n, rfl, ?_, z3 _ _⟩
    by_cases c1 : (msg.size : Int) = 0
    · rw [if_pos c1, if_pos trivial]
    · rw [if_neg c1, if_pos (decide_eq_true (by omega))]
/-- The message, read from both. -/
theorem reads_agree (size refresh : Int) (m : ByteArray) (at_ n now : Int) (hr : 0 ≤ refresh) :
    ∃ v, port_Sampling_Read.f size refresh m at_ n now = some (if n = 0 then (⟨#[]⟩, false, 2, size, refresh, m, at_, n) else (m, v, 0, size, refresh, m, at_, n)) ∧
      ∀ b, countwheelref40_Valid.f size refresh m at_ b now = some v := by
  unfold port_Sampling_Read.f countwheelref40_Valid.f
  by_cases c : now < at_
  · refine ⟨true, ?_, fun b => by rw [if_pos (by omega)]⟩
    by_cases h : n = 0
    · rw [if_pos h, if_pos h]
    · rw [if_neg h, if_neg h, if_pos c]
  · refine ⟨decide (IntKind.u64.wrap (now - at_) ≤ refresh), ?_, fun b => ?_⟩
    · by_cases h : n = 0
      · rw [if_pos h, if_pos h]
      · rw [if_neg h, if_neg h, if_neg c]
    · by_cases c2 : now ≤ at_
      · have : now = at_ := by omega
        subst this
        rw [if_pos c2, Int.sub_self, show IntKind.u64.wrap 0 = 0 from by decide]
        simp [hr]
      · rw [if_neg c2]
end Go.Proofs.Ytolokohgphdngaa.Por
