/- Clock: the chapter's example of layer 4, and what each call of a clock comes to in numbers. -/
import Derived.Test.YtomhhaaogenedaaPClockRunsx1
import Derived.LaidEql
import Derived.Handy
import Derived.Lib.Hide
namespace Go.Proofs.Ytomhhaaogenedaa.Clk
open Go.RowKit Go.Proofs.Ytomhhaaogenedaa.PClockRuns Go.Proofs.YtomhhaaogenedaaW.PrintWords Go.Proofs.YtomhhaaogenedaaW.PrintLast Go.Proofs.YtomhhaaogenedaaW.PrintMore
set_option linter.unusedVariables false

/-- How many ticks a run of n makes from a time on. -/
def go (s n : Int) : Int := if n ≤ 0 then 0 else if 18446744073709551615 - s < n then 18446744073709551615 - s else n

theorem run_at (s n : Int) (h0 : 0 ≤ s) (h1 : s ≤ 18446744073709551615) (hn : n ≤ 9223372036854775807) :
    clock_Clock_Run.f s n = some (go s n, s + go s n) := by
  unfold clock_Clock_Run.f clock_Clock_Left.f go mx
  simp only [Option.bind_some, wrap64, IntKind.wrap_u64]
  split <;> split <;> split <;> (try split) <;> simp <;> omega

theorem tick_at (s : Int) (h0 : 0 ≤ s) (h1 : s ≤ 18446744073709551615) :
    clock_Clock_Tick.f s = some (decide (s < 18446744073709551615), s + go s 1) := by
  unfold clock_Clock_Tick.f
  rw [run_at s 1 h0 h1 (by omega)]
  have e : go s 1 = if s < 18446744073709551615 then 1 else 0 := by unfold go; split <;> split <;> (try split) <;> omega
  simp only [Option.bind_some, e]
  split <;> simp [*]

set_option maxHeartbeats 400000 in
theorem awake_calls (w : World) : Calls Try.prog 41 #[] w fun e w' => e = .returned (.bool true) ∧ Below w.heap.size w w' := by
  go_enter Try.func41, Try.ntmps41
  go_wp2_with fail
  refine (clock_New.calls 18446744073709551614 18446744073709551614 w w (Below.refl _ _) rfl).mono ?_
  rintro e w1 ⟨g, rfl, hI, hB, hB1⟩
  go_wp2_with fail
  refine (clock_Clock_Tick.calls g 18446744073709551614 true 18446744073709551615 w w1 hI hB (by rw [tick_at _ (by omega) (by omega)]; decide)).mono ?_
  rintro e w2 ⟨rfl, hI2, hB2, hK2⟩
  go_wp2_with fail
  refine (clock_Clock_Tick.calls g 18446744073709551615 false 18446744073709551615 w w2 hI2 hB2 (by rw [tick_at _ (by omega) (by omega)]; decide)).mono ?_
  rintro e w3 ⟨rfl, hI3, hB3, hK3⟩
  go_wp2_with fail
  refine (clock_Clock_Halted.calls g 18446744073709551615 true 18446744073709551615 w w3 hI3 hB3 (by unfold clock_Clock_Halted.f; rfl)).mono ?_
  rintro e w4 ⟨rfl, hI4, hB4, hK4⟩
  go_wp2_with fail
  go_ret
  exact ⟨rfl, hB4⟩

theorem stay {w0 W W1 : World} {g g' : Nat} {f : Int} (h : IsS84 w0 W g f) (hk : KeepBut W W1 g' none) (hne : g ≠ g') : IsS84 w0 W1 g f :=
  ⟨hk.blk h.1 hne (by simp), h.2⟩
theorem base_ {w0 w1 W : World} {g : Nat} {f : Int} (h : IsS84 w1 W g f) (hs : w0.heap.size ≤ w1.heap.size) : IsS84 w0 W g f := ⟨h.1, Nat.le_trans hs h.2⟩

theorem go_bd (s n : Int) (h0 : 0 ≤ s) (h1 : s ≤ 18446744073709551615) (hn : 0 ≤ n) : 0 ≤ go s n ∧ go s n ≤ n ∧ s + go s n ≤ 18446744073709551615 := by
  unfold go; split <;> (try split) <;> omega
theorem go_join (s a b : Int) (h0 : 0 ≤ s) (h1 : s ≤ 18446744073709551615) (ha : 0 ≤ a) (hb : 0 ≤ b) : go s a + go (s + go s a) b = go s (a + b) := by
  unfold go; (repeat' split) <;> omega
theorem go_end (n : Int) (hn : 0 ≤ n) : go 18446744073709551615 n = 0 := by unfold go; (repeat' split) <;> omega

set_option maxHeartbeats 800000 in
set_option maxRecDepth 100000 in
theorem joins_calls (t a b : Int) (t0 : 0 ≤ t) (t1 : t ≤ 18446744073709551615) (a0 : 0 ≤ a) (a1 : a ≤ 4294967295) (b0 : 0 ≤ b) (b1 : b ≤ 4294967295) (w : World) :
    Calls Try.prog 9 #[.int .u64 t, .int .u32 a, .int .u32 b] w fun e w' => e = .returned (.bool true) ∧ Below w.heap.size w w' := by
  obtain ⟨n0, n1, n2⟩ := go_bd t a t0 t1 a0
  obtain ⟨m0, m1, m2⟩ := go_bd (t + go t a) b (by omega) n2 b0
  have hj := go_join t a b t0 t1 a0 b0
  obtain ⟨n, hn⟩ : ∃ n, n = go t a := ⟨_, rfl⟩
  rw [← hn] at n0 n1 n2 m0 m1 m2 hj
  obtain ⟨m, hm⟩ : ∃ m, m = go (t + n) b := ⟨_, rfl⟩
  rw [← hm] at m0 m1 m2 hj
  have r1 : clock_Clock_Run.f t a = some (n, t + n) := by rw [run_at t a t0 t1 (by omega), ← hn]
  have r2 : clock_Clock_Run.f (t + n) b = some (m, t + n + m) := by rw [run_at (t + n) b (by omega) n2 (by omega), ← hm]
  have r3 : clock_Clock_Run.f t (a + b) = some (n + m, t + n + m) := by rw [run_at t (a + b) t0 t1 (by omega), ← hj, Int.add_assoc]
  have R1 := Go.Lib.hid r1
  have R2 := Go.Lib.hid r2
  have R3 := Go.Lib.hid r3
  clear r1 r2 r3 hn hm hj
  have hq : (n + m != t + n + m - t) = false := by simp; omega
  have hq2 : decide (t + n + m < t) = false := by simp; omega
  go_enter Try.func9, Try.ntmps9
  go_wp2_with fail
  refine (clock_New.calls t t w w (Below.refl _ _) rfl).mono ?_
  rintro e w1 ⟨g, rfl, hI, hB, hB1⟩
  go_wp2_with fail
  refine (clock_New.calls t t w1 w1 (Below.refl _ _) rfl).mono ?_
  rintro e w2 ⟨g2, rfl, hJ, hC, hC1⟩
  have hne : g ≠ g2 := Nat.ne_of_lt (Nat.lt_of_lt_of_le hI.lt hJ.2)
  have hI2 := hI.below hC1
  have hD2 := hB.trans (hC1.mono hB.size)
  replace hJ := base_ hJ hB.size
  go_wp2_with fail
  refine (clock_Clock_Run.calls g t a n (t + n) w w2 hI2 hD2 R1.out).mono ?_
  rintro e w3 ⟨rfl, hI3, hD3, hK3⟩
  have hJ3 := stay hJ hK3 hne.symm
  go_wp2_with fail
  refine (clock_Clock_Run.calls g (t + n) b m (t + n + m) w w3 hI3 hD3 R2.out).mono ?_
  rintro e w4 ⟨rfl, hI4, hD4, hK4⟩
  have hJ4 := stay hJ3 hK4 hne.symm
  go_wp2_with fail
  refine (clock_Clock_Run.calls g2 t (a + b) (n + m) (t + n + m) w w4 hJ4 hD4 R3.out).mono ?_
  rintro e w5 ⟨rfl, hJ5, hD5, hK5⟩
  have hI5 := stay hI4 hK5 hne
  go_wp2_with fail
  refine (clock_Clock_Now.calls g (t + n + m) _ _ w w5 hI5 hD5 rfl).mono ?_
  rintro e w6 ⟨rfl, hI6, hD6, hK6⟩
  have hJ6 := stay hJ5 hK6 hne.symm
  go_wp2_with fail
  refine (clock_Clock_Now.calls g2 (t + n + m) _ _ w w6 hJ6 hD6 rfl).mono ?_
  rintro e w7 ⟨rfl, hJ7, hD7, hK7⟩
  have hI7 := stay hI6 hK7 hne
  go_wp2_with fail
  refine (clock_Clock_Now.calls g (t + n + m) _ _ w w7 hI7 hD7 rfl).mono ?_
  rintro e w8 ⟨rfl, hI8, hD8, hK8⟩
  go_wp2_with fail
  refine (clock_Clock_Now.calls g (t + n + m) _ _ w w8 hI8 hD8 rfl).mono ?_
  rintro e w9 ⟨rfl, hI9, hD9, hK9⟩
  go_wp2_with fail
  by_cases hf : t + n + m = 18446744073709551615
  · refine (clock_Clock_Halted.calls g (t + n + m) true (t + n + m) w w9 hI9 hD9 (by unfold clock_Clock_Halted.f; rw [hf]; rfl)).mono ?_
    rintro e w10 ⟨rfl, hI10, hD10, hK10⟩
    have hI10' : IsS84 w w10 g 18446744073709551615 := by rw [← hf]; exact hI10
    clear hf
    go_wp2_with fail
    refine (clock_Clock_Tick.calls g 18446744073709551615 false 18446744073709551615 w w10 hI10' hD10 (by rw [tick_at _ (by omega) (by omega)]; decide)).mono ?_
    rintro e w11 ⟨rfl, hI11, hD11, hK11⟩
    go_wp2_with fail
    refine (clock_Clock_Run.calls g 18446744073709551615 5 0 18446744073709551615 w w11 hI11 hD11 (by rw [run_at _ _ (by omega) (by omega) (by omega), go_end _ (by omega)]; rfl)).mono ?_
    rintro e w12 ⟨rfl, hI12, hD12, hK12⟩
    go_wp2_with fail
    refine (clock_Clock_Left.calls g 18446744073709551615 0 18446744073709551615 w w12 hI12 hD12 (by decide +kernel)).mono ?_
    rintro e w13 ⟨rfl, hI13, hD13, hK13⟩
    go_wp2_with fail
    refine (awake_calls w13).mono ?_
    rintro e w14 ⟨rfl, hD14⟩
    go_wp2_with fail
    go_ret
    exact ⟨rfl, hD13.trans (hD14.mono hD13.size)⟩
  · refine (clock_Clock_Halted.calls g (t + n + m) false (t + n + m) w w9 hI9 hD9 (by unfold clock_Clock_Halted.f; rw [beq_eq_false_iff_ne.2 hf])).mono ?_
    rintro e w10 ⟨rfl, hI10, hD10, hK10⟩
    clear hf
    go_wp2_with fail
    refine (awake_calls w10).mono ?_
    rintro e w14 ⟨rfl, hD14⟩
    go_wp2_with fail
    go_ret
    exact ⟨rfl, hD10.trans (hD14.mono hD10.size)⟩

theorem clockJoins_walk (w : World) (t : Int) (wt : (Lit.int .u64 t).wf = true) (a : Int) (wa : (Lit.int .u32 a).wf = true) (b : Int) (wb : (Lit.int .u32 b).wf = true) :
    Calls Try.prog 9 #[.int .u64 t, .int .u32 a, .int .u32 b] w fun e w' => e = .returned (.bool true) ∧ Below w.heap.size w w' := by
  have := bounds_u64 wt; have := bounds_u32 wa; have := bounds_u32 wb
  exact joins_calls t a b (by omega) (by omega) (by omega) (by omega) (by omega) (by omega) w
end Go.Proofs.Ytomhhaaogenedaa.Clk
