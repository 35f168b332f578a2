/- Clock: any clock, behind any runs and ticks, walked: the law ClockRuns. -/
import Derived.Test.YtomhhaaogenedaaClk1
namespace Go.Proofs.Ytomhhaaogenedaa.Clk
open Go.RowKit Go.Proofs.Ytomhhaaogenedaa.PClockRuns Go.Proofs.YtomhhaaogenedaaW.PrintWords Go.Proofs.YtomhhaaogenedaaW.PrintLast Go.Proofs.YtomhhaaogenedaaW.PrintMore
set_option linter.unusedVariables false

theorem ref_at (s n : Int) (h0 : 0 ≤ s) (h1 : s ≤ 18446744073709551615) (hn : n ≤ 9223372036854775807) :
    countwheelref04_Run.f s n = some (s + go s n, go s n) := by
  unfold countwheelref04_Run.f go
  simp only [wrap64, IntKind.wrap_u64]
  split <;> (try split) <;> (try split) <;> simp <;> omega

theorem go_any (s n : Int) (h0 : 0 ≤ s) (h1 : s ≤ 18446744073709551615) : 0 ≤ go s n ∧ s + go s n ≤ 18446744073709551615 := by
  unfold go; split <;> (try split) <;> omega

theorem tick_one (s : Int) (h0 : 0 ≤ s) (h1 : s ≤ 18446744073709551615) : clock_Clock_Tick.f s = some ((go s 1 == 1), s + go s 1) := by
  unfold clock_Clock_Tick.f
  rw [run_at s 1 h0 h1 (by omega)]
  rfl

theorem since_at (s t : Int) (h0 : 0 ≤ s) (h1 : s ≤ 18446744073709551615) (t0 : 0 ≤ t) (t1 : t ≤ 18446744073709551615) :
    clock_Clock_Since.f s t = some (if t < s then s - t else 0, s) := by
  unfold clock_Clock_Since.f
  simp only [IntKind.wrap_u64]
  split <;> (try split) <;> simp <;> omega
theorem left_at (s : Int) (h0 : 0 ≤ s) (h1 : s ≤ 18446744073709551615) : clock_Clock_Left.f s = some (18446744073709551615 - s, s) := by
  unfold clock_Clock_Left.f
  rw [IntWalk.u64_in _ (by omega)]

theorem copy_calls (g : Nat) (s : Int) (w0 w : World) (hI : IsS84 w0 w g s) (hB : Below w0.heap.size w0 w) :
    Calls Try.prog 44 #[.pointer (some ⟨g, 0, none⟩)] w fun e w' => ∃ g2 : Nat, e = .returned (.pointer (some ⟨g2, 0, none⟩)) ∧ IsS84 w w' g2 s ∧ Below w.heap.size w w' := by
  have hc := cellS84_0 hI.1
  go_enter Try.func44, Try.ntmps44
  go_wp2_with fail
  refine (clock_New.calls s s w w (Below.refl _ _) rfl).mono ?_
  rintro e w1 ⟨g2, rfl, hJ, hC, hC1⟩
  go_wp2_with fail
  go_ret
  exact ⟨g2, rfl, hJ, hC⟩

/-- A row of numbers that came in. -/
def IsRow (k : IntKind) (w : World) (a : Option Addr) (len cap : Nat) (zs : List Int) : Prop :=
  (a = none ∧ len = 0 ∧ cap = 0 ∧ zs = []) ∨
  ∃ x, a = some x ∧ len ≤ cap ∧ cap ≤ maxLen ∧ zs.length = cap ∧ (∀ i, i < zs.length → w.cell? (x.add i) = some (.int k (zs.getD i 0))) ∧ ∀ n ∈ zs, (Lit.int k n).wf = true

theorem cell_lt {w : World} {a : Addr} {v : Value} (h : w.cell? a = some v) : a.block < w.heap.size := by
  unfold World.cell? at h
  rcases Nat.lt_or_ge a.block w.heap.size with hlt | hge
  · exact hlt
  · rw [Array.getElem?_eq_none hge] at h; simp at h
theorem add_block (a : Addr) (n : Nat) : (a.add n).block = a.block := by unfold Addr.add; split <;> rfl

/-- What a row gives at a place, in any world behind. -/
theorem IsRow.at_ {k : IntKind} {w : World} {a : Option Addr} {len cap : Nat} {zs : List Int} (h : IsRow k w a len cap zs) (i : Nat) (hi : i < len) :
    ∃ x n, a = some x ∧ x.block < w.heap.size ∧ (Lit.int k n).wf = true ∧ w.cell? (x.add i) = some (.int k n) ∧ len ≤ cap := by
  rcases h with ⟨_, rfl, _, _⟩ | ⟨x, rfl, hl, hm, hz, hc, hw⟩
  · omega
  · have hlt : i < zs.length := by omega
    have hcell := hc i hlt
    refine ⟨x, zs.getD i 0, rfl, ?_, ?_, hcell, hl⟩
    · have := cell_lt hcell
      rwa [add_block] at this
    · apply hw
      rw [List.getD_eq_getElem?_getD, List.getElem?_eq_getElem hlt]
      exact List.getElem_mem hlt
theorem IsRow.len_le {k : IntKind} {w : World} {a : Option Addr} {len cap : Nat} {zs : List Int} (h : IsRow k w a len cap zs) : len ≤ 9223372036854775807 := by
  rcases h with ⟨_, rfl, _, _⟩ | ⟨x, rfl, hl, hm, hz, hc, hw⟩
  · omega
  · unfold maxLen at hm; omega

set_option maxHeartbeats 800000 in
set_option maxRecDepth 100000 in
theorem runs_calls (t0 t : Int) (h0 : 0 ≤ t0) (h1 : t0 ≤ 18446744073709551615) (u0 : 0 ≤ t) (u1 : t ≤ 18446744073709551615) (a : Option Addr) (len cap : Nat) (zs : List Int) (w : World) (hr : IsRow .i64 w a len cap zs) :
    Calls Try.prog 10 #[.int .u64 t0, .slice a len cap, .int .u64 t] w fun e w' => e = .returned (.bool true) ∧ Below w.heap.size w w' := by
  have hlen := hr.len_le
  have HR := Go.Lib.hid hr
  clear hr
  go_enter Try.func10, Try.ntmps10
  go_wp2_with fail
  refine (clock_New.calls t0 t0 w w (Below.refl _ _) rfl).mono ?_
  rintro e w1 ⟨g, rfl, hI, hB, hB1⟩
  by_cases hl : (60 : Int) < (len : Int)
  · go_wp2_with fail
    refine (awake_calls w1).mono ?_
    rintro e w14 ⟨rfl, hD14⟩
    go_wp2_with fail
    go_ret
    exact ⟨rfl, hB.trans (hD14.mono hB.size)⟩
  · have hl' : decide ((60 : Int) < (len : Int)) = false := by simpa using hl
    clear hl
    go_wp2_with fail
    go_loopw [8, 33] (fun now i wr => ∃ k : Nat, ∃ s : Int, k ≤ len ∧ i = .int .i64 k ∧ now = .int .u64 s ∧ 0 ≤ s ∧ s ≤ 18446744073709551615 ∧ IsS84 w wr g s ∧ Below w.heap.size w wr) (fun _ i _ => len - (intOf i).toNat)
    case atStart => exact ⟨0, t0, Nat.zero_le _, rfl, rfl, h0, h1, hI, hB⟩
    case round =>
      obtain ⟨k, s, hk, rfl, rfl, hs0, hs1, hIk, hBk⟩ := hrel
      by_cases hlt : k < len
      · obtain ⟨x, n, rfl, hxb, hwf, hcell, hlc⟩ := HR.out.at_ k hlt
        have hc : wr.cell? (x.add k) = some (.int .i64 n) := by rw [hBk.cell (by rw [add_block]; exact hxb)]; exact hcell
        have hn := bounds_i64 hwf
        obtain ⟨g0, g1⟩ := go_any s n hs0 hs1
        have R1 := Go.Lib.hid (ref_at s n hs0 hs1 hn.2)
        have R2 := Go.Lib.hid (run_at s n hs0 hs1 hn.2)
        have T1 := Go.Lib.hid (tick_one s hs0 hs1)
        by_cases h1n : n = 1
        · subst h1n
          generalize hm : go s 1 = m at *
          clear hm hcell
          go_wp2_with fail
          refine (countwheelref04_Run.calls s 1 (s + m) m wr R1.out).mono ?_
          rintro e w2 ⟨rfl, ⟨nd, rfl⟩⟩
          go_wp2_with fail
          refine (clock_Clock_Tick.calls g s (m == 1) (s + m) w _ (hIk.drewN nd) (pw_below_drewN hBk nd) T1.out).mono ?_
          rintro e w3 ⟨rfl, hI3, hB3, hK3⟩
          have hnw : decide (s + m < s) = false := by simp; omega
          by_cases hts : t < s + m
          · have S1 := Go.Lib.hid (since_at (s + m) t (by omega) (by omega) u0 u1)
            rw [if_pos hts] at S1
            go_wp2_with fail
            refine (clock_Clock_Now.calls g (s + m) _ _ w _ hI3 hB3 rfl).mono ?_
            rintro e w4 ⟨rfl, hI4, hB4, hK4⟩
            go_wp2_with fail
            refine (clock_Clock_Halted.calls g (s + m) (s + m == 18446744073709551615) _ w _ hI4 hB4 (by unfold clock_Clock_Halted.f; rfl)).mono ?_
            rintro e w5 ⟨rfl, hI5, hB5, hK5⟩
            go_wp2_with fail
            refine (clock_Clock_Left.calls g (s + m) (18446744073709551615 - (s + m)) _ w _ hI5 hB5 (left_at _ (by omega) (by omega))).mono ?_
            rintro e w6 ⟨rfl, hI6, hB6, hK6⟩
            go_wp2_with fail
            refine (clock_Clock_Since.calls g (s + m) t _ (s + m) w _ hI6 hB6 S1.out).mono ?_
            rintro e w7 ⟨rfl, hI7, hB7, hK7⟩
            go_wp2_with fail
            go_roundw
            case rel => exact ⟨k + 1, s + m, by omega, by go_num, rfl, by omega, by omega, hI7, hB7⟩
            case measure => simp [intOf]; omega
          · have S1 := Go.Lib.hid (since_at (s + m) t (by omega) (by omega) u0 u1)
            rw [if_neg hts] at S1
            go_wp2_with fail
            refine (clock_Clock_Now.calls g (s + m) _ _ w _ hI3 hB3 rfl).mono ?_
            rintro e w4 ⟨rfl, hI4, hB4, hK4⟩
            go_wp2_with fail
            refine (clock_Clock_Halted.calls g (s + m) (s + m == 18446744073709551615) _ w _ hI4 hB4 (by unfold clock_Clock_Halted.f; rfl)).mono ?_
            rintro e w5 ⟨rfl, hI5, hB5, hK5⟩
            go_wp2_with fail
            refine (clock_Clock_Left.calls g (s + m) (18446744073709551615 - (s + m)) _ w _ hI5 hB5 (left_at _ (by omega) (by omega))).mono ?_
            rintro e w6 ⟨rfl, hI6, hB6, hK6⟩
            go_wp2_with fail
            refine (clock_Clock_Since.calls g (s + m) t _ (s + m) w _ hI6 hB6 S1.out).mono ?_
            rintro e w7 ⟨rfl, hI7, hB7, hK7⟩
            go_wp2_with fail
            go_roundw
            case rel => exact ⟨k + 1, s + m, by omega, by go_num, rfl, by omega, by omega, hI7, hB7⟩
            case measure => simp [intOf]; omega
        · have h1n' : (n == 1) = false := beq_eq_false_iff_ne.2 h1n
          clear h1n
          generalize hm : go s n = m at *
          clear hm hcell
          go_wp2_with fail
          refine (countwheelref04_Run.calls s n (s + m) m wr R1.out).mono ?_
          rintro e w2 ⟨rfl, ⟨nd, rfl⟩⟩
          go_wp2_with fail
          refine (clock_Clock_Run.calls g s n m (s + m) w _ (hIk.drewN nd) (pw_below_drewN hBk nd) R2.out).mono ?_
          rintro e w3 ⟨rfl, hI3, hB3, hK3⟩
          have hnw : decide (s + m < s) = false := by simp; omega
          by_cases hts : t < s + m
          · have S1 := Go.Lib.hid (since_at (s + m) t (by omega) (by omega) u0 u1)
            rw [if_pos hts] at S1
            go_wp2_with fail
            refine (clock_Clock_Now.calls g (s + m) _ _ w _ hI3 hB3 rfl).mono ?_
            rintro e w4 ⟨rfl, hI4, hB4, hK4⟩
            go_wp2_with fail
            refine (clock_Clock_Halted.calls g (s + m) (s + m == 18446744073709551615) _ w _ hI4 hB4 (by unfold clock_Clock_Halted.f; rfl)).mono ?_
            rintro e w5 ⟨rfl, hI5, hB5, hK5⟩
            go_wp2_with fail
            refine (clock_Clock_Left.calls g (s + m) (18446744073709551615 - (s + m)) _ w _ hI5 hB5 (left_at _ (by omega) (by omega))).mono ?_
            rintro e w6 ⟨rfl, hI6, hB6, hK6⟩
            go_wp2_with fail
            refine (clock_Clock_Since.calls g (s + m) t _ (s + m) w _ hI6 hB6 S1.out).mono ?_
            rintro e w7 ⟨rfl, hI7, hB7, hK7⟩
            go_wp2_with fail
            go_roundw
            case rel => exact ⟨k + 1, s + m, by omega, by go_num, rfl, by omega, by omega, hI7, hB7⟩
            case measure => simp [intOf]; omega
          · have S1 := Go.Lib.hid (since_at (s + m) t (by omega) (by omega) u0 u1)
            rw [if_neg hts] at S1
            go_wp2_with fail
            refine (clock_Clock_Now.calls g (s + m) _ _ w _ hI3 hB3 rfl).mono ?_
            rintro e w4 ⟨rfl, hI4, hB4, hK4⟩
            go_wp2_with fail
            refine (clock_Clock_Halted.calls g (s + m) (s + m == 18446744073709551615) _ w _ hI4 hB4 (by unfold clock_Clock_Halted.f; rfl)).mono ?_
            rintro e w5 ⟨rfl, hI5, hB5, hK5⟩
            go_wp2_with fail
            refine (clock_Clock_Left.calls g (s + m) (18446744073709551615 - (s + m)) _ w _ hI5 hB5 (left_at _ (by omega) (by omega))).mono ?_
            rintro e w6 ⟨rfl, hI6, hB6, hK6⟩
            go_wp2_with fail
            refine (clock_Clock_Since.calls g (s + m) t _ (s + m) w _ hI6 hB6 S1.out).mono ?_
            rintro e w7 ⟨rfl, hI7, hB7, hK7⟩
            go_wp2_with fail
            go_roundw
            case rel => exact ⟨k + 1, s + m, by omega, by go_num, rfl, by omega, by omega, hI7, hB7⟩
            case measure => simp [intOf]; omega
      · go_wp2_with fail
        refine (copy_calls g s w wr hIk hBk).mono ?_
        rintro e w2 ⟨g2, rfl, hJ2, hB2⟩
        have hne : g ≠ g2 := Nat.ne_of_lt (Nat.lt_of_lt_of_le hIk.lt hJ2.2)
        have hI2 := hIk.below hB2
        have hD2 := hBk.trans (hB2.mono hBk.size)
        replace hJ2 := base_ hJ2 hBk.size
        obtain ⟨g0, g1⟩ := go_any s 5 hs0 hs1
        have R1 := Go.Lib.hid (run_at s 5 hs0 hs1 (by omega))
        generalize hm : go s 5 = m at *
        clear hm
        go_wp2_with fail
        refine (clock_Clock_Run.calls g2 s 5 m (s + m) w _ hJ2 hD2 R1.out).mono ?_
        rintro e w3 ⟨rfl, hJ3, hB3, hK3⟩
        have hI3 := stay hI2 hK3 hne
        go_wp2_with fail
        refine (clock_Clock_Now.calls g s _ _ w _ hI3 hB3 rfl).mono ?_
        rintro e w4 ⟨rfl, hI4, hB4, hK4⟩
        have hJ4 := stay hJ3 hK4 hne.symm
        go_wp2_with fail
        refine (clock_Clock_Now.calls g2 (s + m) _ _ w _ hJ4 hB4 rfl).mono ?_
        rintro e w5 ⟨rfl, hJ5, hB5, hK5⟩
        have hle : decide (s ≤ s + m) = true := by simp; omega
        go_wp2_with fail
        refine (awake_calls w5).mono ?_
        rintro e w6 ⟨rfl, hB6⟩
        go_wp2_with fail
        go_ret
        exact ⟨rfl, hB5.trans (hB6.mono hB5.size)⟩

theorem clockRuns_walk (w : World) (t0 : Int) (w0 : (Lit.int .u64 t0).wf = true) (a : Option Addr) (len cap : Nat) (zs : List Int) (hr : IsRow .i64 w a len cap zs) (t : Int) (w2 : (Lit.int .u64 t).wf = true) :
    Calls Try.prog 10 #[.int .u64 t0, .slice a len cap, .int .u64 t] w fun e w' => e = .returned (.bool true) ∧ Below w.heap.size w w' := by
  have := bounds_u64 w0; have := bounds_u64 w2
  exact runs_calls t0 t (by omega) (by omega) (by omega) (by omega) a len cap zs w hr
end Go.Proofs.Ytomhhaaogenedaa.Clk
