/- A sampling port's Write, walked by hand. -/
import Derived.Test.YtolokohgphdngaaPor0
import Derived.OpenShut
import Derived.Lib.Hide
namespace Go.Proofs.Ytolokohgphdngaa.PPortSamples
open Go.RowKit Go.Proofs.YtolokohgphdngaaW.PrintWords Go.Proofs.YtolokohgphdngaaW.PrintLast Go.Proofs.YtolokohgphdngaaW.PrintMore
attribute [local go_sem] max2_int min2_int max_two min_two max_three min_three max_four min_four   -- for this text's walks alone
set_option linter.unusedVariables false
set_option linter.unusedSimpArgs false

/-! ### port_Sampling_Write: function 12, walked by hand (its printed walk falls) -/
def port_Sampling_Write.f (s0_0 : Int) (s0_1 : Int) (s0_2 : ByteArray) (s0_3 : Int) (s0_4 : Int) (a1 : Int) (a2 : ByteArray) : Option (Int × Int × Int × ByteArray × Int × Int) := (port_fits.f a2 s0_0).bind fun t101 => (if t101 = true then (if s0_4 > 0 then (if a1 < s0_3 then (some (5, s0_0, s0_1, s0_2, s0_3, s0_4)) else (some (0, s0_0, s0_1, a2, a1, wrap64 (s0_4 + 1)))) else (some (0, s0_0, s0_1, a2, a1, wrap64 (s0_4 + 1)))) else (some (3, s0_0, s0_1, s0_2, s0_3, s0_4)))
theorem fits_yes (m : ByteArray) (size : Int) (h1 : (m.size : Int) ≥ 1) (h2 : (m.size : Int) ≤ size) : port_fits.f m size = some true := by unfold port_fits.f; rw [if_pos h1]; simp [h2]
theorem fits_is (m : ByteArray) (size : Int) : port_fits.f m size = some (decide (1 ≤ (m.size : Int) ∧ (m.size : Int) ≤ size)) := by
  unfold port_fits.f
  by_cases h : (m.size : Int) ≥ 1
  · rw [if_pos h]; congr 1; simp only [decide_eq_decide]; omega
  · rw [if_neg h]; congr 1; symm; rw [decide_eq_false_iff_not]; omega
set_option maxHeartbeats 1600000 in
set_option maxRecDepth 100000 in
theorem port_Sampling_Write.calls (g : Nat) (s0_0 : Int) (s0_1 : Int) (s0_2 : ByteArray) (s0_3 : Int) (s0_4 : Int) (a1 : Int) (a2 : ByteArray) (r1 : Int) (r2 : Int) (r3 : Int) (r4 : ByteArray) (r5 : Int) (r6 : Int) (w0 w : World) (h40 : 0 ≤ s0_4) (h41 : s0_4 ≤ 1000000) (hI : IsS119 w0 w g s0_0 s0_1 s0_2 s0_3 s0_4) (hB : Below w0.heap.size w0 w) (h : port_Sampling_Write.f s0_0 s0_1 s0_2 s0_3 s0_4 a1 a2 = some (r1, r2, r3, r4, r5, r6)) :
    Calls Try.prog 12 #[.pointer (some ⟨g, 0, none⟩), .int .u64 a1, .string a2] w fun e w' => e = .returned (.int .i64 r1) ∧ IsS119 w0 w' g r2 r3 r4 r5 r6 ∧ Below w0.heap.size w0 w' ∧ KeepBut w w' g none := by
  unfold port_Sampling_Write.f at h
  rw [fits_is] at h
  have e1 : wrap64 (s0_4 + 1) = s0_4 + 1 := by unfold wrap64; omega
  rw [e1] at h
  have hF := port_fits.calls a2 s0_0 _ w (fits_is a2 s0_0)
  have HF := Go.Lib.hid hF
  have hgg := hI.ge
  have HI := Go.Lib.hid hI
  have HB := Go.Lib.hid hB
  have HG := Go.Lib.hid hgg
  have c0 := blk_cell hI.1 0
  clear hF hI hB hgg e1
  by_cases hf : 1 ≤ (a2.size : Int) ∧ (a2.size : Int) ≤ s0_0
  · rw [decide_eq_true hf] at h HF
    clear hf
    simp only [Option.bind_some, if_true] at h
    by_cases hw : s0_4 > 0
    · have hw' : decide (0 < s0_4) = true := by simpa using hw
      rw [if_pos hw] at h
      clear hw
      by_cases ha : a1 < s0_3
      · have ha' : decide (a1 < s0_3) = true := by simpa using ha
        rw [if_pos ha] at h
        clear ha
        injection h with hq
        injection hq with q1 hq; injection hq with q2 hq; injection hq with q3 hq; injection hq with q4 hq; injection hq with q5 q6
        subst q1 q2 q3 q4 q5 q6
        go_enter Try.func12, Try.ntmps12
        go_wp2_with fail
        refine HF.out.mono ?_
        rintro e w1 ⟨rfl, hd⟩
        obtain ⟨n1, rfl⟩ := hd.out
        have c3 := blk_cell (HI.out.drewN n1).1 3
        have c4 := blk_cell (HI.out.drewN n1).1 4
        have c2 := blk_cell (HI.out.drewN n1).1 2
        have f2 := blk_frozen (HI.out.drewN n1).1 2
        have f3 := blk_frozen (HI.out.drewN n1).1 3
        have f4 := blk_frozen (HI.out.drewN n1).1 4
        go_wp2_with fail
        go_ret
        exact ⟨rfl, HI.out.drewN n1, pw_below_drewN HB.out n1, KeepBut.of_below (pw_below_drewN (Below.refl _ _) n1) g none⟩
      · have ha' : decide (a1 < s0_3) = false := by simpa using ha
        rw [if_neg ha] at h
        clear ha
        injection h with hq
        injection hq with q1 hq; injection hq with q2 hq; injection hq with q3 hq; injection hq with q4 hq; injection hq with q5 q6
        subst q1 q2 q3 q4 q5 q6
        go_enter Try.func12, Try.ntmps12
        go_wp2_with fail
        refine HF.out.mono ?_
        rintro e w1 ⟨rfl, hd⟩
        obtain ⟨n1, rfl⟩ := hd.out
        have c3 := blk_cell (HI.out.drewN n1).1 3
        have c4 := blk_cell (HI.out.drewN n1).1 4
        have c2 := blk_cell (HI.out.drewN n1).1 2
        have f2 := blk_frozen (HI.out.drewN n1).1 2
        have f3 := blk_frozen (HI.out.drewN n1).1 3
        have f4 := blk_frozen (HI.out.drewN n1).1 4
        go_wp2_with fail
        go_ret
        refine ⟨rfl, ((((HI.out.drewN n1).set_2 a2).set_3 a1).set_4 (s0_4 + 1)), below_set (below_set (below_set (pw_below_drewN HB.out n1) HG.out) HG.out) HG.out, (((KeepBut.of_below (pw_below_drewN (Below.refl w.heap.size w) n1) g none).set_ 2 _).set_ 3 _).set_ 4 _⟩
    · have hw' : decide (0 < s0_4) = false := by simpa using hw
      rw [if_neg hw] at h
      clear hw
      injection h with hq
      injection hq with q1 hq; injection hq with q2 hq; injection hq with q3 hq; injection hq with q4 hq; injection hq with q5 q6
      subst q1 q2 q3 q4 q5 q6
      go_enter Try.func12, Try.ntmps12
      go_wp2_with fail
      refine HF.out.mono ?_
      rintro e w1 ⟨rfl, hd⟩
      obtain ⟨n1, rfl⟩ := hd.out
      have c3 := blk_cell (HI.out.drewN n1).1 3
      have c4 := blk_cell (HI.out.drewN n1).1 4
      have c2 := blk_cell (HI.out.drewN n1).1 2
      have f2 := blk_frozen (HI.out.drewN n1).1 2
      have f3 := blk_frozen (HI.out.drewN n1).1 3
      have f4 := blk_frozen (HI.out.drewN n1).1 4
      go_wp2_with fail
      go_ret
      refine ⟨rfl, ((((HI.out.drewN n1).set_2 a2).set_3 a1).set_4 (s0_4 + 1)), below_set (below_set (below_set (pw_below_drewN HB.out n1) HG.out) HG.out) HG.out, (((KeepBut.of_below (pw_below_drewN (Below.refl w.heap.size w) n1) g none).set_ 2 _).set_ 3 _).set_ 4 _⟩
  · rw [decide_eq_false hf] at h HF
    clear hf
    simp only [Option.bind_some, Bool.false_eq_true, if_false] at h
    injection h with hq
    injection hq with q1 hq; injection hq with q2 hq; injection hq with q3 hq; injection hq with q4 hq; injection hq with q5 q6
    subst q1 q2 q3 q4 q5 q6
    go_enter Try.func12, Try.ntmps12
    go_wp2_with fail
    refine HF.out.mono ?_
    rintro e w1 ⟨rfl, hd⟩
    obtain ⟨n1, rfl⟩ := hd.out
    have c3 := blk_cell (HI.out.drewN n1).1 3
    have c4 := blk_cell (HI.out.drewN n1).1 4
    have c2 := blk_cell (HI.out.drewN n1).1 2
    have f2 := blk_frozen (HI.out.drewN n1).1 2
    have f3 := blk_frozen (HI.out.drewN n1).1 3
    have f4 := blk_frozen (HI.out.drewN n1).1 4
    go_wp2_with fail
    go_ret
    exact ⟨rfl, HI.out.drewN n1, pw_below_drewN HB.out n1, KeepBut.of_below (pw_below_drewN (Below.refl _ _) n1) g none⟩
end Go.Proofs.Ytolokohgphdngaa.PPortSamples
