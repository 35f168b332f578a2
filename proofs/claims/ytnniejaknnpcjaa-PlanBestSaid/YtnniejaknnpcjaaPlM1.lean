/- Parts of plan.Make. -/
import Derived.Test.YtnniejaknnpcjaaPlM0
import Derived.Test.YtnniejaknnpcjaaSlm
import Derived.Test.YtnniejaknnpcjaaPPlanWordsx2
namespace Go.Proofs.Ytnniejaknnpcjaa.PlW
open Go.RowKit Go.Proofs.YtnniejaknnpcjaaW.PrintWords Go.Proofs.YtnniejaknnpcjaaW.PrintLast Go.Proofs.YtnniejaknnpcjaaW.PrintMore Go.Proofs.Ytnniejaknnpcjaa.Mine Go.Proofs.Ytnniejaknnpcjaa.PPlanWords
open Go.Proofs.Ytnniejaknnpcjaa.Sl (SL Stp Chg St No)
set_option linter.unusedVariables false
set_option linter.unusedSimpArgs false
attribute [local go_sem] max2_int min2_int max_two min_two max_three min_three max_four min_four
theorem pos_is (n : Int) (w : World) : Calls Try.prog 74 #[.int .i64 n] w fun e w' => e = .returned (.bool (decide (0 < n))) ∧ w = w' := by
  go_enter Try.func74, Try.ntmps74
  go_wp2
  go_ret
  exact ⟨rfl, rfl⟩
set_option maxHeartbeats 1600000 in
theorem index_none (A : Option Addr) (c : Nat) (l : List Int) (w : World) (hC : Kd.C (Kd.int .i64) w A l.length l) (h : ∀ x ∈ l, x ≤ 0) : Calls Try.prog 73 #[.slice A l.length c, .func (.func 74) #[] #[]] w fun e w' => e = .returned (.int .i64 (-1)) ∧ w = w' := by
  have hm := hC.2.1
  have HC := Go.Lib.hid hC
  have HN := Go.Lib.hid h
  clear hC h
  go_enter Try.func73, Try.ntmps73
  go_wp2_with fail
  go_loop [8] (fun i => ∃ k : Nat, k ≤ l.length ∧ i = .int .i64 k) (fun i => l.length - (intOf i).toNat)
  case atStart => exact ⟨0, Nat.zero_le _, rfl⟩
  case round =>
    obtain ⟨k, hk, rfl⟩ := hrel
    by_cases hlt : k < l.length
    · obtain ⟨ad, rfl, gl⟩ := Kd.at_int HC.out (k : Int) (by omega) (by omega)
      rw [Int.toNat_natCast] at gl
      have hx : rd l (k : Int) ≤ 0 := HN.out _ (by unfold rd; rw [Int.toNat_natCast]; exact getD_mem l 0 k hlt)
      generalize rd l (k : Int) = x at *
      have d0 : decide (0 < x) = false := by simpa using hx
      go_wp2_with (go_at_call 74; refine (pos_is _ _).mono ?_; rintro e w' ⟨rfl, rfl⟩)
      go_round
      case rel => exact ⟨k + 1, hlt, rfl⟩
      case measure => simp [intOf]; omega
    · go_wp2_with fail
      go_ret
      exact ⟨rfl, rfl⟩
set_option maxHeartbeats 1600000 in
theorem all_ok (fr : Nat) (hf : 1 ≤ fr) (hf2 : fr ≤ 4096) (A : Option Addr) (c : Nat) (ns : List S69) (hn : ns.length ≤ 1000) (hc : ns.length ≤ c) (hR : ∀ i, i < ns.length → Right fr ns i) (w : World) (hC : Kd.C k69 w A ns.length ns) :
    Calls Try.prog 69 #[.int .i64 fr, .slice A ns.length c] w fun e w' => e = .returned .nilIface ∧ Below w.heap.size w w' := by
  have HC := Go.Lib.hid hC
  have HR := Go.Lib.hid hR
  have HW := Go.Lib.hid (Below.refl w.heap.size w)
  clear hC hR
  go_enter Try.func69, Try.ntmps69
  go_wp2_with fail
  go_loopw [16] (fun i wr => ∃ k : Nat, k ≤ ns.length ∧ i = .int .i64 k ∧ Below w.heap.size w wr) (fun i _ => ns.length - (intOf i).toNat)
  case atStart => exact ⟨0, Nat.zero_le _, rfl, HW.out⟩
  case round =>
    clear HW
    obtain ⟨k, hk, rfl, hW⟩ := hrel
    have HW := Go.Lib.hid hW
    clear hW
    by_cases hlt : k < ns.length
    · have HX := Go.Lib.hid (right_is hlt hn (HR.out k hlt) 4 (Nat.le_refl _))
      go_wp2_with fail
      refine (plan_right.calls 4 (fr : Int) A c ns (k : Int) 0 _ (Kd.C_below HC.out HW.out) hc HX.out).mono ?_; rintro e w1 ⟨rfl, hB⟩
      replace HW := Go.Lib.hid (HW.out.trans (hB.mono HW.out.size)); clear hB
      go_wp2_with fail
      refine (fault_New.calls 0 none _ new_none).mono ?_; rintro e w2 ⟨rfl, hB⟩
      replace HW := Go.Lib.hid (HW.out.trans (hB.mono HW.out.size)); clear hB
      rw [errW_none]
      go_wp2_with fail
      go_roundw
      case rel => exact ⟨k + 1, hlt, rfl, HW.out⟩
      case measure => simp [intOf]; omega
    · go_wp2_with fail
      go_ret
      exact ⟨rfl, HW.out⟩
end Go.Proofs.Ytnniejaknnpcjaa.PlW
