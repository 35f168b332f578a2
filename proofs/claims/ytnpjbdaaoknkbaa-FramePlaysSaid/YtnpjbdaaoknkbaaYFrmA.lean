/- A clock in memory. -/
import Derived.Test.YtnpjbdaaoknkbaaYSlq
import Derived.Test.YtnpjbdaaoknkbaaYQ0
namespace Go.Proofs.Ytnpjbdaaoknkbaa.Frm
open Go.RowKit Go.Proofs.YtnpjbdaaoknkbaaW.PrintWords Go.Proofs.YtnpjbdaaoknkbaaW.PrintLast Go.Proofs.YtnpjbdaaoknkbaaW.PrintMore Go.Proofs.Ytnpjbdaaoknkbaa.Mine Go.Proofs.Ytnpjbdaaoknkbaa.PTableFrames
open Go.Proofs.Ytnpjbdaaoknkbaa.Sl (SL Stp Chg St No wpc_seal wpc_round sealed)
set_option linter.unusedVariables false
set_option linter.unusedSimpArgs false
attribute [local go_sem] max2_int min2_int max_two min_two max_three min_three max_four min_four
variable {l : List SL} {w0 w : World} {g : Nat} {t : Int}
/-- The greatest time. -/
def mostT : Int := 18446744073709551615
theorem clk_new (h : St l w0 w) (t : Int) : Calls Try.prog 66 #[.int .u64 t] w fun e w' => ∃ g, e = .returned (.pointer (some ⟨g, 0, none⟩)) ∧ St (SL.blk g 132 #[.int .u64 t] :: l) w0 w' := by
 have HS := Go.Lib.hid h
 clear h
 go_enter Try.func66, Try.ntmps66
 go_wp2_with (first | ((with_reducible refine gate_dst (N := 5) rfl ?_); refine Sl.box_st HS.out (by rfl) (cs := #[.int .u64 t]) (t := 132) ?hr ?_; (case hr => first | (go_simp; done) | (go_simp; rfl)); intro g w1_ HSn HBn; clear HBn; replace HS : Hid (St (SL.blk g 132 #[.int .u64 t] :: l) w0 w1_) := Go.Lib.hid HSn; clear HSn; obtain c0_0 := HS.out.c1 0 _ _ _ rfl))
 go_ret
 exact ⟨g, rfl, HS.out⟩
theorem clk_now (h : St l w0 w) (n : Nat) (e : l[n]? = some (SL.blk g 132 #[.int .u64 t])) : Calls Try.prog 72 #[.pointer (some ⟨g, 0, none⟩)] w fun e w' => e = .returned (.int .u64 t) ∧ w = w' := by
 have c0 := h.c1 n _ _ _ e
 clear h e
 go_enter Try.func72, Try.ntmps72
 go_wp2_with fail
 go_ret
 exact ⟨rfl, rfl⟩
theorem clk_halted (h : St l w0 w) (n : Nat) (e : l[n]? = some (SL.blk g 132 #[.int .u64 t])) (b : Bool) (hb : (t == 18446744073709551615) = b) : Calls Try.prog 71 #[.pointer (some ⟨g, 0, none⟩)] w fun e w' => e = .returned (.bool b) ∧ w = w' := by
 have c0 := h.c1 n _ _ _ e
 clear h e
 go_enter Try.func71, Try.ntmps71
 go_wp2_with fail
 go_ret
 exact ⟨by first | rfl | rw [hb], rfl⟩
theorem clk_left (h : St l w0 w) (n : Nat) (e : l[n]? = some (SL.blk g 132 #[.int .u64 t])) (h0 : 0 ≤ t) (h1 : t ≤ 18446744073709551615) : Calls Try.prog 132 #[.pointer (some ⟨g, 0, none⟩)] w fun e w' => e = .returned (.int .u64 (18446744073709551615 - t)) ∧ w = w' := by
 have c0 := h.c1 n _ _ _ e
 clear h e
 go_enter Try.func132, Try.ntmps132
 go_wp2_with fail
 go_ret
 exact ⟨rfl, rfl⟩
set_option maxHeartbeats 1600000 in
theorem run_yes (h : St l w0 w) (n : Nat) (e : l[n]? = some (SL.blk g 132 #[.int .u64 t])) (h0 : 0 ≤ t) (h1 : t < 18446744073709551615) : Calls Try.prog 117 #[.pointer (some ⟨g, 0, none⟩), .int .i64 1] w fun e w' => e = .returned (.int .i64 1) ∧ St (l.set n (SL.blk g 132 #[.int .u64 (t + 1)])) w0 w' := by
 have HS := Go.Lib.hid h
 have HE := Go.Lib.hid e
 have c0 := h.c1 n _ _ _ e
 clear h e
 have d0 : decide ((18446744073709551615 : Int) - t < 1) = false := by simp; omega
 go_enter Try.func117, Try.ntmps117
 go_wp2_with (first | (go_at_call 132; refine (clk_left HS.out n HE.out (by omega) (by omega)).mono ?_; rintro e w' ⟨rfl, rfl⟩) | ((with_reducible refine gate_store (p := 24) rfl ?_); refine Sl.store_st HS.out n g 132 _ HE.out 0 (.int .u64 (t + 1)) (by rfl) (by rfl) ?hr ?_; (case hr => have f_ := HS.out.free n _ _ _ HE.out 0; first | (go_simp; done) | (go_simp; rfl)); intro w1_ HSn; replace HS := Go.Lib.hid HSn; clear HSn c0))
 go_ret
 exact ⟨rfl, HS.out⟩
set_option maxHeartbeats 1600000 in
theorem run_no (h : St l w0 w) (n : Nat) (e : l[n]? = some (SL.blk g 132 #[.int .u64 18446744073709551615])) : Calls Try.prog 117 #[.pointer (some ⟨g, 0, none⟩), .int .i64 1] w fun e w' => e = .returned (.int .i64 0) ∧ St (l.set n (SL.blk g 132 #[.int .u64 18446744073709551615])) w0 w' := by
 have HS := Go.Lib.hid h
 have HE := Go.Lib.hid e
 have c0 := h.c1 n _ _ _ e
 clear h e
 go_enter Try.func117, Try.ntmps117
 go_wp2_with (first | (go_at_call 132; refine (clk_left HS.out n HE.out (by omega) (by omega)).mono ?_; rintro e w' ⟨rfl, rfl⟩) | ((with_reducible refine gate_store (p := 24) rfl ?_); refine Sl.store_st HS.out n g 132 _ HE.out 0 (.int .u64 18446744073709551615) (by rfl) (by rfl) ?hr ?_; (case hr => have f_ := HS.out.free n _ _ _ HE.out 0; first | (go_simp; done) | (go_simp; rfl)); intro w1_ HSn; replace HS := Go.Lib.hid HSn; clear HSn c0))
 go_ret
 exact ⟨rfl, HS.out⟩
theorem set_same {α : Type} {l : List α} {n : Nat} {x : α} (e : l[n]? = some x) : l.set n x = l := by
 obtain ⟨h, rfl⟩ := List.getElem?_eq_some_iff.1 e
 exact List.set_getElem_self h
theorem tick_yes (h : St l w0 w) (n : Nat) (e : l[n]? = some (SL.blk g 132 #[.int .u64 t])) (h0 : 0 ≤ t) (h1 : t < 18446744073709551615) : Calls Try.prog 69 #[.pointer (some ⟨g, 0, none⟩)] w fun e w' => e = .returned (.bool true) ∧ St (l.set n (SL.blk g 132 #[.int .u64 (t + 1)])) w0 w' := by
 have HS := Go.Lib.hid h
 have HE := Go.Lib.hid e
 clear h e
 go_enter Try.func69, Try.ntmps69
 go_wp2_with (go_at_call 117; refine (run_yes HS.out n HE.out h0 h1).mono ?_; rintro e w1 ⟨rfl, hS⟩; replace HS := Go.Lib.hid hS; clear hS)
 go_ret
 exact ⟨rfl, HS.out⟩
theorem tick_no (h : St l w0 w) (n : Nat) (e : l[n]? = some (SL.blk g 132 #[.int .u64 18446744073709551615])) : Calls Try.prog 69 #[.pointer (some ⟨g, 0, none⟩)] w fun e w' => e = .returned (.bool false) ∧ St l w0 w' := by
 have HS := Go.Lib.hid h
 have HE := Go.Lib.hid e
 clear h e
 go_enter Try.func69, Try.ntmps69
 go_wp2_with (go_at_call 117; refine (run_no HS.out n HE.out).mono ?_; rintro e w1 ⟨rfl, hS⟩; rw [set_same HE.out] at hS; replace HS := Go.Lib.hid hS; clear hS)
 go_ret
 exact ⟨rfl, HS.out⟩
end Go.Proofs.Ytnpjbdaaoknkbaa.Frm
