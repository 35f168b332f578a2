/- An engine in memory: what it tells. -/
import Derived.Test.YtnpjbdaaoknkbaaYFrmA
import Derived.Test.YtnpjbdaaoknkbaaYTabC
namespace Go.Proofs.Ytnpjbdaaoknkbaa.Frm
open Go.RowKit Go.Proofs.YtnpjbdaaoknkbaaW.PrintWords Go.Proofs.YtnpjbdaaoknkbaaW.PrintLast Go.Proofs.YtnpjbdaaoknkbaaW.PrintMore Go.Proofs.Ytnpjbdaaoknkbaa.Mine Go.Proofs.Ytnpjbdaaoknkbaa.PTableFrames
open Go.Proofs.Ytnpjbdaaoknkbaa.Sl (SL Stp Chg St No wpc_seal wpc_round sealed)
set_option linter.unusedVariables false
set_option linter.unusedSimpArgs false
attribute [local go_sem] max2_int min2_int max_two min_two max_three min_three max_four min_four
open Go.Proofs.Ytnpjbdaaoknkbaa.Tab (InT In Runs cur_tick)
variable {l : List SL} {w0 w : World} {ge gc gk gt bm : Nat} {due t id fr now frames : Int} {j : Nat} {rs : List S44}
theorem tab_id (h : St l w0 w) (R : InT l gt id fr rs) : Calls Try.prog 68 #[.pointer (some ⟨gt, 0, none⟩)] w fun e w' => e = .returned (.int .i64 id) ∧ w = w' := by
 obtain ⟨A, c, y3, y4, y5, hC⟩ := R.sees h
 clear h hC
 go_enter Try.func68, Try.ntmps68
 go_wp2_with fail
 go_ret
 exact ⟨rfl, rfl⟩
theorem cur_table (h : St l w0 w) (nc : Nat) (eC : l[nc]? = some (SL.blk gc 100 #[.pointer (some ⟨gt, 0, none⟩), .int .i64 t, .int .i64 ((j : Nat) : Int)])) : Calls Try.prog 70 #[.pointer (some ⟨gc, 0, none⟩)] w fun e w' => e = .returned (.pointer (some ⟨gt, 0, none⟩)) ∧ w = w' := by
 obtain ⟨q0, q1, q2⟩ := h.c3 nc _ _ _ _ _ eC
 have HS := Go.Lib.hid h
 clear h
 go_enter Try.func70, Try.ntmps70
 go_wp2_with fail
 go_ret
 exact ⟨rfl, rfl⟩
theorem eng_due (h : St l w0 w) (ne : Nat) (eE : l[ne]? = some (SL.blk ge 108 #[.map (some bm), .pointer (some ⟨gc, 0, none⟩), .int .i64 due, .pointer (some ⟨gk, 0, none⟩), .int .u64 frames])) : Calls Try.prog 31 #[.pointer (some ⟨ge, 0, none⟩)] w fun e w' => e = .returned (.int .i64 due) ∧ w = w' := by
 obtain ⟨q0, q1, q2, q3, q4⟩ := h.c5 ne _ _ _ _ _ _ _ eE
 have HS := Go.Lib.hid h
 clear h
 go_enter Try.func31, Try.ntmps31
 go_wp2_with fail
 go_ret
 exact ⟨rfl, rfl⟩
theorem eng_frames (h : St l w0 w) (ne : Nat) (eE : l[ne]? = some (SL.blk ge 108 #[.map (some bm), .pointer (some ⟨gc, 0, none⟩), .int .i64 due, .pointer (some ⟨gk, 0, none⟩), .int .u64 frames])) : Calls Try.prog 27 #[.pointer (some ⟨ge, 0, none⟩)] w fun e w' => e = .returned (.int .u64 frames) ∧ w = w' := by
 obtain ⟨q0, q1, q2, q3, q4⟩ := h.c5 ne _ _ _ _ _ _ _ eE
 have HS := Go.Lib.hid h
 clear h
 go_enter Try.func27, Try.ntmps27
 go_wp2_with fail
 go_ret
 exact ⟨rfl, rfl⟩
theorem eng_now (h : St l w0 w) (ne : Nat) (eE : l[ne]? = some (SL.blk ge 108 #[.map (some bm), .pointer (some ⟨gc, 0, none⟩), .int .i64 due, .pointer (some ⟨gk, 0, none⟩), .int .u64 frames])) (nk : Nat) (eK : l[nk]? = some (SL.blk gk 132 #[.int .u64 now])) : Calls Try.prog 29 #[.pointer (some ⟨ge, 0, none⟩)] w fun e w' => e = .returned (.int .u64 now) ∧ w = w' := by
 obtain ⟨q0, q1, q2, q3, q4⟩ := h.c5 ne _ _ _ _ _ _ _ eE
 have HS := Go.Lib.hid h
 clear h
 go_enter Try.func29, Try.ntmps29
 go_wp2_with (go_at_call 72; refine (clk_now HS.out nk eK).mono ?_; rintro e w' ⟨rfl, rfl⟩)
 go_ret
 exact ⟨rfl, rfl⟩
theorem eng_halted (h : St l w0 w) (ne : Nat) (eE : l[ne]? = some (SL.blk ge 108 #[.map (some bm), .pointer (some ⟨gc, 0, none⟩), .int .i64 due, .pointer (some ⟨gk, 0, none⟩), .int .u64 frames])) (nk : Nat) (eK : l[nk]? = some (SL.blk gk 132 #[.int .u64 now])) (b : Bool) (hb : (now == 18446744073709551615) = b) : Calls Try.prog 28 #[.pointer (some ⟨ge, 0, none⟩)] w fun e w' => e = .returned (.bool b) ∧ w = w' := by
 obtain ⟨q0, q1, q2, q3, q4⟩ := h.c5 ne _ _ _ _ _ _ _ eE
 have HBb := Go.Lib.hid hb
 clear hb
 have HS := Go.Lib.hid h
 clear h
 go_enter Try.func28, Try.ntmps28
 go_wp2_with (go_at_call 71; refine (clk_halted HS.out nk eK b HBb.out).mono ?_; rintro e w' ⟨rfl, rfl⟩)
 go_ret
 exact ⟨rfl, rfl⟩
theorem eng_offset (h : St l w0 w) (ne : Nat) (eE : l[ne]? = some (SL.blk ge 108 #[.map (some bm), .pointer (some ⟨gc, 0, none⟩), .int .i64 due, .pointer (some ⟨gk, 0, none⟩), .int .u64 frames])) (nc : Nat) (eC : l[nc]? = some (SL.blk gc 100 #[.pointer (some ⟨gt, 0, none⟩), .int .i64 t, .int .i64 ((j : Nat) : Int)])) (R : InT l gt id fr rs) : Calls Try.prog 25 #[.pointer (some ⟨ge, 0, none⟩)] w fun e w' => e = .returned (.int .i64 t) ∧ w = w' := by
 obtain ⟨q0, q1, q2, q3, q4⟩ := h.c5 ne _ _ _ _ _ _ _ eE
 have HS := Go.Lib.hid h
 clear h
 go_enter Try.func25, Try.ntmps25
 go_wp2_with (go_at_call 17; refine (cur_tick HS.out nc t j eC R).mono ?_; rintro e w' ⟨rfl, rfl⟩)
 go_ret
 exact ⟨rfl, rfl⟩
theorem eng_current (h : St l w0 w) (ne : Nat) (eE : l[ne]? = some (SL.blk ge 108 #[.map (some bm), .pointer (some ⟨gc, 0, none⟩), .int .i64 due, .pointer (some ⟨gk, 0, none⟩), .int .u64 frames])) (nc : Nat) (eC : l[nc]? = some (SL.blk gc 100 #[.pointer (some ⟨gt, 0, none⟩), .int .i64 t, .int .i64 ((j : Nat) : Int)])) (R : InT l gt id fr rs) : Calls Try.prog 26 #[.pointer (some ⟨ge, 0, none⟩)] w fun e w' => e = .returned (.int .i64 id) ∧ w = w' := by
 obtain ⟨q0, q1, q2, q3, q4⟩ := h.c5 ne _ _ _ _ _ _ _ eE
 have HS := Go.Lib.hid h
 clear h
 go_enter Try.func26, Try.ntmps26
 go_wp2_with (first | (go_at_call 70; refine (cur_table HS.out nc eC).mono ?_; rintro e w' ⟨rfl, rfl⟩) | (go_at_call 68; refine (tab_id HS.out R).mono ?_; rintro e w' ⟨rfl, rfl⟩))
 go_ret
 exact ⟨rfl, rfl⟩
end Go.Proofs.Ytnpjbdaaoknkbaa.Frm
