/- An engine in memory: a tick. -/
import Derived.Test.YtnpjbdaaoknkbaaYFrmC
namespace Go.Proofs.Ytnpjbdaaoknkbaa.Frm
open Go.RowKit Go.Proofs.YtnpjbdaaoknkbaaW.PrintWords Go.Proofs.YtnpjbdaaoknkbaaW.PrintLast Go.Proofs.YtnpjbdaaoknkbaaW.PrintMore Go.Proofs.Ytnpjbdaaoknkbaa.Mine Go.Proofs.Ytnpjbdaaoknkbaa.PTableFrames
open Go.Proofs.Ytnpjbdaaoknkbaa.Sl (SL Stp Chg St No wpc_seal wpc_round sealed)
set_option linter.unusedVariables false
set_option linter.unusedSimpArgs false
attribute [local go_sem] max2_int min2_int max_two min_two max_three min_three max_four min_four
open Go.Proofs.Ytnpjbdaaoknkbaa.Tab (InT In InA Runs cur_tick cur_owner step_st nextT nextJ rd_mem)
open Go.Proofs.Ytnpjbdaaoknkbaa.Sl (MK look)
variable {l : List SL} {w0 w : World} {ge gc gk gt bm : Nat} {due t id fr now frames : Int} {j : Nat} {rs : List S44} {m : List (Int × Value)} {own_ : Int → Int}
theorem res24 (tmps : Array Value) (P : Program) (w : World) : (results Try.f24 tmps).run P w = .ok (.tuple #[tmps.getD 2 undef, tmps.getD 3 undef, tmps.getD 4 undef]) w := by
 simp [results, Try.results24, go_sem]
theorem etick_no (h : St (SL.blk ge 108 #[.map (some bm), .pointer (some ⟨gc, 0, none⟩), .int .i64 due, .pointer (some ⟨gk, 0, none⟩), .int .u64 frames] :: SL.map KI bm m :: SL.blk gk 132 #[.int .u64 18446744073709551615] :: SL.blk gc 100 #[.pointer (some ⟨gt, 0, none⟩), .int .i64 t, .int .i64 ((j : Nat) : Int)] :: l) w0 w) : Calls Try.prog 24 #[.pointer (some ⟨ge, 0, none⟩)] w fun e w' => e = .returned (.tuple #[.int .i64 (-1), .bool false, .bool false]) ∧ St (SL.blk ge 108 #[.map (some bm), .pointer (some ⟨gc, 0, none⟩), .int .i64 due, .pointer (some ⟨gk, 0, none⟩), .int .u64 frames] :: SL.map KI bm m :: SL.blk gk 132 #[.int .u64 18446744073709551615] :: SL.blk gc 100 #[.pointer (some ⟨gt, 0, none⟩), .int .i64 t, .int .i64 ((j : Nat) : Int)] :: l) w0 w' := by
 obtain ⟨q0, q1, q2, q3, q4⟩ := h.c5 0 _ _ _ _ _ _ _ rfl
 have HS := Go.Lib.hid h
 clear h
 go_enter Try.func24, Try.ntmps24
 go_wp2_with (go_at_call 69; refine (tick_no HS.out 2 rfl).mono ?_; rintro e w1 ⟨rfl, hS⟩; replace HS := Go.Lib.hid hS; clear hS)
 exact bodyPost_ret (res24 _ _ _) rfl ⟨rfl, HS.out⟩
set_option maxHeartbeats 3200000 in
set_option maxRecDepth 100000 in
theorem etick_in (h : St (SL.blk ge 108 #[.map (some bm), .pointer (some ⟨gc, 0, none⟩), .int .i64 due, .pointer (some ⟨gk, 0, none⟩), .int .u64 frames] :: SL.map KI bm m :: SL.blk gk 132 #[.int .u64 now] :: SL.blk gc 100 #[.pointer (some ⟨gt, 0, none⟩), .int .i64 t, .int .i64 ((j : Nat) : Int)] :: l) w0 w) (hn0 : 0 ≤ now) (hn1 : now < 18446744073709551615) (ad : Addr) (c : Nat) (RA : InA l gt id fr rs (some ad) c) (hr : Runs own_ rs fr) (hi : In rs t j) (hlen : rs.length ≤ 100000) (ht0 : 0 ≤ t) (hf : fr ≤ 4000000) (hlt : t + 1 < fr) :
  Calls Try.prog 24 #[.pointer (some ⟨ge, 0, none⟩)] w fun e w' => e = .returned (.tuple #[.int .i64 (rd_T44 rs (j : Int)).f0, .bool false, .bool true]) ∧ St (SL.blk ge 108 #[.map (some bm), .pointer (some ⟨gc, 0, none⟩), .int .i64 due, .pointer (some ⟨gk, 0, none⟩), .int .u64 frames] :: SL.map KI bm m :: SL.blk gk 132 #[.int .u64 (now + 1)] :: SL.blk gc 100 #[.pointer (some ⟨gt, 0, none⟩), .int .i64 (nextT fr t), .int .i64 ((nextJ rs fr t j : Nat) : Int)] :: l) w0 w' := by
 obtain ⟨q0, q1, q2, q3, q4⟩ := h.c5 0 _ _ _ _ _ _ _ rfl
 have hj := hi.lt
 have hb := hr.low _ (rd_mem rs j hj)
 have hp := hr.pos _ (rd_mem rs j hj)
 have HB : Hid (0 ≤ (rd_T44 rs (j : Int)).f1 ∧ (rd_T44 rs (j : Int)).f1 + (rd_T44 rs (j : Int)).f2 ≤ 4000000) := Go.Lib.hid (by omega)
 have HP : Hid (0 ≤ (rd_T44 rs (j : Int)).f2) := Go.Lib.hid (by omega)
 have HT := Go.Lib.hid (decide_eq_true hlt)
 have HS := Go.Lib.hid h
 have ht1 : t ≤ 4000000 := by omega
 clear h hb hp hlt
 go_enter Try.func24, Try.ntmps24
 go_wp2_with (first | (go_at_call 69; refine (tick_yes HS.out 2 rfl hn0 hn1).mono ?_; rintro e w1 ⟨rfl, hS⟩; replace HS : Hid (St (SL.blk ge 108 #[.map (some bm), .pointer (some ⟨gc, 0, none⟩), .int .i64 due, .pointer (some ⟨gk, 0, none⟩), .int .u64 frames] :: SL.map KI bm m :: SL.blk gk 132 #[.int .u64 (now + 1)] :: SL.blk gc 100 #[.pointer (some ⟨gt, 0, none⟩), .int .i64 t, .int .i64 ((j : Nat) : Int)] :: l) w0 w1) := Go.Lib.hid hS; clear hS q0 q1 q2 q3 q4; obtain ⟨q0, q1, q2, q3, q4⟩ := HS.out.c5 0 _ _ _ _ _ _ _ rfl) | (go_at_call 14; refine (cur_owner HS.out 3 t j rfl ((((RA.t.cons _).cons _).cons _).cons _) hj).mono ?_; rintro e w2 ⟨rfl, hS⟩; replace HS := Go.Lib.hid hS; clear hS q0 q1 q2 q3 q4; obtain ⟨q0, q1, q2, q3, q4⟩ := HS.out.c5 0 _ _ _ _ _ _ _ rfl) | (go_at_call 18; refine (step_st HS.out 3 t j rfl ad c (fun X => (((RA.cons _).cons _).cons _).cons _) hj hlen ht0 ht1 HB.out HP.out).mono ?_; rintro e w3 ⟨rfl, hS⟩; rw [HT.out]; replace HS := Go.Lib.hid hS; clear hS q0 q1 q2 q3 q4))
 exact bodyPost_ret (res24 _ _ _) rfl ⟨rfl, HS.out⟩
end Go.Proofs.Ytnpjbdaaoknkbaa.Frm
