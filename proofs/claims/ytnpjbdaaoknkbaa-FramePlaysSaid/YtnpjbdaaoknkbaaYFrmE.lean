/- An engine in memory: a tick that ends a frame. -/
import Derived.Test.YtnpjbdaaoknkbaaYFrmD
namespace Go.Proofs.Ytnpjbdaaoknkbaa.Frm
open Go.RowKit Go.Proofs.YtnpjbdaaoknkbaaW.PrintWords Go.Proofs.YtnpjbdaaoknkbaaW.PrintLast Go.Proofs.YtnpjbdaaoknkbaaW.PrintMore Go.Proofs.Ytnpjbdaaoknkbaa.Mine Go.Proofs.Ytnpjbdaaoknkbaa.PTableFrames
open Go.Proofs.Ytnpjbdaaoknkbaa.Sl (SL Stp Chg St No wpc_seal wpc_round sealed)
set_option linter.unusedVariables false
set_option linter.unusedSimpArgs false
attribute [local go_sem] max2_int min2_int max_two min_two max_three min_three max_four min_four
open Go.Proofs.Ytnpjbdaaoknkbaa.Tab (InT In InA Runs cur_tick cur_owner step_st nextT nextJ rd_mem cursor_st)
open Go.Proofs.Ytnpjbdaaoknkbaa.Sl (MK look)
variable {l : List SL} {w0 w : World} {ge gc gk gt bm : Nat} {due t id fr now frames : Int} {j : Nat} {rs : List S44} {m : List (Int × Value)} {own_ : Int → Int}
set_option maxHeartbeats 6400000 in
set_option maxRecDepth 100000 in
theorem etick_same (h : St (SL.blk ge 108 #[.map (some bm), .pointer (some ⟨gc, 0, none⟩), .int .i64 id, .pointer (some ⟨gk, 0, none⟩), .int .u64 frames] :: SL.map KI bm m :: SL.blk gk 132 #[.int .u64 now] :: SL.blk gc 100 #[.pointer (some ⟨gt, 0, none⟩), .int .i64 t, .int .i64 ((j : Nat) : Int)] :: l) w0 w) (hn0 : 0 ≤ now) (hn1 : now < 18446744073709551615) (hq0 : 0 ≤ frames) (hq1 : frames < 18446744073709551615) (ad : Addr) (c : Nat) (RA : InA l gt id fr rs (some ad) c) (hr : Runs own_ rs fr) (hi : In rs t j) (hlen : rs.length ≤ 100000) (ht0 : 0 ≤ t) (htf : t < fr) (hf : fr ≤ 4000000) (hlt : ¬ t + 1 < fr) :
  Calls Try.prog 24 #[.pointer (some ⟨ge, 0, none⟩)] w fun e w' => e = .returned (.tuple #[.int .i64 (rd_T44 rs (j : Int)).f0, .bool true, .bool true]) ∧ St (SL.blk ge 108 #[.map (some bm), .pointer (some ⟨gc, 0, none⟩), .int .i64 id, .pointer (some ⟨gk, 0, none⟩), .int .u64 (frames + 1)] :: SL.map KI bm m :: SL.blk gk 132 #[.int .u64 (now + 1)] :: SL.blk gc 100 #[.pointer (some ⟨gt, 0, none⟩), .int .i64 (nextT fr t), .int .i64 ((nextJ rs fr t j : Nat) : Int)] :: l) w0 w' := by
 obtain ⟨q0, q1, q2, q3, q4⟩ := h.c5 0 _ _ _ _ _ _ _ rfl
 have hj := hi.lt
 have hb := hr.low _ (rd_mem rs j hj)
 have hp := hr.pos _ (rd_mem rs j hj)
 have HB : Hid (0 ≤ (rd_T44 rs (j : Int)).f1 ∧ (rd_T44 rs (j : Int)).f1 + (rd_T44 rs (j : Int)).f2 ≤ 4000000) := Go.Lib.hid (by omega)
 have HP : Hid (0 ≤ (rd_T44 rs (j : Int)).f2) := Go.Lib.hid (by omega)
 have HT := Go.Lib.hid (decide_eq_false hlt)
 have HS := Go.Lib.hid h
 have ht1 : t ≤ 4000000 := by omega
 clear h hb hp hlt
 go_enter Try.func24, Try.ntmps24
 go_upto_region 7 with (first | (go_at_call 69; refine (tick_yes HS.out 2 rfl hn0 hn1).mono ?_; rintro e w1 ⟨rfl, hS⟩; replace HS : Hid (St (SL.blk ge 108 #[.map (some bm), .pointer (some ⟨gc, 0, none⟩), .int .i64 id, .pointer (some ⟨gk, 0, none⟩), .int .u64 frames] :: SL.map KI bm m :: SL.blk gk 132 #[.int .u64 (now + 1)] :: SL.blk gc 100 #[.pointer (some ⟨gt, 0, none⟩), .int .i64 t, .int .i64 ((j : Nat) : Int)] :: l) w0 w1) := Go.Lib.hid hS; clear hS q0 q1 q2 q3 q4; obtain ⟨q0, q1, q2, q3, q4⟩ := HS.out.c5 0 _ _ _ _ _ _ _ rfl) | (go_at_call 14; refine (cur_owner HS.out 3 t j rfl ((((RA.t.cons _).cons _).cons _).cons _) hj).mono ?_; rintro e w2 ⟨rfl, hS⟩; replace HS := Go.Lib.hid hS; clear hS q0 q1 q2 q3 q4; obtain ⟨q0, q1, q2, q3, q4⟩ := HS.out.c5 0 _ _ _ _ _ _ _ rfl) | (go_at_call 18; refine (step_st HS.out 3 t j rfl ad c (fun X => (((RA.cons _).cons _).cons _).cons _) hj hlen ht0 ht1 HB.out HP.out).mono ?_; rintro e w3 ⟨rfl, hS⟩; rw [HT.out]; replace HS : Hid (St (SL.blk ge 108 #[.map (some bm), .pointer (some ⟨gc, 0, none⟩), .int .i64 id, .pointer (some ⟨gk, 0, none⟩), .int .u64 frames] :: SL.map KI bm m :: SL.blk gk 132 #[.int .u64 (now + 1)] :: SL.blk gc 100 #[.pointer (some ⟨gt, 0, none⟩), .int .i64 (nextT fr t), .int .i64 ((nextJ rs fr t j : Nat) : Int)] :: l) w0 w3) := Go.Lib.hid hS; clear hS q0 q1 q2 q3 q4; obtain ⟨q0, q1, q2, q3, q4⟩ := HS.out.c5 0 _ _ _ _ _ _ _ rfl) | ((with_reducible refine gate_store (p := 28) rfl ?_); refine Sl.store_st HS.out 0 ge 108 _ rfl 4 (.int .u64 (frames + 1)) (by rfl) (by rfl) ?hr ?_; (case hr => have f_ := HS.out.free 0 _ _ _ rfl 4; first | (go_simp; done) | (go_simp; rfl)); intro w4 HSn; replace HS : Hid (St (SL.blk ge 108 #[.map (some bm), .pointer (some ⟨gc, 0, none⟩), .int .i64 id, .pointer (some ⟨gk, 0, none⟩), .int .u64 (frames + 1)] :: SL.map KI bm m :: SL.blk gk 132 #[.int .u64 (now + 1)] :: SL.blk gc 100 #[.pointer (some ⟨gt, 0, none⟩), .int .i64 (nextT fr t), .int .i64 ((nextJ rs fr t j : Nat) : Int)] :: l) w0 w4) := Go.Lib.hid HSn; clear HSn q0 q1 q2 q3 q4))
 replace HS := Go.Lib.hid HS.out.drew
 refine start_ (n := 7) (S := fun w' => w'.cell? ⟨ge, 0, none⟩ = some (.map (some bm)) ∧ w'.cell? ⟨ge, 1, none⟩ = some (.pointer (some ⟨gc, 0, none⟩)) ∧ w'.cell? ⟨ge, 2, none⟩ = some (.int .i64 id) ∧ w'.cell? ⟨ge, 3, none⟩ = some (.pointer (some ⟨gk, 0, none⟩)) ∧ w'.cell? ⟨ge, 4, none⟩ = some (.int .u64 (frames + 1))) (ds := []) #[false, false, false, false, false, false, false] (by kernel_rfl) rfl rfl (HS.out.c5 0 _ _ _ _ _ _ _ rfl) (fun hHeld => ?_)
 generalize w4.drew = W_ at *
 refine pure_ (i := 0) (N := some 29) (v := ?_) (a' := ?_) #[true, false, false, false, false, false, false] rfl rfl (by kernel_rfl) (fun _ _ _ h => h) (Or.inl ⟨by rfl, ?_⟩) ?_ ?_
 rotate_left
 ·intro w'
  go_simp
  with_reducible rfl
 rotate_left
 ·simp only [Act.put, List.setIfInBounds_toArray, List.set_cons_zero, List.set_cons_succ, i64_w, i32_w]
  rfl
 refine pure_ (i := 1) (N := some 30) (v := ?_) (a' := ?_) #[true, true, false, false, false, false, false] rfl rfl (by kernel_rfl) (fun _ _ _ h => h) (Or.inl ⟨by rfl, ?_⟩) ?_ ?_
 rotate_left
 ·intro w'
  go_simp
  with_reducible rfl
 rotate_left
 ·simp only [Act.put, List.setIfInBounds_toArray, List.set_cons_zero, List.set_cons_succ, i64_w, i32_w]
  rfl
 refine pure_ (i := 2) (N := some 31) (v := ?_) (a' := ?_) #[true, true, true, false, false, false, false] rfl rfl (by kernel_rfl) (fun _ _ _ h => h) (Or.inl ⟨by rfl, ?_⟩) ?_ ?_
 rotate_left
 ·intro w'
  go_simp
  with_reducible rfl
 rotate_left
 ·simp only [Act.put, List.setIfInBounds_toArray, List.set_cons_zero, List.set_cons_succ, i64_w, i32_w]
  rfl
 refine pure_ (i := 4) (N := some 33) (v := ?_) (a' := ?_) #[true, true, true, false, true, false, false] rfl rfl (by kernel_rfl) (fun _ _ _ h => h) (Or.inl ⟨by rfl, ?_⟩) ?_ ?_
 rotate_left
 ·intro w'
  go_simp
  with_reducible rfl
 rotate_left
 ·simp only [Act.put, List.setIfInBounds_toArray, List.set_cons_zero, List.set_cons_succ, i64_w, i32_w]
  rfl
 refine take_ (i := 3) (N := some 32) (v := ?_) (a' := ?_) #[true, true, true, true, true, false, false] rfl rfl (by kernel_rfl) (fun _ _ _ h => h) (Or.inl ⟨by rfl, ?_⟩) hHeld ?_ ?_
 rotate_left
 ·rintro w' ⟨s0, s1, s2, s3, s4⟩
  go_simp
  with_reducible rfl
 rotate_left
 ·simp only [Act.put, List.setIfInBounds_toArray, List.set_cons_zero, List.set_cons_succ, i64_w, i32_w]
  rfl
 refine one_ (i := 5) (N := some 34) #[true, true, true, true, true, true, false] rfl rfl (by kernel_rfl) (by decide) (fun K hK => ?_)
 refine goes_ Try.func26 (by kernel_rfl) rfl #[.pointer (some ⟨ge, 0, none⟩)] (by rfl) rfl rfl (by (try simp only [List.map_toArray, List.map_cons, List.map_nil]); first | done | rfl) ?_
 refine (eng_current HS.out 0 rfl 3 rfl ((((RA.t.cons _).cons _).cons _).cons _)).mono ?_
 rintro e w' ⟨rfl, rfl⟩
 refine ⟨_, rfl, ?_⟩
 refine hK.out _ _ (HS.out.c5 0 _ _ _ _ _ _ _ rfl) (fun hHeld => ?_)
 clear hK K
 refine norm_ (a' := ?_) ?_ ?_
 rotate_left
 ·show Act.put _ (some 34) _ = _
  simp only [Act.put, List.setIfInBounds_toArray, List.set_cons_zero, List.set_cons_succ, i64_w, i32_w]
  rfl
 refine pure_ (i := 6) (N := some 35) (v := ?_) (a' := ?_) #[true, true, true, true, true, true, true] rfl rfl (by kernel_rfl) (fun _ _ _ h => h) (Or.inl ⟨by rfl, ?_⟩) ?_ ?_
 rotate_left
 ·intro w'
  go_simp
  with_reducible rfl
 rotate_left
 ·simp only [Act.put, List.setIfInBounds_toArray, List.set_cons_zero, List.set_cons_succ, i64_w, i32_w]
  rfl
 refine done_ (by kernel_rfl) ?_
 obtain ⟨q0, q1, q2, q3, q4⟩ := HS.out.c5 0 _ _ _ _ _ _ _ rfl
 go_wp2_with fail
 exact bodyPost_ret (res24 _ _ _) rfl ⟨rfl, HS.out⟩
set_option maxHeartbeats 6400000 in
set_option maxRecDepth 100000 in
theorem etick_other (h : St (SL.blk ge 108 #[.map (some bm), .pointer (some ⟨gc, 0, none⟩), .int .i64 due, .pointer (some ⟨gk, 0, none⟩), .int .u64 frames] :: SL.map KI bm m :: SL.blk gk 132 #[.int .u64 now] :: SL.blk gc 100 #[.pointer (some ⟨gt, 0, none⟩), .int .i64 t, .int .i64 ((j : Nat) : Int)] :: l) w0 w) (hn0 : 0 ≤ now) (hn1 : now < 18446744073709551615) (hq0 : 0 ≤ frames) (hq1 : frames < 18446744073709551615) (ad : Addr) (c : Nat) (RA : InA l gt id fr rs (some ad) c) (hr : Runs own_ rs fr) (hi : In rs t j) (hlen : rs.length ≤ 100000) (ht0 : 0 ≤ t) (htf : t < fr) (hf : fr ≤ 4000000) (hlt : ¬ t + 1 < fr) (hd : due ≠ id) (v : Nat) (hl : Sl.look m due = some (.pointer (some ⟨v, 0, none⟩))) (hdw : (Lit.int .i64 due).wf = true) :
  Calls Try.prog 24 #[.pointer (some ⟨ge, 0, none⟩)] w fun e w' => ∃ g2, e = .returned (.tuple #[.int .i64 (rd_T44 rs (j : Int)).f0, .bool true, .bool true]) ∧ St (SL.blk ge 108 #[.map (some bm), .pointer (some ⟨g2, 0, none⟩), .int .i64 due, .pointer (some ⟨gk, 0, none⟩), .int .u64 (frames + 1)] :: SL.map KI bm m :: SL.blk gk 132 #[.int .u64 (now + 1)] :: SL.blk g2 100 #[.pointer (some ⟨v, 0, none⟩), .int .i64 0, .int .i64 0] :: l) w0 w' := by
 obtain ⟨q0, q1, q2, q3, q4⟩ := h.c5 0 _ _ _ _ _ _ _ rfl
 have hj := hi.lt
 have hb := hr.low _ (rd_mem rs j hj)
 have hp := hr.pos _ (rd_mem rs j hj)
 have HB : Hid (0 ≤ (rd_T44 rs (j : Int)).f1 ∧ (rd_T44 rs (j : Int)).f1 + (rd_T44 rs (j : Int)).f2 ≤ 4000000) := Go.Lib.hid (by omega)
 have HP : Hid (0 ≤ (rd_T44 rs (j : Int)).f2) := Go.Lib.hid (by omega)
 have HT := Go.Lib.hid (decide_eq_false hlt)
 have HS := Go.Lib.hid h
 have ht1 : t ≤ 4000000 := by omega
 clear h hb hp hlt
 have dne : (due != id) = true := by rw [bne_iff_ne]; exact hd
 have HL := Go.Lib.hid hl
 have HDW : Hid (KI.ok due) := Go.Lib.hid hdw
 clear hd hl hdw
 go_enter Try.func24, Try.ntmps24
 go_upto_region 7 with (first | (go_at_call 69; refine (tick_yes HS.out 2 rfl hn0 hn1).mono ?_; rintro e w1 ⟨rfl, hS⟩; replace HS : Hid (St (SL.blk ge 108 #[.map (some bm), .pointer (some ⟨gc, 0, none⟩), .int .i64 due, .pointer (some ⟨gk, 0, none⟩), .int .u64 frames] :: SL.map KI bm m :: SL.blk gk 132 #[.int .u64 (now + 1)] :: SL.blk gc 100 #[.pointer (some ⟨gt, 0, none⟩), .int .i64 t, .int .i64 ((j : Nat) : Int)] :: l) w0 w1) := Go.Lib.hid hS; clear hS q0 q1 q2 q3 q4; obtain ⟨q0, q1, q2, q3, q4⟩ := HS.out.c5 0 _ _ _ _ _ _ _ rfl) | (go_at_call 14; refine (cur_owner HS.out 3 t j rfl ((((RA.t.cons _).cons _).cons _).cons _) hj).mono ?_; rintro e w2 ⟨rfl, hS⟩; replace HS := Go.Lib.hid hS; clear hS q0 q1 q2 q3 q4; obtain ⟨q0, q1, q2, q3, q4⟩ := HS.out.c5 0 _ _ _ _ _ _ _ rfl) | (go_at_call 18; refine (step_st HS.out 3 t j rfl ad c (fun X => (((RA.cons _).cons _).cons _).cons _) hj hlen ht0 ht1 HB.out HP.out).mono ?_; rintro e w3 ⟨rfl, hS⟩; rw [HT.out]; replace HS : Hid (St (SL.blk ge 108 #[.map (some bm), .pointer (some ⟨gc, 0, none⟩), .int .i64 due, .pointer (some ⟨gk, 0, none⟩), .int .u64 frames] :: SL.map KI bm m :: SL.blk gk 132 #[.int .u64 (now + 1)] :: SL.blk gc 100 #[.pointer (some ⟨gt, 0, none⟩), .int .i64 (nextT fr t), .int .i64 ((nextJ rs fr t j : Nat) : Int)] :: l) w0 w3) := Go.Lib.hid hS; clear hS q0 q1 q2 q3 q4; obtain ⟨q0, q1, q2, q3, q4⟩ := HS.out.c5 0 _ _ _ _ _ _ _ rfl) | ((with_reducible refine gate_store (p := 28) rfl ?_); refine Sl.store_st HS.out 0 ge 108 _ rfl 4 (.int .u64 (frames + 1)) (by rfl) (by rfl) ?hr ?_; (case hr => have f_ := HS.out.free 0 _ _ _ rfl 4; first | (go_simp; done) | (go_simp; rfl)); intro w4 HSn; replace HS : Hid (St (SL.blk ge 108 #[.map (some bm), .pointer (some ⟨gc, 0, none⟩), .int .i64 due, .pointer (some ⟨gk, 0, none⟩), .int .u64 (frames + 1)] :: SL.map KI bm m :: SL.blk gk 132 #[.int .u64 (now + 1)] :: SL.blk gc 100 #[.pointer (some ⟨gt, 0, none⟩), .int .i64 (nextT fr t), .int .i64 ((nextJ rs fr t j : Nat) : Int)] :: l) w0 w4) := Go.Lib.hid HSn; clear HSn q0 q1 q2 q3 q4))
 replace HS := Go.Lib.hid HS.out.drew
 refine start_ (n := 7) (S := fun w' => w'.cell? ⟨ge, 0, none⟩ = some (.map (some bm)) ∧ w'.cell? ⟨ge, 1, none⟩ = some (.pointer (some ⟨gc, 0, none⟩)) ∧ w'.cell? ⟨ge, 2, none⟩ = some (.int .i64 due) ∧ w'.cell? ⟨ge, 3, none⟩ = some (.pointer (some ⟨gk, 0, none⟩)) ∧ w'.cell? ⟨ge, 4, none⟩ = some (.int .u64 (frames + 1))) (ds := []) #[false, false, false, false, false, false, false] (by kernel_rfl) rfl rfl (HS.out.c5 0 _ _ _ _ _ _ _ rfl) (fun hHeld => ?_)
 generalize w4.drew = W_ at *
 refine pure_ (i := 0) (N := some 29) (v := ?_) (a' := ?_) #[true, false, false, false, false, false, false] rfl rfl (by kernel_rfl) (fun _ _ _ h => h) (Or.inl ⟨by rfl, ?_⟩) ?_ ?_
 rotate_left
 ·intro w'
  go_simp
  with_reducible rfl
 rotate_left
 ·simp only [Act.put, List.setIfInBounds_toArray, List.set_cons_zero, List.set_cons_succ, i64_w, i32_w]
  rfl
 refine pure_ (i := 1) (N := some 30) (v := ?_) (a' := ?_) #[true, true, false, false, false, false, false] rfl rfl (by kernel_rfl) (fun _ _ _ h => h) (Or.inl ⟨by rfl, ?_⟩) ?_ ?_
 rotate_left
 ·intro w'
  go_simp
  with_reducible rfl
 rotate_left
 ·simp only [Act.put, List.setIfInBounds_toArray, List.set_cons_zero, List.set_cons_succ, i64_w, i32_w]
  rfl
 refine pure_ (i := 2) (N := some 31) (v := ?_) (a' := ?_) #[true, true, true, false, false, false, false] rfl rfl (by kernel_rfl) (fun _ _ _ h => h) (Or.inl ⟨by rfl, ?_⟩) ?_ ?_
 rotate_left
 ·intro w'
  go_simp
  with_reducible rfl
 rotate_left
 ·simp only [Act.put, List.setIfInBounds_toArray, List.set_cons_zero, List.set_cons_succ, i64_w, i32_w]
  rfl
 refine pure_ (i := 4) (N := some 33) (v := ?_) (a' := ?_) #[true, true, true, false, true, false, false] rfl rfl (by kernel_rfl) (fun _ _ _ h => h) (Or.inl ⟨by rfl, ?_⟩) ?_ ?_
 rotate_left
 ·intro w'
  go_simp
  with_reducible rfl
 rotate_left
 ·simp only [Act.put, List.setIfInBounds_toArray, List.set_cons_zero, List.set_cons_succ, i64_w, i32_w]
  rfl
 refine take_ (i := 3) (N := some 32) (v := ?_) (a' := ?_) #[true, true, true, true, true, false, false] rfl rfl (by kernel_rfl) (fun _ _ _ h => h) (Or.inl ⟨by rfl, ?_⟩) hHeld ?_ ?_
 rotate_left
 ·rintro w' ⟨s0, s1, s2, s3, s4⟩
  go_simp
  with_reducible rfl
 rotate_left
 ·simp only [Act.put, List.setIfInBounds_toArray, List.set_cons_zero, List.set_cons_succ, i64_w, i32_w]
  rfl
 refine one_ (i := 5) (N := some 34) #[true, true, true, true, true, true, false] rfl rfl (by kernel_rfl) (by decide) (fun K hK => ?_)
 refine goes_ Try.func26 (by kernel_rfl) rfl #[.pointer (some ⟨ge, 0, none⟩)] (by rfl) rfl rfl (by (try simp only [List.map_toArray, List.map_cons, List.map_nil]); first | done | rfl) ?_
 refine (eng_current HS.out 0 rfl 3 rfl ((((RA.t.cons _).cons _).cons _).cons _)).mono ?_
 rintro e w' ⟨rfl, rfl⟩
 refine ⟨_, rfl, ?_⟩
 refine hK.out _ _ (HS.out.c5 0 _ _ _ _ _ _ _ rfl) (fun hHeld => ?_)
 clear hK K
 refine norm_ (a' := ?_) ?_ ?_
 rotate_left
 ·show Act.put _ (some 34) _ = _
  simp only [Act.put, List.setIfInBounds_toArray, List.set_cons_zero, List.set_cons_succ, i64_w, i32_w]
  rfl
 refine pure_ (i := 6) (N := some 35) (v := ?_) (a' := ?_) #[true, true, true, true, true, true, true] rfl rfl (by kernel_rfl) (fun _ _ _ h => h) (Or.inl ⟨by rfl, ?_⟩) ?_ ?_
 rotate_left
 ·intro w'
  go_simp
  with_reducible rfl
 rotate_left
 ·simp only [Act.put, List.setIfInBounds_toArray, List.set_cons_zero, List.set_cons_succ, i64_w, i32_w]
  rfl
 refine done_ (by kernel_rfl) ?_
 go_upto_region 8 with (fail)
 replace HS := Go.Lib.hid HS.out.drew
 refine start_ (n := 14) (S := fun w' => w'.cell? ⟨ge, 0, none⟩ = some (.map (some bm)) ∧ w'.cell? ⟨ge, 1, none⟩ = some (.pointer (some ⟨gc, 0, none⟩)) ∧ w'.cell? ⟨ge, 2, none⟩ = some (.int .i64 due) ∧ w'.cell? ⟨ge, 3, none⟩ = some (.pointer (some ⟨gk, 0, none⟩)) ∧ w'.cell? ⟨ge, 4, none⟩ = some (.int .u64 (frames + 1))) (ds := [13]) #[false, false, false, false, false, false, false, false, false, false, false, false, false, false] (by kernel_rfl) rfl rfl (HS.out.c5 0 _ _ _ _ _ _ _ rfl) (fun hHeld => ?_)
 generalize W_.drew = W2_ at *
 refine pure_ (i := 0) (N := some 36) (v := ?_) (a' := ?_) #[true, false, false, false, false, false, false, false, false, false, false, false, false, false] rfl rfl (by kernel_rfl) (fun _ _ _ h => h) (Or.inl ⟨by rfl, ?_⟩) ?_ ?_
 rotate_left
 ·intro w'
  go_simp
  with_reducible rfl
 rotate_left
 ·simp only [Act.put, List.setIfInBounds_toArray, List.set_cons_zero, List.set_cons_succ, i64_w, i32_w]
  rfl
 refine pure_ (i := 1) (N := some 37) (v := ?_) (a' := ?_) #[true, true, false, false, false, false, false, false, false, false, false, false, false, false] rfl rfl (by kernel_rfl) (fun _ _ _ h => h) (Or.inl ⟨by rfl, ?_⟩) ?_ ?_
 rotate_left
 ·intro w'
  go_simp
  with_reducible rfl
 rotate_left
 ·simp only [Act.put, List.setIfInBounds_toArray, List.set_cons_zero, List.set_cons_succ, i64_w, i32_w]
  rfl
 refine pure_ (i := 2) (N := some 38) (v := ?_) (a' := ?_) #[true, true, true, false, false, false, false, false, false, false, false, false, false, false] rfl rfl (by kernel_rfl) (fun _ _ _ h => h) (Or.inl ⟨by rfl, ?_⟩) ?_ ?_
 rotate_left
 ·intro w'
  go_simp
  with_reducible rfl
 rotate_left
 ·simp only [Act.put, List.setIfInBounds_toArray, List.set_cons_zero, List.set_cons_succ, i64_w, i32_w]
  rfl
 refine pure_ (i := 3) (N := some 39) (v := ?_) (a' := ?_) #[true, true, true, true, false, false, false, false, false, false, false, false, false, false] rfl rfl (by kernel_rfl) (fun _ _ _ h => h) (Or.inl ⟨by rfl, ?_⟩) ?_ ?_
 rotate_left
 ·intro w'
  go_simp
  with_reducible rfl
 rotate_left
 ·simp only [Act.put, List.setIfInBounds_toArray, List.set_cons_zero, List.set_cons_succ, i64_w, i32_w]
  rfl
 refine pure_ (i := 5) (N := some 41) (v := ?_) (a' := ?_) #[true, true, true, true, false, true, false, false, false, false, false, false, false, false] rfl rfl (by kernel_rfl) (fun _ _ _ h => h) (Or.inl ⟨by rfl, ?_⟩) ?_ ?_
 rotate_left
 ·intro w'
  go_simp
  with_reducible rfl
 rotate_left
 ·simp only [Act.put, List.setIfInBounds_toArray, List.set_cons_zero, List.set_cons_succ, i64_w, i32_w]
  rfl
 refine pure_ (i := 6) (N := some 42) (v := ?_) (a' := ?_) #[true, true, true, true, false, true, true, false, false, false, false, false, false, false] rfl rfl (by kernel_rfl) (fun _ _ _ h => h) (Or.inl ⟨by rfl, ?_⟩) ?_ ?_
 rotate_left
 ·intro w'
  go_simp
  with_reducible rfl
 rotate_left
 ·simp only [Act.put, List.setIfInBounds_toArray, List.set_cons_zero, List.set_cons_succ, i64_w, i32_w]
  rfl
 refine pure_ (i := 7) (N := some 43) (v := ?_) (a' := ?_) #[true, true, true, true, false, true, true, true, false, false, false, false, false, false] rfl rfl (by kernel_rfl) (fun _ _ _ h => h) (Or.inl ⟨by rfl, ?_⟩) ?_ ?_
 rotate_left
 ·intro w'
  go_simp
  with_reducible rfl
 rotate_left
 ·simp only [Act.put, List.setIfInBounds_toArray, List.set_cons_zero, List.set_cons_succ, i64_w, i32_w]
  rfl
 refine take_ (i := 4) (N := some 40) (v := ?_) (a' := ?_) #[true, true, true, true, true, true, true, true, false, false, false, false, false, false] rfl rfl (by kernel_rfl) (fun _ _ _ h => h) (Or.inl ⟨by rfl, ?_⟩) hHeld ?_ ?_
 rotate_left
 ·rintro w' ⟨s0, s1, s2, s3, s4⟩
  go_simp
  with_reducible rfl
 rotate_left
 ·simp only [Act.put, List.setIfInBounds_toArray, List.set_cons_zero, List.set_cons_succ, i64_w, i32_w]
  rfl
 refine take_ (i := 8) (N := some 44) (v := ?_) (a' := ?_) #[true, true, true, true, true, true, true, true, true, false, false, false, false, false] rfl rfl (by kernel_rfl) (fun _ _ _ h => h) (Or.inl ⟨by rfl, ?_⟩) hHeld ?_ ?_
 rotate_left
 ·rintro w' ⟨s0, s1, s2, s3, s4⟩
  go_simp
  with_reducible rfl
 rotate_left
 ·simp only [Act.put, List.setIfInBounds_toArray, List.set_cons_zero, List.set_cons_succ, i64_w, i32_w]
  rfl
 refine one_ (i := 9) (N := some 45) #[true, true, true, true, true, true, true, true, true, true, false, false, false, false] rfl rfl (by kernel_rfl) (by decide) (fun K hK => ?_)
 refine Sl.lookup_stp HS.out 1 rfl 104 31 Try.underlying104 (zero31 _) due HDW.out (by rfl) (.tmp 40) (.tmp 44) rfl rfl rfl ?_
 rw [HL.out]
 simp only [Option.getD_some]
 refine hK.out _ _ (HS.out.c5 0 _ _ _ _ _ _ _ rfl) (fun hHeld => ?_)
 clear hK K
 refine norm_ (a' := ?_) ?_ ?_
 rotate_left
 ·show Act.put _ (some 45) _ = _
  simp only [Act.put, List.setIfInBounds_toArray, List.set_cons_zero, List.set_cons_succ, i64_w, i32_w]
  rfl
 refine one_ (i := 10) (N := some 46) #[true, true, true, true, true, true, true, true, true, true, true, false, false, false] rfl rfl (by kernel_rfl) (by decide) (fun K hK => ?_)
 refine goes_ Try.func13 (by kernel_rfl) rfl #[.pointer (some ⟨v, 0, none⟩)] (by rfl) rfl rfl (by (try simp only [List.map_toArray, List.map_cons, List.map_nil]); first | done | rfl) ?_
 refine (cursor_st HS.out).mono ?_
 rintro e w8 ⟨g2, rfl, hS⟩
 have HSc : Hid (St (SL.blk g2 100 #[.pointer (some ⟨v, 0, none⟩), .int .i64 0, .int .i64 0] :: SL.blk ge 108 #[.map (some bm), .pointer (some ⟨gc, 0, none⟩), .int .i64 due, .pointer (some ⟨gk, 0, none⟩), .int .u64 (frames + 1)] :: SL.map KI bm m :: SL.blk gk 132 #[.int .u64 (now + 1)] :: SL.blk gc 100 #[.pointer (some ⟨gt, 0, none⟩), .int .i64 (nextT fr t), .int .i64 ((nextJ rs fr t j : Nat) : Int)] :: l) w0 w8) := Go.Lib.hid hS
 clear hS
 refine ⟨_, rfl, ?_⟩
 refine hK.out _ _ (HSc.out.c5 1 _ _ _ _ _ _ _ rfl) (fun hHeld => ?_)
 clear hK K
 refine norm_ (a' := ?_) ?_ ?_
 rotate_left
 ·show Act.put _ (some 46) _ = _
  simp only [Act.put, List.setIfInBounds_toArray, List.set_cons_zero, List.set_cons_succ, i64_w, i32_w]
  rfl
 refine pure_ (i := 11) (N := some 47) (v := ?_) (a' := ?_) #[true, true, true, true, true, true, true, true, true, true, true, true, false, false] rfl rfl (by kernel_rfl) (fun _ _ _ h => h) (Or.inl ⟨by rfl, ?_⟩) ?_ ?_
 rotate_left
 ·intro w'
  go_simp
  with_reducible rfl
 rotate_left
 ·simp only [Act.put, List.setIfInBounds_toArray, List.set_cons_zero, List.set_cons_succ, i64_w, i32_w]
  rfl
 refine pure_ (i := 12) (N := some 48) (v := ?_) (a' := ?_) #[true, true, true, true, true, true, true, true, true, true, true, true, true, false] rfl rfl (by kernel_rfl) (fun _ _ _ h => h) (Or.inl ⟨by rfl, ?_⟩) ?_ ?_
 rotate_left
 ·intro w'
  go_simp
  with_reducible rfl
 rotate_left
 ·simp only [Act.put, List.setIfInBounds_toArray, List.set_cons_zero, List.set_cons_succ, i64_w, i32_w]
  rfl
 refine last_ (i := 13) (N := none) #[true, true, true, true, true, true, true, true, true, true, true, true, true, true] rfl rfl (by kernel_rfl) (by decide) (fun K hK => ?_)
 have f_ := HSc.out.free 1 _ _ _ rfl 1
 have c_ := HSc.out.cell 1 _ _ _ rfl 1
 refine Sl.store_stp HSc.out 1 ge 108 _ rfl 1 (.pointer (some ⟨g2, 0, none⟩)) (by rfl) rfl (by first | (go_simp; done) | (go_simp; rfl)) ?_
 intro w9 HSt
 clear f_ c_
 refine hK.out _ _ ?_
 clear hK K
 refine done_ (by kernel_rfl) ?_
 have HSk : Hid (St (SL.blk g2 100 #[.pointer (some ⟨v, 0, none⟩), .int .i64 0, .int .i64 0] :: SL.blk ge 108 #[.map (some bm), .pointer (some ⟨g2, 0, none⟩), .int .i64 due, .pointer (some ⟨gk, 0, none⟩), .int .u64 (frames + 1)] :: SL.map KI bm m :: SL.blk gk 132 #[.int .u64 (now + 1)] :: SL.blk gc 100 #[.pointer (some ⟨gt, 0, none⟩), .int .i64 (nextT fr t), .int .i64 ((nextJ rs fr t j : Nat) : Int)] :: l) w0 w9) := Go.Lib.hid HSt
 clear HSt HSc HS
 go_wp2_with fail
 exact bodyPost_ret (res24 _ _ _) rfl ⟨g2, rfl, (((HSk.out.erase 4).front 3 _ rfl).front 3 _ rfl).front 3 _ rfl⟩
end Go.Proofs.Ytnpjbdaaoknkbaa.Frm
