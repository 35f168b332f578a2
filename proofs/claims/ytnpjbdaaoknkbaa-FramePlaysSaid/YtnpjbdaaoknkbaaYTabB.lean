/- A table's readers. -/
import Derived.Test.YtnpjbdaaoknkbaaYTabA
import Derived.Test.YtnpjbdaaoknkbaaYSlq
import Derived.Deep.QuietTactic
import Derived.BigQuiet
namespace Go.Proofs.Ytnpjbdaaoknkbaa.Tab
open Go.RowKit Go.Proofs.YtnpjbdaaoknkbaaW.PrintWords Go.Proofs.YtnpjbdaaoknkbaaW.PrintLast Go.Proofs.YtnpjbdaaoknkbaaW.PrintMore Go.Proofs.Ytnpjbdaaoknkbaa.Mine Go.Proofs.Ytnpjbdaaoknkbaa.PTableFrames
open Go.Proofs.Ytnpjbdaaoknkbaa.Sl (SL Stp Chg St No wpc_seal wpc_round sealed)
set_option linter.unusedVariables false
set_option linter.unusedSimpArgs false
attribute [local go_sem] max2_int min2_int max_two min_two max_three min_three max_four min_four
/-- A table lies in a list of owned memory: its block, its runs. -/
structure InT (l : List SL) (gt : Nat) (id fr : Int) (rs : List S44) : Prop where
 ex : ∃ (n1 n2 : Nat) (A : Option Addr) (c : Nat), l[n1]? = some (SL.blk gt 97 #[.int .i64 id, .int .i64 fr, .slice A rs.length c]) ∧ l[n2]? = some (SL.row k44 44 (.slice A rs.length c) rs)
theorem InT.cons {l : List SL} {gt : Nat} {id fr : Int} {rs : List S44} (h : InT l gt id fr rs) (X : SL) : InT (X :: l) gt id fr rs := by
 obtain ⟨n1, n2, A, c, h1, h2⟩ := h.ex
 exact ⟨n1 + 1, n2 + 1, A, c, by simpa using h1, by simpa using h2⟩
section
variable {l : List SL} {w0 w : World} {gt gc : Nat} {id fr : Int} {rs : List S44}
theorem InT.sees (R : InT l gt id fr rs) (h : St l w0 w) : ∃ A c, w.cell? ⟨gt, 0, none⟩ = some (.int .i64 id) ∧ w.cell? ⟨gt, 1, none⟩ = some (.int .i64 fr) ∧ w.cell? ⟨gt, 2, none⟩ = some (.slice A rs.length c) ∧ k44.C w A rs.length rs := by
 obtain ⟨n1, n2, A, c, h1, h2⟩ := R.ex
 obtain ⟨a, b, d⟩ := h.c3 n1 _ _ _ _ _ h1
 obtain ⟨A', c', hv, _, hC⟩ := h.rowC n2 h2
 injection hv with q1 _ q2
 rw [← q1] at hC
 exact ⟨A, c, a, b, d, hC⟩
theorem at_run {A : Option Addr} (hC : k44.C w A rs.length rs) (j : Nat) (hj : j < rs.length) : ∃ ad, A = some ad ∧ w.cell? (ad.add (j * 3)) = some (.int .i64 (rd_T44 rs (j : Int)).f0) ∧ w.cell? ⟨(ad.add (j * 3)).block, (ad.add (j * 3)).off + 1, none⟩ = some (.int .i64 (rd_T44 rs (j : Int)).f1) ∧ w.cell? ⟨(ad.add (j * 3)).block, (ad.add (j * 3)).off + 2, none⟩ = some (.int .i64 (rd_T44 rs (j : Int)).f2) := by
 obtain ⟨ad, rfl, g0, g1, g2⟩ := at_T44 hC (j : Int) (by omega) (by omega)
 rw [Int.toNat_natCast] at g0 g1 g2
 exact ⟨ad, rfl, g0, g1, g2⟩
set_option maxHeartbeats 1600000 in
theorem cur_owner (h : St l w0 w) (n : Nat) (t : Int) (j : Nat) (e : l[n]? = some (SL.blk gc 100 #[.pointer (some ⟨gt, 0, none⟩), .int .i64 t, .int .i64 (j : Nat)])) (R : InT l gt id fr rs) (hj : j < rs.length) : Calls Try.prog 14 #[.pointer (some ⟨gc, 0, none⟩)] w fun e w' => e = .returned (.int .i64 (rd_T44 rs (j : Int)).f0) ∧ St l w0 w' := by
 have p0 : (0 ≤ (j : Int)) = True := eq_true (by omega)
 have p1 : ((j : Int) < ((rs.length : Nat) : Int)) = True := eq_true (by omega)
 go_enter Try.func14, Try.ntmps14
 go_wp2_with fail
 have HS := Go.Lib.hid h.drew
 obtain ⟨A, c, y3, y4, y5, hC⟩ := R.sees HS.out
 obtain ⟨y0, y1, y2⟩ := HS.out.c3 n _ _ _ _ _ e
 obtain ⟨ad, rfl, y6, y7, y8⟩ := at_run hC j hj
 clear hC h e R
 refine start_ (n := 15) (S := fun w' => (w'.cell? ⟨gc, 0, none⟩ = some (.pointer (some ⟨gt, 0, none⟩)) ∧ w'.cell? ⟨gc, 1, none⟩ = some (.int .i64 t) ∧ w'.cell? ⟨gc, 2, none⟩ = some (.int .i64 (j : Nat))) ∧ (w'.cell? ⟨gt, 0, none⟩ = some (.int .i64 id) ∧ w'.cell? ⟨gt, 1, none⟩ = some (.int .i64 fr) ∧ w'.cell? ⟨gt, 2, none⟩ = some (.slice (some ad) rs.length c)) ∧ w'.cell? (ad.add (j * 3)) = some (.int .i64 (rd_T44 rs (j : Int)).f0) ∧ w'.cell? ⟨(ad.add (j * 3)).block, (ad.add (j * 3)).off + 1, none⟩ = some (.int .i64 (rd_T44 rs (j : Int)).f1) ∧ w'.cell? ⟨(ad.add (j * 3)).block, (ad.add (j * 3)).off + 2, none⟩ = some (.int .i64 (rd_T44 rs (j : Int)).f2)) (ds := []) #[false, false, false, false, false, false, false, false, false, false, false, false, false, false, false] (by kernel_rfl) rfl rfl ⟨⟨y0, y1, y2⟩, ⟨y3, y4, y5⟩, y6, y7, y8⟩ (fun hHeld => ?_)
 generalize w.drew = W_ at *
 refine pure_ (i := 0) (N := some 3) (v := ?_) (a' := ?_) #[true, false, false, false, false, false, false, false, false, false, false, false, false, false, false] rfl rfl (by kernel_rfl) (fun _ _ _ h => h) (Or.inl ⟨by rfl, ?_⟩) ?_ ?_
 rotate_left
 ·intro w'
  go_simp
  with_reducible rfl
 rotate_left
 ·simp only [Act.put, List.setIfInBounds_toArray, List.set_cons_zero, List.set_cons_succ, i64_w, i32_w]
  rfl
 refine pure_ (i := 1) (N := some 4) (v := ?_) (a' := ?_) #[true, true, false, false, false, false, false, false, false, false, false, false, false, false, false] rfl rfl (by kernel_rfl) (fun _ _ _ h => h) (Or.inl ⟨by rfl, ?_⟩) ?_ ?_
 rotate_left
 ·intro w'
  go_simp
  with_reducible rfl
 rotate_left
 ·simp only [Act.put, List.setIfInBounds_toArray, List.set_cons_zero, List.set_cons_succ, i64_w, i32_w]
  rfl
 refine pure_ (i := 2) (N := some 5) (v := ?_) (a' := ?_) #[true, true, true, false, false, false, false, false, false, false, false, false, false, false, false] rfl rfl (by kernel_rfl) (fun _ _ _ h => h) (Or.inl ⟨by rfl, ?_⟩) ?_ ?_
 rotate_left
 ·intro w'
  go_simp
  with_reducible rfl
 rotate_left
 ·simp only [Act.put, List.setIfInBounds_toArray, List.set_cons_zero, List.set_cons_succ, i64_w, i32_w]
  rfl
 refine pure_ (i := 7) (N := some 10) (v := ?_) (a' := ?_) #[true, true, true, false, false, false, false, true, false, false, false, false, false, false, false] rfl rfl (by kernel_rfl) (fun _ _ _ h => h) (Or.inl ⟨by rfl, ?_⟩) ?_ ?_
 rotate_left
 ·intro w'
  go_simp
  with_reducible rfl
 rotate_left
 ·simp only [Act.put, List.setIfInBounds_toArray, List.set_cons_zero, List.set_cons_succ, i64_w, i32_w]
  rfl
 refine pure_ (i := 8) (N := some 11) (v := ?_) (a' := ?_) #[true, true, true, false, false, false, false, true, true, false, false, false, false, false, false] rfl rfl (by kernel_rfl) (fun _ _ _ h => h) (Or.inl ⟨by rfl, ?_⟩) ?_ ?_
 rotate_left
 ·intro w'
  go_simp
  with_reducible rfl
 rotate_left
 ·simp only [Act.put, List.setIfInBounds_toArray, List.set_cons_zero, List.set_cons_succ, i64_w, i32_w]
  rfl
 refine pure_ (i := 9) (N := some 12) (v := ?_) (a' := ?_) #[true, true, true, false, false, false, false, true, true, true, false, false, false, false, false] rfl rfl (by kernel_rfl) (fun _ _ _ h => h) (Or.inl ⟨by rfl, ?_⟩) ?_ ?_
 rotate_left
 ·intro w'
  go_simp
  with_reducible rfl
 rotate_left
 ·simp only [Act.put, List.setIfInBounds_toArray, List.set_cons_zero, List.set_cons_succ, i64_w, i32_w]
  rfl
 refine take_ (i := 3) (N := some 6) (v := ?_) (a' := ?_) #[true, true, true, true, false, false, false, true, true, true, false, false, false, false, false] rfl rfl (by kernel_rfl) (fun _ _ _ h => h) (Or.inl ⟨by rfl, ?_⟩) hHeld ?_ ?_
 rotate_left
 ·rintro w' ⟨⟨s0, s1, s2⟩, ⟨s3, s4, s5⟩, s6, s7, s8⟩
  go_simp
  with_reducible rfl
 rotate_left
 ·simp only [Act.put, List.setIfInBounds_toArray, List.set_cons_zero, List.set_cons_succ, i64_w, i32_w]
  rfl
 refine pure_ (i := 4) (N := some 7) (v := ?_) (a' := ?_) #[true, true, true, true, true, false, false, true, true, true, false, false, false, false, false] rfl rfl (by kernel_rfl) (fun _ _ _ h => h) (Or.inl ⟨by rfl, ?_⟩) ?_ ?_
 rotate_left
 ·intro w'
  go_simp
  with_reducible rfl
 rotate_left
 ·simp only [Act.put, List.setIfInBounds_toArray, List.set_cons_zero, List.set_cons_succ, i64_w, i32_w]
  rfl
 refine pure_ (i := 5) (N := some 8) (v := ?_) (a' := ?_) #[true, true, true, true, true, true, false, true, true, true, false, false, false, false, false] rfl rfl (by kernel_rfl) (fun _ _ _ h => h) (Or.inl ⟨by rfl, ?_⟩) ?_ ?_
 rotate_left
 ·intro w'
  go_simp
  with_reducible rfl
 rotate_left
 ·simp only [Act.put, List.setIfInBounds_toArray, List.set_cons_zero, List.set_cons_succ, i64_w, i32_w]
  rfl
 refine take_ (i := 6) (N := some 9) (v := ?_) (a' := ?_) #[true, true, true, true, true, true, true, true, true, true, false, false, false, false, false] rfl rfl (by kernel_rfl) (fun _ _ _ h => h) (Or.inl ⟨by rfl, ?_⟩) hHeld ?_ ?_
 rotate_left
 ·rintro w' ⟨⟨s0, s1, s2⟩, ⟨s3, s4, s5⟩, s6, s7, s8⟩
  go_simp
  with_reducible rfl
 rotate_left
 ·simp only [Act.put, List.setIfInBounds_toArray, List.set_cons_zero, List.set_cons_succ, i64_w, i32_w]
  rfl
 refine take_ (i := 10) (N := some 13) (v := ?_) (a' := ?_) #[true, true, true, true, true, true, true, true, true, true, true, false, false, false, false] rfl rfl (by kernel_rfl) (fun _ _ _ h => h) (Or.inl ⟨by rfl, ?_⟩) hHeld ?_ ?_
 rotate_left
 ·rintro w' ⟨⟨s0, s1, s2⟩, ⟨s3, s4, s5⟩, s6, s7, s8⟩
  go_simp
  with_reducible rfl
 rotate_left
 ·simp only [Act.put, List.setIfInBounds_toArray, List.set_cons_zero, List.set_cons_succ, i64_w, i32_w]
  rfl
 refine pure_ (i := 11) (N := some 14) (v := ?_) (a' := ?_) #[true, true, true, true, true, true, true, true, true, true, true, true, false, false, false] rfl rfl (by kernel_rfl) (fun _ _ _ h => h) (Or.inl ⟨by rfl, ?_⟩) ?_ ?_
 rotate_left
 ·intro w'
  go_simp
  with_reducible rfl
 rotate_left
 ·simp only [Act.put, List.setIfInBounds_toArray, List.set_cons_zero, List.set_cons_succ, i64_w, i32_w]
  rfl
 refine pure_ (i := 12) (N := some 15) (v := ?_) (a' := ?_) #[true, true, true, true, true, true, true, true, true, true, true, true, true, false, false] rfl rfl (by kernel_rfl) (fun _ _ _ h => h) (Or.inl ⟨by rfl, ?_⟩) ?_ ?_
 rotate_left
 ·intro w'
  go_simp
  with_reducible rfl
 rotate_left
 ·simp only [Act.put, List.setIfInBounds_toArray, List.set_cons_zero, List.set_cons_succ, i64_w, i32_w]
  rfl
 refine take_ (i := 13) (N := some 16) (v := ?_) (a' := ?_) #[true, true, true, true, true, true, true, true, true, true, true, true, true, true, false] rfl rfl (by kernel_rfl) (fun _ _ _ h => h) (Or.inl ⟨by rfl, ?_⟩) hHeld ?_ ?_
 rotate_left
 ·rintro w' ⟨⟨s0, s1, s2⟩, ⟨s3, s4, s5⟩, s6, s7, s8⟩
  go_simp
  with_reducible rfl
 rotate_left
 ·simp only [Act.put, List.setIfInBounds_toArray, List.set_cons_zero, List.set_cons_succ, i64_w, i32_w]
  rfl
 refine pure_ (i := 14) (N := some 2) (v := ?_) (a' := ?_) #[true, true, true, true, true, true, true, true, true, true, true, true, true, true, true] rfl rfl (by kernel_rfl) (fun _ _ _ h => h) (Or.inl ⟨by rfl, ?_⟩) ?_ ?_
 rotate_left
 ·intro w'
  go_simp
  with_reducible rfl
 rotate_left
 ·simp only [Act.put, List.setIfInBounds_toArray, List.set_cons_zero, List.set_cons_succ, i64_w, i32_w]
  rfl
 refine done_ (by kernel_rfl) ?_
 go_wp2_with fail
 go_ret
 exact ⟨rfl, HS.out⟩
theorem cur_tick (h : St l w0 w) (n : Nat) (t : Int) (j : Nat) (e : l[n]? = some (SL.blk gc 100 #[.pointer (some ⟨gt, 0, none⟩), .int .i64 t, .int .i64 (j : Nat)])) (R : InT l gt id fr rs) : Calls Try.prog 17 #[.pointer (some ⟨gc, 0, none⟩)] w fun e w' => e = .returned (.int .i64 t) ∧ w = w' := by
 obtain ⟨y0, y1, y2⟩ := h.c3 n _ _ _ _ _ e
 clear h e R
 go_enter Try.func17, Try.ntmps17
 go_wp2_with fail
 go_ret
 exact ⟨rfl, rfl⟩
theorem cursor_st (h : St l w0 w) : Calls Try.prog 13 #[.pointer (some ⟨gt, 0, none⟩)] w fun e w' => ∃ gc, e = .returned (.pointer (some ⟨gc, 0, none⟩)) ∧ St (SL.blk gc 100 #[.pointer (some ⟨gt, 0, none⟩), .int .i64 0, .int .i64 0] :: l) w0 w' := by
 have HS := Go.Lib.hid h
 clear h
 go_enter Try.func13, Try.ntmps13
 go_wp2_with (first | ((with_reducible refine gate_dst (N := 5) rfl ?_); refine Sl.box_st HS.out (by rfl) (cs := #[.pointer (some ⟨gt, 0, none⟩), .int .i64 0, .int .i64 0]) (t := 100) ?hr ?_; (case hr => first | (go_simp; done) | (go_simp; rfl)); intro gc w1_ HSn HBn; clear HBn; replace HS : Hid (St (SL.blk gc 100 #[.pointer (some ⟨gt, 0, none⟩), .int .i64 0, .int .i64 0] :: l) w0 w1_) := Go.Lib.hid HSn; clear HSn; obtain ⟨c0_0, c0_1, c0_2⟩ := HS.out.c3 0 _ _ _ _ _ rfl))
 go_ret
 exact ⟨gc, rfl, HS.out⟩
set_option maxHeartbeats 400000 in
theorem clone64_calls (A : Option Addr) (n c : Nat) (xs : List S44) (w : World) (hC : (k44).C w A n xs) (hn : n * 24 ≤ 140737488355328) :
  Calls Try.prog 64 #[.slice A n c] w fun e w' => ∃ v, e = .returned v ∧ (k44).R 44 w' w.heap.size (fun _ => True) v xs ∧ Below w.heap.size w w' := by
 rcases A with _ | ad
 ·have h0 : n = 0 := by
   rcases Nat.eq_zero_or_pos n with h0 | h0
   ·exact h0
   ·obtain ⟨_, h, _⟩ := hC.2.2 h0; cases h
  subst h0
  obtain rfl : xs = [] := List.eq_nil_of_length_eq_zero hC.1
  have hq := Go.Lib.run_eql_slice_nil (P := Try.prog) w 41 44 none 0 c 0 0 Try.underlying41
  go_enter Try.func64, Try.ntmps64
  go_wp2_with fail
  go_ret
  exact ⟨_, rfl, Kd.R_nil _ _ _ _ _, Below.refl _ _⟩
 ·have HC := Go.Lib.hid hC
  clear hC
  have hq := Go.Lib.run_eql_slice_nil (P := Try.prog) w 41 44 (some ad) n c 0 0 Try.underlying41
  go_enter Try.func64, Try.ntmps64
  go_wp2_with (first | (at_builtin; refine append_clone (d := k44) (flat_iso (flat_pair (flat_int .i64) (flat_pair (flat_int .i64) (flat_int .i64)))) w rfl _ _ 41 44 (.agg #[.int .i64 0, .int .i64 0, .int .i64 0]) 24 rfl Try.underlying41 (by kernel_rfl) rfl (by decide) (by decide) xs ad n c rfl rfl HC.out hn ?_; intro v1 w1 hR1 hB1; have HR1 := Go.Lib.hid hR1; have HB1 := Go.Lib.hid hB1; clear hR1 hB1))
  go_ret
  exact ⟨_, rfl, HR1.out, HB1.out⟩
theorem runs_st (h : St l w0 w) (R : InT l gt id fr rs) (hn : rs.length ≤ 100000) : Calls Try.prog 19 #[.pointer (some ⟨gt, 0, none⟩)] w fun e w' => ∃ A c, e = .returned (.slice A rs.length c) ∧ St (SL.row k44 44 (.slice A rs.length c) rs :: l) w0 w' := by
 have HS := Go.Lib.hid h
 obtain ⟨A, c, y3, y4, y5, hC⟩ := R.sees h
 have HC := Go.Lib.hid hC
 clear h hC
 go_enter Try.func19, Try.ntmps19
 go_wp2_with fail
 refine (clone64_calls A rs.length c rs w HC.out (by omega)).mono ?_
 rintro e w1 ⟨v, rfl, hR, hB⟩
 have HSn := HS.out.row hR hB
 obtain ⟨A', c', rfl, _⟩ := HSn.rowC 0 rfl
 have HSm := Go.Lib.hid HSn
 clear HSn hR hB
 go_wp2_with fail
 go_ret
 exact ⟨A', c', rfl, HSm.out⟩
set_option maxHeartbeats 1600000 in
theorem past_st (h : St l w0 w) (n1 n2 bt bx : Nat) (t : Int) (e1 : l[n1]? = some (SL.blk bt 31 #[.pointer (some ⟨gt, 0, none⟩)])) (e2 : l[n2]? = some (SL.blk bx 3 #[.int .i64 t])) (R : InT l gt id fr rs) (j : Nat) (hj : j < rs.length) : Calls Try.prog 114 #[.int .i64 (j : Int), .pointer (some ⟨bt, 0, none⟩), .pointer (some ⟨bx, 0, none⟩)] w fun e w' => e = .returned (.bool (decide (t < (rd_T44 rs (j : Int)).f1))) ∧ St l w0 w' := by
 have p0 : (0 ≤ (j : Int)) = True := eq_true (by omega)
 have p1 : ((j : Int) < ((rs.length : Nat) : Int)) = True := eq_true (by omega)
 go_enter Try.func114, Try.ntmps114
 go_wp2_with fail
 have HS := Go.Lib.hid h.drew
 obtain ⟨A, c, y3, y4, y5, hC⟩ := R.sees HS.out
 have y0 := HS.out.c1 n1 _ _ _ e1
 have y1 := HS.out.c1 n2 _ _ _ e2
 obtain ⟨ad, rfl, y6, y7, y8⟩ := at_run hC j hj
 clear hC h e1 e2 R
 refine start_ (n := 11) (S := fun w' => w'.cell? ⟨bt, 0, none⟩ = some (.pointer (some ⟨gt, 0, none⟩)) ∧ w'.cell? ⟨bx, 0, none⟩ = some (.int .i64 t) ∧ (w'.cell? ⟨gt, 0, none⟩ = some (.int .i64 id) ∧ w'.cell? ⟨gt, 1, none⟩ = some (.int .i64 fr) ∧ w'.cell? ⟨gt, 2, none⟩ = some (.slice (some ad) rs.length c)) ∧ w'.cell? (ad.add (j * 3)) = some (.int .i64 (rd_T44 rs (j : Int)).f0) ∧ w'.cell? ⟨(ad.add (j * 3)).block, (ad.add (j * 3)).off + 1, none⟩ = some (.int .i64 (rd_T44 rs (j : Int)).f1) ∧ w'.cell? ⟨(ad.add (j * 3)).block, (ad.add (j * 3)).off + 2, none⟩ = some (.int .i64 (rd_T44 rs (j : Int)).f2)) (ds := []) #[false, false, false, false, false, false, false, false, false, false, false] (by kernel_rfl) rfl rfl ⟨y0, y1, ⟨y3, y4, y5⟩, y6, y7, y8⟩ (fun hHeld => ?_)
 generalize w.drew = W_ at *
 refine pure_ (i := 4) (N := some 9) (v := ?_) (a' := ?_) #[false, false, false, false, true, false, false, false, false, false, false] rfl rfl (by kernel_rfl) (fun _ _ _ h => h) (Or.inl ⟨by rfl, ?_⟩) ?_ ?_
 rotate_left
 ·intro w'
  go_simp
  with_reducible rfl
 rotate_left
 ·simp only [Act.put, List.setIfInBounds_toArray, List.set_cons_zero, List.set_cons_succ, i64_w, i32_w]
  rfl
 refine take_ (i := 0) (N := some 5) (v := ?_) (a' := ?_) #[true, false, false, false, true, false, false, false, false, false, false] rfl rfl (by kernel_rfl) (fun _ _ _ h => h) (Or.inl ⟨by rfl, ?_⟩) hHeld ?_ ?_
 rotate_left
 ·rintro w' ⟨s0, s1, ⟨s3, s4, s5⟩, s6, s7, s8⟩
  go_simp
  with_reducible rfl
 rotate_left
 ·simp only [Act.put, List.setIfInBounds_toArray, List.set_cons_zero, List.set_cons_succ, i64_w, i32_w]
  rfl
 refine pure_ (i := 1) (N := some 6) (v := ?_) (a' := ?_) #[true, true, false, false, true, false, false, false, false, false, false] rfl rfl (by kernel_rfl) (fun _ _ _ h => h) (Or.inl ⟨by rfl, ?_⟩) ?_ ?_
 rotate_left
 ·intro w'
  go_simp
  with_reducible rfl
 rotate_left
 ·simp only [Act.put, List.setIfInBounds_toArray, List.set_cons_zero, List.set_cons_succ, i64_w, i32_w]
  rfl
 refine pure_ (i := 2) (N := some 7) (v := ?_) (a' := ?_) #[true, true, true, false, true, false, false, false, false, false, false] rfl rfl (by kernel_rfl) (fun _ _ _ h => h) (Or.inl ⟨by rfl, ?_⟩) ?_ ?_
 rotate_left
 ·intro w'
  go_simp
  with_reducible rfl
 rotate_left
 ·simp only [Act.put, List.setIfInBounds_toArray, List.set_cons_zero, List.set_cons_succ, i64_w, i32_w]
  rfl
 refine take_ (i := 3) (N := some 8) (v := ?_) (a' := ?_) #[true, true, true, true, true, false, false, false, false, false, false] rfl rfl (by kernel_rfl) (fun _ _ _ h => h) (Or.inl ⟨by rfl, ?_⟩) hHeld ?_ ?_
 rotate_left
 ·rintro w' ⟨s0, s1, ⟨s3, s4, s5⟩, s6, s7, s8⟩
  go_simp
  with_reducible rfl
 rotate_left
 ·simp only [Act.put, List.setIfInBounds_toArray, List.set_cons_zero, List.set_cons_succ, i64_w, i32_w]
  rfl
 refine pure_ (i := 5) (N := some 10) (v := ?_) (a' := ?_) #[true, true, true, true, true, true, false, false, false, false, false] rfl rfl (by kernel_rfl) (fun _ _ _ h => h) (Or.inl ⟨by rfl, ?_⟩) ?_ ?_
 rotate_left
 ·intro w'
  go_simp
  with_reducible rfl
 rotate_left
 ·simp only [Act.put, List.setIfInBounds_toArray, List.set_cons_zero, List.set_cons_succ, i64_w, i32_w]
  rfl
 refine pure_ (i := 6) (N := some 11) (v := ?_) (a' := ?_) #[true, true, true, true, true, true, true, false, false, false, false] rfl rfl (by kernel_rfl) (fun _ _ _ h => h) (Or.inl ⟨by rfl, ?_⟩) ?_ ?_
 rotate_left
 ·intro w'
  go_simp
  with_reducible rfl
 rotate_left
 ·simp only [Act.put, List.setIfInBounds_toArray, List.set_cons_zero, List.set_cons_succ, i64_w, i32_w]
  rfl
 refine take_ (i := 7) (N := some 12) (v := ?_) (a' := ?_) #[true, true, true, true, true, true, true, true, false, false, false] rfl rfl (by kernel_rfl) (fun _ _ _ h => h) (Or.inl ⟨by rfl, ?_⟩) hHeld ?_ ?_
 rotate_left
 ·rintro w' ⟨s0, s1, ⟨s3, s4, s5⟩, s6, s7, s8⟩
  go_simp
  with_reducible rfl
 rotate_left
 ·simp only [Act.put, List.setIfInBounds_toArray, List.set_cons_zero, List.set_cons_succ, i64_w, i32_w]
  rfl
 refine take_ (i := 8) (N := some 13) (v := ?_) (a' := ?_) #[true, true, true, true, true, true, true, true, true, false, false] rfl rfl (by kernel_rfl) (fun _ _ _ h => h) (Or.inl ⟨by rfl, ?_⟩) hHeld ?_ ?_
 rotate_left
 ·rintro w' ⟨s0, s1, ⟨s3, s4, s5⟩, s6, s7, s8⟩
  go_simp
  with_reducible rfl
 rotate_left
 ·simp only [Act.put, List.setIfInBounds_toArray, List.set_cons_zero, List.set_cons_succ, i64_w, i32_w]
  rfl
 refine pure_ (i := 9) (N := some 14) (v := ?_) (a' := ?_) #[true, true, true, true, true, true, true, true, true, true, false] rfl rfl (by kernel_rfl) (fun _ _ _ h => h) (Or.inl ⟨by rfl, ?_⟩) ?_ ?_
 rotate_left
 ·intro w'
  go_simp
  with_reducible rfl
 rotate_left
 ·simp only [Act.put, List.setIfInBounds_toArray, List.set_cons_zero, List.set_cons_succ, i64_w, i32_w]
  rfl
 refine pure_ (i := 10) (N := some 4) (v := ?_) (a' := ?_) #[true, true, true, true, true, true, true, true, true, true, true] rfl rfl (by kernel_rfl) (fun _ _ _ h => h) (Or.inl ⟨by rfl, ?_⟩) ?_ ?_
 rotate_left
 ·intro w'
  go_simp
  with_reducible rfl
 rotate_left
 ·simp only [Act.put, List.setIfInBounds_toArray, List.set_cons_zero, List.set_cons_succ, i64_w, i32_w]
  rfl
 refine done_ (by kernel_rfl) ?_
 go_wp2_with fail
 go_ret
 exact ⟨rfl, HS.out⟩
set_option maxHeartbeats 3200000 in
theorem search_st (h : St l w0 w) (n1 n2 bt bx : Nat) (t : Int) (e1 : l[n1]? = some (SL.blk bt 31 #[.pointer (some ⟨gt, 0, none⟩)])) (e2 : l[n2]? = some (SL.blk bx 3 #[.int .i64 t])) (R : InT l gt id fr rs) (m0 : Nat) (hm : m0 ≤ rs.length) (hlen : rs.length ≤ 100000) (hlo : ∀ k : Nat, k < m0 → (rd_T44 rs (k : Int)).f1 ≤ t) (hhi : ∀ k : Nat, m0 ≤ k → k < rs.length → t < (rd_T44 rs (k : Int)).f1) :
  Calls Try.prog 113 #[.int .i64 (rs.length : Int), .func (.func 114) #[] #[.pointer (some ⟨bt, 0, none⟩), .pointer (some ⟨bx, 0, none⟩)]] w fun e w' => e = .returned (.int .i64 (m0 : Int)) ∧ St l w0 w' := by
 have HS := Go.Lib.hid h
 have HLO := Go.Lib.hid hlo
 have HHI := Go.Lib.hid hhi
 have E1 := Go.Lib.hid e1
 have E2 := Go.Lib.hid e2
 clear h hlo hhi e1 e2
 go_enter Try.func113, Try.ntmps113
 go_wp2_with fail
 go_loopw [5, 6] (fun a b wr => ∃ i j : Nat, a = .int .i64 (i : Int) ∧ b = .int .i64 (j : Int) ∧ i ≤ m0 ∧ m0 ≤ j ∧ j ≤ rs.length ∧ St l w0 wr) (fun a b _ => (intOf b - intOf a).toNat)
 case atStart => exact ⟨0, rs.length, rfl, rfl, Nat.zero_le _, hm, Nat.le_refl _, HS.out⟩
 case round =>
  clear HS
  obtain ⟨i, j, rfl, rfl, hi, hj, hjl, hS⟩ := hrel
  have HS := Go.Lib.hid hS
  clear hS
  by_cases hlt : i < j
  ·have p0 : ((i : Int) < (j : Int)) = True := eq_true (by omega)
   obtain ⟨m, hm⟩ : ∃ m : Nat, m = (i + j) / 2 := ⟨_, rfl⟩
   have em : ((i : Int) + (j : Int)) / 2 = (m : Int) := by omega
   have hm0 : i ≤ m := by omega
   have hm1 : m < j := by omega
   have EM := Go.Lib.hid em
   clear hm em
   go_wp2_with fail
   rw [EM.out]
   refine (past_st HS.out n1 n2 bt bx t E1.out E2.out R m (by omega)).mono ?_
   rintro e w5 ⟨rfl, HSn⟩
   replace HS := Go.Lib.hid HSn
   clear HSn
   by_cases hp : t < (rd_T44 rs (m : Int)).f1
   ·have d0 : decide (t < (rd_T44 rs (m : Int)).f1) = true := by simpa using hp
    have hmi : m0 ≤ m := by
     rcases Nat.lt_or_ge m m0 with h1 | h1
     ·have := HLO.out m h1; omega
     ·exact h1
    have HMI := Go.Lib.hid hmi
    clear hp hmi
    rw [d0]
    go_wp2_with fail
    go_roundw
    case rel => exact ⟨i, m, rfl, rfl, hi, HMI.out, by omega, HS.out⟩
    case measure => simp [intOf]; omega
   ·have d0 : decide (t < (rd_T44 rs (m : Int)).f1) = false := by simpa using hp
    have hmi : m + 1 ≤ m0 := by
     rcases Nat.lt_or_ge m m0 with h1 | h1
     ·exact h1
     ·exact absurd (HHI.out m h1 (by omega)) hp
    have HMI := Go.Lib.hid hmi
    clear hp hmi
    rw [d0]
    go_wp2_with fail
    go_roundw
    case rel => exact ⟨m + 1, j, rfl, rfl, HMI.out, hj, hjl, HS.out⟩
    case measure => simp [intOf]; omega
  ·have hii : i = m0 := by omega
   have HII := Go.Lib.hid hii
   have p0 : ((i : Int) < (j : Int)) = False := eq_false (by omega)
   clear hii
   go_wp2_with fail
   go_ret
   exact ⟨by rw [← HII.out]; rfl, HS.out⟩
set_option maxHeartbeats 1600000 in
theorem run_st (h : St l w0 w) (R : InT l gt id fr rs) {own : Int → Int} {at_ : Int} (hr : Runs own rs at_) (t : Int) (j : Nat) (hi : In rs t j) (hlen : rs.length ≤ 100000) : Calls Try.prog 63 #[.pointer (some ⟨gt, 0, none⟩), .int .i64 t] w fun e w' => e = .returned (.int .i64 (j : Int)) ∧ St l w0 w' := by
 have HS := Go.Lib.hid h
 obtain ⟨A, c, y3, y4, y5, hC⟩ := R.sees h
 have hj := hi.lt
 have HLO : Hid (∀ k : Nat, k < j + 1 → (rd_T44 rs (k : Int)).f1 ≤ t) := Go.Lib.hid fun k hk => hr.in_lo hi k (by omega)
 have HHI : Hid (∀ k : Nat, j + 1 ≤ k → k < rs.length → t < (rd_T44 rs (k : Int)).f1) := Go.Lib.hid fun k hk hl => hr.in_hi hi k (by omega) hl
 have Y := Go.Lib.hid (And.intro y3 (And.intro y4 y5))
 clear h hC y3 y4 y5
 go_enter Try.func63, Try.ntmps63
 go_wp2_with (first | ((with_reducible refine gate_dst (N := 2) rfl ?_); refine Sl.box_st HS.out (by rfl) (cs := #[.pointer (some ⟨gt, 0, none⟩)]) (t := 31) ?hr ?_; (case hr => first | (go_simp; done) | (go_simp; rfl)); intro bt w31_ HSn HBn; clear HBn; replace HS : Hid (St (SL.blk bt 31 #[.pointer (some ⟨gt, 0, none⟩)] :: l) w0 w31_) := Go.Lib.hid HSn; clear HSn; obtain c0_0 := HS.out.c1 0 _ _ _ rfl) | ((with_reducible refine gate_dst (N := 3) rfl ?_); refine Sl.box_st HS.out (by rfl) (cs := #[.int .i64 t]) (t := 3) ?hr ?_; (case hr => first | (go_simp; done) | (go_simp; rfl)); intro bx w32_ HSn HBn; clear HBn; replace HS : Hid (St (SL.blk bx 3 #[.int .i64 t] :: SL.blk bt 31 #[.pointer (some ⟨gt, 0, none⟩)] :: l) w0 w32_) := Go.Lib.hid HSn; clear HSn; clear c0_0; obtain c0_0 := HS.out.c1 0 _ _ _ rfl; obtain c1_0 := HS.out.c1 1 _ _ _ rfl; obtain ⟨A9, c9, z3, z4, z5, hC9⟩ := ((R.cons _).cons _).sees HS.out; clear hC9))
 refine (search_st HS.out 1 0 bt bx t rfl rfl ((R.cons _).cons _) (j + 1) (by omega) hlen HLO.out HHI.out).mono ?_
 rintro e w9 ⟨rfl, HSn⟩
 replace HS := Go.Lib.hid HSn
 clear HSn
 have e1_ : wrap64 (((j + 1 : Nat) : Int) - 1) = (j : Int) := by unfold wrap64; omega
 have e0_ : IntKind.i64.wrap (((j + 1 : Nat) : Int) - 1) = (j : Int) := e1_ ▸ (by rw [IntKind.wrap_i64]; first | rfl | (unfold wrap64; rfl))
 go_wp2_with fail
 go_ret
 exact ⟨by simp, HS.out.drop.drop⟩
end
end Go.Proofs.Ytnpjbdaaoknkbaa.Tab
