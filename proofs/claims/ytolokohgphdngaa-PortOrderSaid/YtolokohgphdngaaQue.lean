/- A queuing port in owned memory. -/
import Derived.Test.YtolokohgphdngaaPor3
import Derived.Test.YtolokohgphdngaaSls
namespace Go.Proofs.Ytolokohgphdngaa.Que
open Go.RowKit Go.Proofs.YtolokohgphdngaaW.PrintWords Go.Proofs.YtolokohgphdngaaW.PrintLast Go.Proofs.YtolokohgphdngaaW.PrintMore Go.Proofs.Ytolokohgphdngaa.Mine
open Go.Proofs.Ytolokohgphdngaa.Sl (SL Stp Chg St No)
set_option linter.unusedVariables false
set_option linter.unusedSimpArgs false
attribute [local go_sem] max2_int min2_int max_two min_two max_three min_three max_four min_four
structure QS where
  size : Int
  ring : List ByteArray
  first : Int
  n : Int
  lost : Int
def que (g : Nat) (q : QS) : SL := SL.ex fun A : Option Addr => SL.ex fun c : Nat => SL.star (SL.blk g 122 #[.int .i64 q.size, .slice A q.ring.length c, .int .i64 q.first, .int .i64 q.n, .int .i64 q.lost]) (SL.row Kd.string 9 (.slice A q.ring.length c) q.ring)
variable {l : List SL} {w0 w : World} {g : Nat} {q : QS}
theorem open_que (h : St (que g q :: l) w0 w) : ∃ A c, St (SL.blk g 122 #[.int .i64 q.size, .slice A q.ring.length c, .int .i64 q.first, .int .i64 q.n, .int .i64 q.lost] :: SL.row Kd.string 9 (.slice A q.ring.length c) q.ring :: l) w0 w := by
  obtain ⟨A, h⟩ := h.unex
  obtain ⟨c, h⟩ := h.unex
  exact ⟨A, c, h.part⟩
theorem shut_que {A : Option Addr} {c : Nat} (h : St (SL.blk g 122 #[.int .i64 q.size, .slice A q.ring.length c, .int .i64 q.first, .int .i64 q.n, .int .i64 q.lost] :: SL.row Kd.string 9 (.slice A q.ring.length c) q.ring :: l) w0 w) : St (que g q :: l) w0 w := St.mkex A (St.mkex c h.pair)
theorem len_hd (h : St (que g q :: l) w0 w) : Calls Try.prog 19 #[.pointer (some ⟨g, 0, none⟩)] w fun e w' => e = .returned (.int .i64 q.n) ∧ w = w' := by
  obtain ⟨z0, rg, f0, n0, l0⟩ := q
  obtain ⟨A, c, hS⟩ := open_que h
  have HS := Go.Lib.hid hS
  clear hS h
  obtain ⟨c0_0, c0_1, c0_2, c0_3, c0_4⟩ := HS.out.c5 0 _ _ _ _ _ _ _ rfl
  go_enter Try.func19, Try.ntmps19
  go_wp2_with fail
  go_ret
  exact ⟨rfl, rfl⟩
theorem len_st (h : St l w0 w) (k : Nat) (e : l[k]? = some (que g q)) : Calls Try.prog 19 #[.pointer (some ⟨g, 0, none⟩)] w fun e w' => e = .returned (.int .i64 q.n) ∧ w = w' := len_hd (h.front k _ e)
theorem lost_hd (h : St (que g q :: l) w0 w) : Calls Try.prog 20 #[.pointer (some ⟨g, 0, none⟩)] w fun e w' => e = .returned (.int .i64 q.lost) ∧ w = w' := by
  obtain ⟨z0, rg, f0, n0, l0⟩ := q
  obtain ⟨A, c, hS⟩ := open_que h
  have HS := Go.Lib.hid hS
  clear hS h
  obtain ⟨c0_0, c0_1, c0_2, c0_3, c0_4⟩ := HS.out.c5 0 _ _ _ _ _ _ _ rfl
  go_enter Try.func20, Try.ntmps20
  go_wp2_with fail
  go_ret
  exact ⟨rfl, rfl⟩
theorem lost_st (h : St l w0 w) (k : Nat) (e : l[k]? = some (que g q)) : Calls Try.prog 20 #[.pointer (some ⟨g, 0, none⟩)] w fun e w' => e = .returned (.int .i64 q.lost) ∧ w = w' := lost_hd (h.front k _ e)
set_option maxHeartbeats 1600000 in
set_option maxRecDepth 100000 in
theorem place_raw {A : Option Addr} {c : Nat} {z0 f0 n0 l0 : Int} {rg : List ByteArray} (h : St (SL.blk g 122 #[.int .i64 z0, .slice A rg.length c, .int .i64 f0, .int .i64 n0, .int .i64 l0] :: SL.row Kd.string 9 (.slice A rg.length c) rg :: l) w0 w) (a : Int) (hl' : 0 < rg.length) (h0' : 0 ≤ f0 + a) (h1' : f0 + a ≤ 100000) : Calls Try.prog 56 #[.pointer (some ⟨g, 0, none⟩), .int .i64 a] w fun e w' => e = .returned (.int .i64 (Int.tmod (f0 + a) rg.length)) ∧ w.drew = w' := by
  have HS := Go.Lib.hid h
  clear h
  have hz : rg ≠ [] := by intro e; rw [e] at hl'; exact absurd hl' (by decide)
  have hw : wrap64 (f0 + a) = f0 + a := by unfold wrap64; omega
  obtain ⟨c0_0, c0_1, c0_2, c0_3, c0_4⟩ := HS.out.c5 0 _ _ _ _ _ _ _ rfl
  go_enter Try.func56, Try.ntmps56
  go_wp2_with fail
  clear c0_0 c0_1 c0_2 c0_3 c0_4
  replace HS := Go.Lib.hid HS.out.drew
  refine start_ (n := 13) (S := fun w' => w'.cell? ⟨g, 0, none⟩ = some (.int .i64 z0) ∧ w'.cell? ⟨g, 1, none⟩ = some (.slice A rg.length c) ∧ w'.cell? ⟨g, 2, none⟩ = some (.int .i64 f0) ∧ w'.cell? ⟨g, 3, none⟩ = some (.int .i64 n0) ∧ w'.cell? ⟨g, 4, none⟩ = some (.int .i64 l0)) (ds := []) #[false, false, false, false, false, false, false, false, false, false, false, false, false] (by kernel_rfl) rfl rfl ⟨HS.out.cell 0 _ _ _ rfl 0, HS.out.cell 0 _ _ _ rfl 1, HS.out.cell 0 _ _ _ rfl 2, HS.out.cell 0 _ _ _ rfl 3, HS.out.cell 0 _ _ _ rfl 4⟩ (fun hHeld => ?_)
  generalize hdr : w.drew = W_ at *
  have HD := Go.Lib.hid hdr
  clear hdr
  refine pure_ (i := 0) (N := some 5) (v := ?_) (a' := ?_) #[true, false, false, false, false, false, false, false, false, false, false, false, false] rfl rfl (by kernel_rfl) (fun _ _ _ h => h) (Or.inl ⟨by rfl, ?_⟩) ?_ ?_
  rotate_left
  · intro w'
    go_simp
    with_reducible rfl
  rotate_left
  · simp only [Act.put, List.setIfInBounds_toArray, List.set_cons_zero, List.set_cons_succ, i64_w, i32_w]
    rfl
  refine pure_ (i := 1) (N := some 6) (v := ?_) (a' := ?_) #[true, true, false, false, false, false, false, false, false, false, false, false, false] rfl rfl (by kernel_rfl) (fun _ _ _ h => h) (Or.inl ⟨by rfl, ?_⟩) ?_ ?_
  rotate_left
  · intro w'
    go_simp
    with_reducible rfl
  rotate_left
  · simp only [Act.put, List.setIfInBounds_toArray, List.set_cons_zero, List.set_cons_succ, i64_w, i32_w]
    rfl
  refine pure_ (i := 2) (N := some 7) (v := ?_) (a' := ?_) #[true, true, true, false, false, false, false, false, false, false, false, false, false] rfl rfl (by kernel_rfl) (fun _ _ _ h => h) (Or.inl ⟨by rfl, ?_⟩) ?_ ?_
  rotate_left
  · intro w'
    go_simp
    with_reducible rfl
  rotate_left
  · simp only [Act.put, List.setIfInBounds_toArray, List.set_cons_zero, List.set_cons_succ, i64_w, i32_w]
    rfl
  refine pure_ (i := 4) (N := some 9) (v := ?_) (a' := ?_) #[true, true, true, false, true, false, false, false, false, false, false, false, false] rfl rfl (by kernel_rfl) (fun _ _ _ h => h) (Or.inl ⟨by rfl, ?_⟩) ?_ ?_
  rotate_left
  · intro w'
    go_simp
    with_reducible rfl
  rotate_left
  · simp only [Act.put, List.setIfInBounds_toArray, List.set_cons_zero, List.set_cons_succ, i64_w, i32_w]
    rfl
  refine pure_ (i := 6) (N := some 11) (v := ?_) (a' := ?_) #[true, true, true, false, true, false, true, false, false, false, false, false, false] rfl rfl (by kernel_rfl) (fun _ _ _ h => h) (Or.inl ⟨by rfl, ?_⟩) ?_ ?_
  rotate_left
  · intro w'
    go_simp
    with_reducible rfl
  rotate_left
  · simp only [Act.put, List.setIfInBounds_toArray, List.set_cons_zero, List.set_cons_succ, i64_w, i32_w]
    rfl
  refine pure_ (i := 7) (N := some 12) (v := ?_) (a' := ?_) #[true, true, true, false, true, false, true, true, false, false, false, false, false] rfl rfl (by kernel_rfl) (fun _ _ _ h => h) (Or.inl ⟨by rfl, ?_⟩) ?_ ?_
  rotate_left
  · intro w'
    go_simp
    with_reducible rfl
  rotate_left
  · simp only [Act.put, List.setIfInBounds_toArray, List.set_cons_zero, List.set_cons_succ, i64_w, i32_w]
    rfl
  refine pure_ (i := 8) (N := some 13) (v := ?_) (a' := ?_) #[true, true, true, false, true, false, true, true, true, false, false, false, false] rfl rfl (by kernel_rfl) (fun _ _ _ h => h) (Or.inl ⟨by rfl, ?_⟩) ?_ ?_
  rotate_left
  · intro w'
    go_simp
    with_reducible rfl
  rotate_left
  · simp only [Act.put, List.setIfInBounds_toArray, List.set_cons_zero, List.set_cons_succ, i64_w, i32_w]
    rfl
  refine take_ (i := 3) (N := some 8) (v := ?_) (a' := ?_) #[true, true, true, true, true, false, true, true, true, false, false, false, false] rfl rfl (by kernel_rfl) (fun _ _ _ h => h) (Or.inl ⟨by rfl, ?_⟩) hHeld ?_ ?_
  rotate_left
  · rintro w' ⟨s0, s1, s2, s3, s4⟩
    go_simp
    with_reducible rfl
  rotate_left
  · simp only [Act.put, List.setIfInBounds_toArray, List.set_cons_zero, List.set_cons_succ, i64_w, i32_w]
    rfl
  refine pure_ (i := 5) (N := some 10) (v := ?_) (a' := ?_) #[true, true, true, true, true, true, true, true, true, false, false, false, false] rfl rfl (by kernel_rfl) (fun _ _ _ h => h) (Or.inl ⟨by rfl, ?_⟩) ?_ ?_
  rotate_left
  · intro w'
    go_simp
    with_reducible rfl
  rotate_left
  · simp only [Act.put, List.setIfInBounds_toArray, List.set_cons_zero, List.set_cons_succ, i64_w, i32_w]
    rfl
  refine take_ (i := 9) (N := some 14) (v := ?_) (a' := ?_) #[true, true, true, true, true, true, true, true, true, true, false, false, false] rfl rfl (by kernel_rfl) (fun _ _ _ h => h) (Or.inl ⟨by rfl, ?_⟩) hHeld ?_ ?_
  rotate_left
  · rintro w' ⟨s0, s1, s2, s3, s4⟩
    go_simp
    with_reducible rfl
  rotate_left
  · simp only [Act.put, List.setIfInBounds_toArray, List.set_cons_zero, List.set_cons_succ, i64_w, i32_w]
    rfl
  refine pure_ (i := 10) (N := some 15) (v := ?_) (a' := ?_) #[true, true, true, true, true, true, true, true, true, true, true, false, false] rfl rfl (by kernel_rfl) (fun _ _ _ h => h) (Or.inl ⟨by rfl, ?_⟩) ?_ ?_
  rotate_left
  · intro w'
    go_simp
    with_reducible rfl
  rotate_left
  · simp only [Act.put, List.setIfInBounds_toArray, List.set_cons_zero, List.set_cons_succ, i64_w, i32_w]
    rfl
  refine pure_ (i := 11) (N := some 16) (v := ?_) (a' := ?_) #[true, true, true, true, true, true, true, true, true, true, true, true, false] rfl rfl (by kernel_rfl) (fun _ _ _ h => h) (Or.inl ⟨by rfl, ?_⟩) ?_ ?_
  rotate_left
  · intro w'
    go_simp
    with_reducible rfl
  rotate_left
  · simp only [Act.put, List.setIfInBounds_toArray, List.set_cons_zero, List.set_cons_succ, i64_w, i32_w]
    rfl
  refine pure_ (i := 12) (N := some 4) (v := ?_) (a' := ?_) #[true, true, true, true, true, true, true, true, true, true, true, true, true] rfl rfl (by kernel_rfl) (fun _ _ _ h => h) (Or.inl ⟨by rfl, ?_⟩) ?_ ?_
  rotate_left
  · intro w'
    go_simp
    with_reducible rfl
  rotate_left
  · simp only [Act.put, List.setIfInBounds_toArray, List.set_cons_zero, List.set_cons_succ, i64_w, i32_w]
    rfl
  refine done_ (by kernel_rfl) ?_
  go_wp2_with fail
  go_ret
  exact ⟨rfl, HD.out⟩
theorem new_no (size depth : Int) (w : World) (h : size < 1 ∨ 8192 < size ∨ depth < 1 ∨ 512 < depth) : Calls Try.prog 16 #[.int .i64 size, .int .i64 depth] w fun e w' => e = .returned (.tuple #[.pointer none, .int .i64 4]) ∧ w = w' := by
  by_cases h1 : size < 1
  · have h1' : decide (size < 1) = true := by simpa using h1
    clear h h1
    go_enter Try.func16, Try.ntmps16
    go_wp2_with fail
    go_ret2
    exact ⟨rfl, rfl⟩
  have h1' : decide (size < 1) = false := by simpa using h1
  by_cases h2 : 8192 < size
  · have h2' : decide (8192 < size) = true := by simpa using h2
    clear h h1 h2
    go_enter Try.func16, Try.ntmps16
    go_wp2_with fail
    go_ret2
    exact ⟨rfl, rfl⟩
  have h2' : decide (8192 < size) = false := by simpa using h2
  by_cases h3 : depth < 1
  · have h3' : decide (depth < 1) = true := by simpa using h3
    clear h h1 h2 h3
    go_enter Try.func16, Try.ntmps16
    go_wp2_with fail
    go_ret2
    exact ⟨rfl, rfl⟩
  have h3' : decide (depth < 1) = false := by simpa using h3
  · have h4' : decide (512 < depth) = true := by simp; omega
    clear h h1 h2 h3
    go_enter Try.func16, Try.ntmps16
    go_wp2_with fail
    go_ret2
    exact ⟨rfl, rfl⟩
set_option maxHeartbeats 1600000 in
set_option maxRecDepth 100000 in
theorem new_st (size depth : Int) (h : St l w0 w) (h1 : 1 ≤ size) (h2 : size ≤ 8192) (h3 : 1 ≤ depth) (h4 : depth ≤ 512) : Calls Try.prog 16 #[.int .i64 size, .int .i64 depth] w fun e w' => ∃ g, e = .returned (.tuple #[.pointer (some ⟨g, 0, none⟩), .int .i64 0]) ∧ St (que g ⟨size, List.replicate depth.toNat ByteArray.empty, 0, 0, 0⟩ :: l) w0 w' := by
  have h1' : decide (size < 1) = false := by simp; omega
  have h2' : decide (8192 < size) = false := by simp; omega
  have h3' : decide (depth < 1) = false := by simp; omega
  have h4' : decide (512 < depth) = false := by simp; omega
  have hd0 : 0 ≤ depth := by omega
  have hdl : depth.toNat * 16 ≤ 281474976710656 := by omega
  have HS := Go.Lib.hid h
  clear h h1 h2 h3 h4
  go_enter Try.func16, Try.ntmps16
  go_wp2_with (first | ((with_reducible refine gate_dst (N := 22) rfl ?_); refine Sl.make_st Kd.string flat_string HS.out 9 (by rfl) 41 (.tmp 21) (.tmp 21) rfl depth rfl rfl Try.underlying41 (.string ByteArray.empty) 16 (by kernel_rfl) rfl (by decide) (by decide) ByteArray.empty rfl hd0 hdl rfl ?_; intro v22_ w1_ HSn; obtain ⟨A, c, hv_, _⟩ := HSn.rowC 0 rfl; subst hv_; replace HS : Hid (St (SL.row Kd.string 9 (.slice A (List.replicate depth.toNat (ByteArray.empty)).length c) (List.replicate depth.toNat (ByteArray.empty)) :: l) w0 w1_) := Go.Lib.hid HSn; clear HSn) | ((with_reducible refine gate_dst (N := 24) rfl ?_); refine Sl.box_st HS.out (by rfl) (cs := #[.int .i64 size, .slice A (List.replicate depth.toNat (ByteArray.empty)).length c, .int .i64 0, .int .i64 0, .int .i64 0]) (t := 122) ?hr ?_; (case hr => first | (go_simp; done) | (go_simp; rfl)); intro g2 w2_ HSn HBn; clear HBn; replace HS : Hid (St (SL.blk g2 122 #[.int .i64 size, .slice A (List.replicate depth.toNat (ByteArray.empty)).length c, .int .i64 0, .int .i64 0, .int .i64 0] :: SL.row Kd.string 9 (.slice A (List.replicate depth.toNat (ByteArray.empty)).length c) (List.replicate depth.toNat (ByteArray.empty)) :: l) w0 w2_) := Go.Lib.hid HSn; clear HSn; obtain ⟨c0_0, c0_1, c0_2, c0_3, c0_4⟩ := HS.out.c5 0 _ _ _ _ _ _ _ rfl))
  go_ret2
  exact ⟨_, rfl, shut_que (q := ⟨size, List.replicate depth.toNat ByteArray.empty, 0, 0, 0⟩) HS.out⟩
end Go.Proofs.Ytolokohgphdngaa.Que
