/- A queuing port in owned memory: Receive, Send. -/
import Derived.Test.YtolokohgphdngaaQue
namespace Go.Proofs.Ytolokohgphdngaa.Que
open Go.RowKit Go.Proofs.YtolokohgphdngaaW.PrintWords Go.Proofs.YtolokohgphdngaaW.PrintLast Go.Proofs.YtolokohgphdngaaW.PrintMore Go.Proofs.Ytolokohgphdngaa.Mine
open Go.Proofs.Ytolokohgphdngaa.Sl (SL Stp Chg St No)
set_option linter.unusedVariables false
set_option linter.unusedSimpArgs false
attribute [local go_sem] max2_int min2_int max_two min_two max_three min_three max_four min_four
variable {l : List SL} {w0 w : World} {g : Nat} {q : QS}
/-- What a queue keeps. -/
structure Okq (q : QS) : Prop where
  l0 : 0 < q.ring.length
  l1 : q.ring.length ≤ 512
  f0 : 0 ≤ q.first
  f1 : q.first < q.ring.length
  n0 : 0 ≤ q.n
  n1 : q.n ≤ q.ring.length
def recv (q : QS) : ByteArray × Int × QS :=
  if q.n = 0 then (⟨#[]⟩, 2, q) else (rdOf ByteArray.empty q.ring q.first, 0, { q with ring := q.ring.set q.first.toNat ⟨#[]⟩, first := Int.tmod (q.first + 1) q.ring.length, n := q.n - 1 })
theorem place_raw2 {b c : Nat} {z0 f0 n0 l0 : Int} {rg rg2 : List ByteArray} (h : St (SL.blk g 122 #[.int .i64 z0, .slice (some ⟨b, 0, none⟩) rg.length c, .int .i64 f0, .int .i64 n0, .int .i64 l0] :: SL.row Kd.string 9 (.slice (some ⟨b, 0, none⟩) rg.length c) rg2 :: l) w0 w) (a : Int) (hl' : 0 < rg.length) (h0' : 0 ≤ f0 + a) (h1' : f0 + a ≤ 100000) (hq : rg2.length = rg.length) : Calls Try.prog 56 #[.pointer (some ⟨g, 0, none⟩), .int .i64 a] w fun e w' => e = .returned (.int .i64 (Int.tmod (f0 + a) rg.length)) ∧ w.drew = w' := by
  rw [← hq] at h hl' ⊢
  exact place_raw h a hl' h0' h1'
theorem shut_raw {b c : Nat} {z0 f0 n0 l0 : Int} {rg rg2 : List ByteArray} (hq : rg2.length = rg.length) (h : St (SL.blk g 122 #[.int .i64 z0, .slice (some ⟨b, 0, none⟩) rg.length c, .int .i64 f0, .int .i64 n0, .int .i64 l0] :: SL.row Kd.string 9 (.slice (some ⟨b, 0, none⟩) rg.length c) rg2 :: l) w0 w) : St (que g ⟨z0, rg2, f0, n0, l0⟩ :: l) w0 w := by
  rw [← hq] at h
  exact shut_que (q := ⟨z0, rg2, f0, n0, l0⟩) h
set_option maxHeartbeats 1600000 in
set_option maxRecDepth 100000 in
theorem recv_hd (h : St (que g q :: l) w0 w) (hk : Okq q) : Calls Try.prog 18 #[.pointer (some ⟨g, 0, none⟩)] w fun e w' => e = .returned (.tuple #[.string (recv q).1, .int .i64 (recv q).2.1]) ∧ St (que g (recv q).2.2 :: l) w0 w' := by
  obtain ⟨z0, rg, f0, n0, l0⟩ := q
  obtain ⟨A, c, hS⟩ := open_que h
  obtain ⟨hl0, hl1, hi0, hi1, hn0, hn1⟩ := hk
  simp only at hl0 hl1 hi0 hi1 hn0 hn1
  clear h
  by_cases hz : n0 = 0
  · subst hz
    have HS := Go.Lib.hid hS
    clear hS
    obtain ⟨c0_0, c0_1, c0_2, c0_3, c0_4⟩ := HS.out.c5 0 _ _ _ _ _ _ _ rfl
    go_enter Try.func18, Try.ntmps18
    go_wp2_with fail
    go_ret2
    exact ⟨rfl, shut_que (q := ⟨z0, rg, f0, 0, l0⟩) HS.out⟩
  · have hr : recv ⟨z0, rg, f0, n0, l0⟩ = (rdOf ByteArray.empty rg f0, 0, ⟨z0, rg.set f0.toNat ⟨#[]⟩, Int.tmod (f0 + 1) rg.length, n0 - 1, l0⟩) := by unfold recv; rw [if_neg hz]
    rw [hr]
    have hz' : (n0 == 0) = false := by simpa using hz
    have hw : wrap64 (n0 - 1) = n0 - 1 := by unfold wrap64; omega
    obtain ⟨b, cap, hv, hle, hcell, hfr, _⟩ := hS.putOf (enc := Value.string) ByteArray.empty 1 rfl f0 hi0 hi1
    injection hv with q1 _ q3
    subst q1 q3
    have HS := Go.Lib.hid hS
    clear hS hr hfr
    generalize rdOf ByteArray.empty rg f0 = m0 at *
    obtain ⟨c0_0, c0_1, c0_2, c0_3, c0_4⟩ := HS.out.c5 0 _ _ _ _ _ _ _ rfl
    go_enter Try.func18, Try.ntmps18
    go_wp2_with fail
    clear c0_0 c0_1 c0_2 c0_3 c0_4
    replace HS := Go.Lib.hid HS.out.drew
    refine start_ (n := 11) (S := fun w' => w'.cell? ⟨g, 0, none⟩ = some (.int .i64 z0) ∧ w'.cell? ⟨g, 1, none⟩ = some (.slice (some ⟨b, 0, none⟩) rg.length c) ∧ w'.cell? ⟨g, 2, none⟩ = some (.int .i64 f0) ∧ w'.cell? ⟨g, 3, none⟩ = some (.int .i64 n0) ∧ w'.cell? ⟨g, 4, none⟩ = some (.int .i64 l0) ∧ w'.cell? ⟨b, f0.toNat, none⟩ = some (.string m0)) (ds := []) #[false, false, false, false, false, false, false, false, false, false, false] (by kernel_rfl) rfl rfl ⟨HS.out.cell 0 _ _ _ rfl 0, HS.out.cell 0 _ _ _ rfl 1, HS.out.cell 0 _ _ _ rfl 2, HS.out.cell 0 _ _ _ rfl 3, HS.out.cell 0 _ _ _ rfl 4, hcell⟩ (fun hHeld => ?_)
    generalize w.drew = W_ at *
    refine pure_ (i := 0) (N := some 10) (v := ?_) (a' := ?_) #[true, false, false, false, false, false, false, false, false, false, false] rfl rfl (by kernel_rfl) (fun _ _ _ h => h) (Or.inl ⟨by rfl, ?_⟩) ?_ ?_
    rotate_left
    · intro w'
      go_simp
      with_reducible rfl
    rotate_left
    · simp only [Act.put, List.setIfInBounds_toArray, List.set_cons_zero, List.set_cons_succ, i64_w, i32_w]
      rfl
    refine pure_ (i := 1) (N := some 11) (v := ?_) (a' := ?_) #[true, true, false, false, false, false, false, false, false, false, false] rfl rfl (by kernel_rfl) (fun _ _ _ h => h) (Or.inl ⟨by rfl, ?_⟩) ?_ ?_
    rotate_left
    · intro w'
      go_simp
      with_reducible rfl
    rotate_left
    · simp only [Act.put, List.setIfInBounds_toArray, List.set_cons_zero, List.set_cons_succ, i64_w, i32_w]
      rfl
    refine pure_ (i := 2) (N := some 12) (v := ?_) (a' := ?_) #[true, true, true, false, false, false, false, false, false, false, false] rfl rfl (by kernel_rfl) (fun _ _ _ h => h) (Or.inl ⟨by rfl, ?_⟩) ?_ ?_
    rotate_left
    · intro w'
      go_simp
      with_reducible rfl
    rotate_left
    · simp only [Act.put, List.setIfInBounds_toArray, List.set_cons_zero, List.set_cons_succ, i64_w, i32_w]
      rfl
    refine pure_ (i := 4) (N := some 14) (v := ?_) (a' := ?_) #[true, true, true, false, true, false, false, false, false, false, false] rfl rfl (by kernel_rfl) (fun _ _ _ h => h) (Or.inl ⟨by rfl, ?_⟩) ?_ ?_
    rotate_left
    · intro w'
      go_simp
      with_reducible rfl
    rotate_left
    · simp only [Act.put, List.setIfInBounds_toArray, List.set_cons_zero, List.set_cons_succ, i64_w, i32_w]
      rfl
    refine pure_ (i := 5) (N := some 15) (v := ?_) (a' := ?_) #[true, true, true, false, true, true, false, false, false, false, false] rfl rfl (by kernel_rfl) (fun _ _ _ h => h) (Or.inl ⟨by rfl, ?_⟩) ?_ ?_
    rotate_left
    · intro w'
      go_simp
      with_reducible rfl
    rotate_left
    · simp only [Act.put, List.setIfInBounds_toArray, List.set_cons_zero, List.set_cons_succ, i64_w, i32_w]
      rfl
    refine pure_ (i := 6) (N := some 16) (v := ?_) (a' := ?_) #[true, true, true, false, true, true, true, false, false, false, false] rfl rfl (by kernel_rfl) (fun _ _ _ h => h) (Or.inl ⟨by rfl, ?_⟩) ?_ ?_
    rotate_left
    · intro w'
      go_simp
      with_reducible rfl
    rotate_left
    · simp only [Act.put, List.setIfInBounds_toArray, List.set_cons_zero, List.set_cons_succ, i64_w, i32_w]
      rfl
    refine take_ (i := 3) (N := some 13) (v := ?_) (a' := ?_) #[true, true, true, true, true, true, true, false, false, false, false] rfl rfl (by kernel_rfl) (fun _ _ _ h => h) (Or.inl ⟨by rfl, ?_⟩) hHeld ?_ ?_
    rotate_left
    · rintro w' ⟨s0, s1, s2, s3, s4, s5⟩
      go_simp
      with_reducible rfl
    rotate_left
    · simp only [Act.put, List.setIfInBounds_toArray, List.set_cons_zero, List.set_cons_succ, i64_w, i32_w]
      rfl
    refine take_ (i := 7) (N := some 17) (v := ?_) (a' := ?_) #[true, true, true, true, true, true, true, true, false, false, false] rfl rfl (by kernel_rfl) (fun _ _ _ h => h) (Or.inl ⟨by rfl, ?_⟩) hHeld ?_ ?_
    rotate_left
    · rintro w' ⟨s0, s1, s2, s3, s4, s5⟩
      go_simp
      with_reducible rfl
    rotate_left
    · simp only [Act.put, List.setIfInBounds_toArray, List.set_cons_zero, List.set_cons_succ, i64_w, i32_w]
      rfl
    refine pure_ (i := 8) (N := some 18) (v := ?_) (a' := ?_) #[true, true, true, true, true, true, true, true, true, false, false] rfl rfl (by kernel_rfl) (fun _ _ _ h => h) (Or.inl ⟨by rfl, ?_⟩) ?_ ?_
    rotate_left
    · intro w'
      go_simp
      with_reducible rfl
    rotate_left
    · simp only [Act.put, List.setIfInBounds_toArray, List.set_cons_zero, List.set_cons_succ, i64_w, i32_w]
      rfl
    refine take_ (i := 9) (N := some 19) (v := ?_) (a' := ?_) #[true, true, true, true, true, true, true, true, true, true, false] rfl rfl (by kernel_rfl) (fun _ _ _ h => h) (Or.inl ⟨by rfl, ?_⟩) hHeld ?_ ?_
    rotate_left
    · rintro w' ⟨s0, s1, s2, s3, s4, s5⟩
      go_simp
      with_reducible rfl
    rotate_left
    · simp only [Act.put, List.setIfInBounds_toArray, List.set_cons_zero, List.set_cons_succ, i64_w, i32_w]
      rfl
    refine pure_ (i := 10) (N := some 4) (v := ?_) (a' := ?_) #[true, true, true, true, true, true, true, true, true, true, true] rfl rfl (by kernel_rfl) (fun _ _ _ h => h) (Or.inl ⟨by rfl, ?_⟩) ?_ ?_
    rotate_left
    · intro w'
      go_simp
      with_reducible rfl
    rotate_left
    · simp only [Act.put, List.setIfInBounds_toArray, List.set_cons_zero, List.set_cons_succ, i64_w, i32_w]
      rfl
    refine done_ (by kernel_rfl) ?_
    go_wp2_with fail
    replace HS := Go.Lib.hid HS.out.drew
    clear hcell
    refine start_ (n := 10) (S := fun w' => w'.cell? ⟨g, 0, none⟩ = some (.int .i64 z0) ∧ w'.cell? ⟨g, 1, none⟩ = some (.slice (some ⟨b, 0, none⟩) rg.length c) ∧ w'.cell? ⟨g, 2, none⟩ = some (.int .i64 f0) ∧ w'.cell? ⟨g, 3, none⟩ = some (.int .i64 n0) ∧ w'.cell? ⟨g, 4, none⟩ = some (.int .i64 l0)) (ds := [9]) #[false, false, false, false, false, false, false, false, false, false] (by kernel_rfl) rfl rfl ⟨HS.out.cell 0 _ _ _ rfl 0, HS.out.cell 0 _ _ _ rfl 1, HS.out.cell 0 _ _ _ rfl 2, HS.out.cell 0 _ _ _ rfl 3, HS.out.cell 0 _ _ _ rfl 4⟩ (fun hHeld => ?_)
    generalize W_.drew = V_ at *
    refine pure_ (i := 0) (N := some 20) (v := ?_) (a' := ?_) #[true, false, false, false, false, false, false, false, false, false] rfl rfl (by kernel_rfl) (fun _ _ _ h => h) (Or.inl ⟨by rfl, ?_⟩) ?_ ?_
    rotate_left
    · intro w'
      go_simp
      with_reducible rfl
    rotate_left
    · simp only [Act.put, List.setIfInBounds_toArray, List.set_cons_zero, List.set_cons_succ, i64_w, i32_w]
      rfl
    refine pure_ (i := 1) (N := some 21) (v := ?_) (a' := ?_) #[true, true, false, false, false, false, false, false, false, false] rfl rfl (by kernel_rfl) (fun _ _ _ h => h) (Or.inl ⟨by rfl, ?_⟩) ?_ ?_
    rotate_left
    · intro w'
      go_simp
      with_reducible rfl
    rotate_left
    · simp only [Act.put, List.setIfInBounds_toArray, List.set_cons_zero, List.set_cons_succ, i64_w, i32_w]
      rfl
    refine pure_ (i := 2) (N := some 22) (v := ?_) (a' := ?_) #[true, true, true, false, false, false, false, false, false, false] rfl rfl (by kernel_rfl) (fun _ _ _ h => h) (Or.inl ⟨by rfl, ?_⟩) ?_ ?_
    rotate_left
    · intro w'
      go_simp
      with_reducible rfl
    rotate_left
    · simp only [Act.put, List.setIfInBounds_toArray, List.set_cons_zero, List.set_cons_succ, i64_w, i32_w]
      rfl
    refine pure_ (i := 4) (N := some 24) (v := ?_) (a' := ?_) #[true, true, true, false, true, false, false, false, false, false] rfl rfl (by kernel_rfl) (fun _ _ _ h => h) (Or.inl ⟨by rfl, ?_⟩) ?_ ?_
    rotate_left
    · intro w'
      go_simp
      with_reducible rfl
    rotate_left
    · simp only [Act.put, List.setIfInBounds_toArray, List.set_cons_zero, List.set_cons_succ, i64_w, i32_w]
      rfl
    refine pure_ (i := 5) (N := some 25) (v := ?_) (a' := ?_) #[true, true, true, false, true, true, false, false, false, false] rfl rfl (by kernel_rfl) (fun _ _ _ h => h) (Or.inl ⟨by rfl, ?_⟩) ?_ ?_
    rotate_left
    · intro w'
      go_simp
      with_reducible rfl
    rotate_left
    · simp only [Act.put, List.setIfInBounds_toArray, List.set_cons_zero, List.set_cons_succ, i64_w, i32_w]
      rfl
    refine pure_ (i := 6) (N := some 26) (v := ?_) (a' := ?_) #[true, true, true, false, true, true, true, false, false, false] rfl rfl (by kernel_rfl) (fun _ _ _ h => h) (Or.inl ⟨by rfl, ?_⟩) ?_ ?_
    rotate_left
    · intro w'
      go_simp
      with_reducible rfl
    rotate_left
    · simp only [Act.put, List.setIfInBounds_toArray, List.set_cons_zero, List.set_cons_succ, i64_w, i32_w]
      rfl
    refine take_ (i := 3) (N := some 23) (v := ?_) (a' := ?_) #[true, true, true, true, true, true, true, false, false, false] rfl rfl (by kernel_rfl) (fun _ _ _ h => h) (Or.inl ⟨by rfl, ?_⟩) hHeld ?_ ?_
    rotate_left
    · rintro w' ⟨s0, s1, s2, s3, s4⟩
      go_simp
      with_reducible rfl
    rotate_left
    · simp only [Act.put, List.setIfInBounds_toArray, List.set_cons_zero, List.set_cons_succ, i64_w, i32_w]
      rfl
    refine take_ (i := 7) (N := some 27) (v := ?_) (a' := ?_) #[true, true, true, true, true, true, true, true, false, false] rfl rfl (by kernel_rfl) (fun _ _ _ h => h) (Or.inl ⟨by rfl, ?_⟩) hHeld ?_ ?_
    rotate_left
    · rintro w' ⟨s0, s1, s2, s3, s4⟩
      go_simp
      with_reducible rfl
    rotate_left
    · simp only [Act.put, List.setIfInBounds_toArray, List.set_cons_zero, List.set_cons_succ, i64_w, i32_w]
      rfl
    refine pure_ (i := 8) (N := some 28) (v := ?_) (a' := ?_) #[true, true, true, true, true, true, true, true, true, false] rfl rfl (by kernel_rfl) (fun _ _ _ h => h) (Or.inl ⟨by rfl, ?_⟩) ?_ ?_
    rotate_left
    · intro w'
      go_simp
      with_reducible rfl
    rotate_left
    · simp only [Act.put, List.setIfInBounds_toArray, List.set_cons_zero, List.set_cons_succ, i64_w, i32_w]
      rfl
    refine last_ (i := 9) (N := none) #[true, true, true, true, true, true, true, true, true, true] rfl rfl (by kernel_rfl) (by decide) (fun K hK => ?_)
    refine Sl.putOf_stp (enc := Value.string) ByteArray.empty HS.out 1 rfl f0 hi0 hi1 ⟨#[]⟩ (by rfl) rfl ?hr ?_
    case hr => intro b_ cap_ hv_ hc_ hf_; cases hv_; first | (go_simp; done) | (go_simp; rfl)
    intro w12_ HSm
    refine hK.out _ _ ?_
    clear hK K
    refine done_ (by kernel_rfl) ?_
    replace HS := Go.Lib.hid HSm
    clear HSm
    obtain ⟨c0_0, c0_1, c0_2, c0_3, c0_4⟩ := HS.out.c5 0 _ _ _ _ _ _ _ rfl
    go_wp2_with (first | (go_at_call 56; refine (place_raw2 HS.out 1 hl0 (by omega) (by omega) (by rw [List.length_set])).mono ?_; rintro e w21_ ⟨rfl, hd_⟩; have HSn := HS.out.drew; rw [hd_] at HSn; replace HS : Hid (St (SL.blk g 122 #[.int .i64 z0, .slice (some ⟨b, 0, none⟩) rg.length c, .int .i64 f0, .int .i64 n0, .int .i64 l0] :: SL.row Kd.string 9 (.slice (some ⟨b, 0, none⟩) rg.length c) (rg.set f0.toNat ⟨#[]⟩) :: l) w0 w21_) := Go.Lib.hid HSn; clear HSn; clear c0_0 c0_1 c0_2 c0_3 c0_4; obtain ⟨c0_0, c0_1, c0_2, c0_3, c0_4⟩ := HS.out.c5 0 _ _ _ _ _ _ _ rfl) | ((with_reducible refine gate_store (p := 33) rfl ?_); refine Sl.store_st HS.out 0 g 122 _ rfl 2 (.int .i64 (Int.tmod (f0 + 1) rg.length)) (by rfl) (by rfl) ?hr ?_; (case hr => have f_ := HS.out.free 0 _ _ _ rfl 2; first | (go_simp; done) | (go_simp; rfl)); intro w22_ HSn; replace HS : Hid (St (SL.blk g 122 #[.int .i64 z0, .slice (some ⟨b, 0, none⟩) rg.length c, .int .i64 (Int.tmod (f0 + 1) rg.length), .int .i64 n0, .int .i64 l0] :: SL.row Kd.string 9 (.slice (some ⟨b, 0, none⟩) rg.length c) (rg.set f0.toNat ⟨#[]⟩) :: l) w0 w22_) := Go.Lib.hid HSn; clear HSn; clear c0_0 c0_1 c0_2 c0_3 c0_4; obtain ⟨c0_0, c0_1, c0_2, c0_3, c0_4⟩ := HS.out.c5 0 _ _ _ _ _ _ _ rfl) | ((with_reducible refine gate_store (p := 40) rfl ?_); refine Sl.store_st HS.out 0 g 122 _ rfl 3 (.int .i64 (n0 - 1)) (by rfl) (by rfl) ?hr ?_; (case hr => have f_ := HS.out.free 0 _ _ _ rfl 3; first | (go_simp; done) | (go_simp; rfl)); intro w23_ HSn; replace HS : Hid (St (SL.blk g 122 #[.int .i64 z0, .slice (some ⟨b, 0, none⟩) rg.length c, .int .i64 (Int.tmod (f0 + 1) rg.length), .int .i64 (n0 - 1), .int .i64 l0] :: SL.row Kd.string 9 (.slice (some ⟨b, 0, none⟩) rg.length c) (rg.set f0.toNat ⟨#[]⟩) :: l) w0 w23_) := Go.Lib.hid HSn; clear HSn; clear c0_0 c0_1 c0_2 c0_3 c0_4; obtain ⟨c0_0, c0_1, c0_2, c0_3, c0_4⟩ := HS.out.c5 0 _ _ _ _ _ _ _ rfl))
    go_ret2
    exact ⟨rfl, shut_raw (by rw [List.length_set]) HS.out⟩
theorem recv_st (h : St l w0 w) (k : Nat) (e : l[k]? = some (que g q)) (hk : Okq q) : Calls Try.prog 18 #[.pointer (some ⟨g, 0, none⟩)] w fun e w' => e = .returned (.tuple #[.string (recv q).1, .int .i64 (recv q).2.1]) ∧ St (l.set k (que g (recv q).2.2)) w0 w' :=
  (recv_hd (h.front k _ e) hk).mono fun _ _ ⟨he, hS⟩ => ⟨he, St.back k (List.getElem?_eq_some_iff.1 e).1 hS⟩
def fitsB (m : ByteArray) (size : Int) : Bool := decide (1 ≤ (m.size : Int) ∧ (m.size : Int) ≤ size)
def send (q : QS) (m : ByteArray) : Int × QS :=
  if fitsB m q.size = false then (3, q)
  else if q.n = q.ring.length then (2, { q with lost := q.lost + 1 })
  else (0, { q with ring := q.ring.set (Int.tmod (q.first + q.n) q.ring.length).toNat m, n := q.n + 1 })
theorem fits_st (h : St l w0 w) (m : ByteArray) (size : Int) : Calls Try.prog 55 #[.string m, .int .i64 size] w fun e w' => e = .returned (.bool (fitsB m size)) ∧ St l w0 w' :=
  (PPortSamples.port_fits.calls m size _ w (PPortSamples.fits_is m size)).mono fun _ _ ⟨he, hd⟩ => ⟨he, h.drawn hd⟩
set_option maxHeartbeats 1600000 in
set_option maxRecDepth 100000 in
theorem send_hd (h : St (que g q :: l) w0 w) (hk : Okq q) (m : ByteArray) (hL0 : 0 ≤ q.lost) (hL1 : q.lost ≤ 1000000) : Calls Try.prog 17 #[.pointer (some ⟨g, 0, none⟩), .string m] w fun e w' => e = .returned (.int .i64 (send q m).1) ∧ St (que g (send q m).2 :: l) w0 w' := by
  obtain ⟨z0, rg, f0, n0, l0⟩ := q
  obtain ⟨A, c, hS⟩ := open_que h
  obtain ⟨hl0, hl1, hi0, hi1, hn0, hn1⟩ := hk
  simp only at hl0 hl1 hi0 hi1 hn0 hn1 hL0 hL1
  clear h
  by_cases hf : fitsB m z0 = false
  · have hr : send ⟨z0, rg, f0, n0, l0⟩ m = (3, ⟨z0, rg, f0, n0, l0⟩) := by unfold send; rw [if_pos hf]
    rw [hr]
    have HS := Go.Lib.hid hS
    clear hS hr
    obtain ⟨c0_0, c0_1, c0_2, c0_3, c0_4⟩ := HS.out.c5 0 _ _ _ _ _ _ _ rfl
    go_enter Try.func17, Try.ntmps17
    go_wp2_with (first | (go_at_call 55; refine (fits_st HS.out m z0).mono ?_; rintro e w1_ ⟨rfl, HSn⟩; replace HS : Hid (St (SL.blk g 122 #[.int .i64 z0, .slice A rg.length c, .int .i64 f0, .int .i64 n0, .int .i64 l0] :: SL.row Kd.string 9 (.slice A rg.length c) rg :: l) w0 w1_) := Go.Lib.hid HSn; clear HSn; clear c0_0 c0_1 c0_2 c0_3 c0_4; obtain ⟨c0_0, c0_1, c0_2, c0_3, c0_4⟩ := HS.out.c5 0 _ _ _ _ _ _ _ rfl))
    go_ret
    exact ⟨rfl, shut_que (q := ⟨z0, rg, f0, n0, l0⟩) HS.out⟩
  have hf' : fitsB m z0 = true := by simpa using hf
  by_cases hz : n0 = rg.length
  · have hr : send ⟨z0, rg, f0, n0, l0⟩ m = (2, ⟨z0, rg, f0, n0, l0 + 1⟩) := by unfold send; rw [if_neg hf, if_pos hz]
    rw [hr]
    have hz' : (n0 == (rg.length : Int)) = true := by simpa using hz
    have hw : wrap64 (l0 + 1) = l0 + 1 := by unfold wrap64; omega
    have HS := Go.Lib.hid hS
    clear hS hr hf hz
    obtain ⟨c0_0, c0_1, c0_2, c0_3, c0_4⟩ := HS.out.c5 0 _ _ _ _ _ _ _ rfl
    go_enter Try.func17, Try.ntmps17
    go_wp2_with (first | (go_at_call 55; refine (fits_st HS.out m z0).mono ?_; rintro e w1_ ⟨rfl, HSn⟩; replace HS : Hid (St (SL.blk g 122 #[.int .i64 z0, .slice A rg.length c, .int .i64 f0, .int .i64 n0, .int .i64 l0] :: SL.row Kd.string 9 (.slice A rg.length c) rg :: l) w0 w1_) := Go.Lib.hid HSn; clear HSn; clear c0_0 c0_1 c0_2 c0_3 c0_4; obtain ⟨c0_0, c0_1, c0_2, c0_3, c0_4⟩ := HS.out.c5 0 _ _ _ _ _ _ _ rfl))
    clear c0_0 c0_1 c0_2 c0_3 c0_4
    replace HS := Go.Lib.hid HS.out.drew
    refine start_ (n := 11) (S := fun w' => w'.cell? ⟨g, 0, none⟩ = some (.int .i64 z0) ∧ w'.cell? ⟨g, 1, none⟩ = some (.slice A rg.length c) ∧ w'.cell? ⟨g, 2, none⟩ = some (.int .i64 f0) ∧ w'.cell? ⟨g, 3, none⟩ = some (.int .i64 n0) ∧ w'.cell? ⟨g, 4, none⟩ = some (.int .i64 l0)) (ds := []) #[false, false, false, false, false, false, false, false, false, false, false] (by kernel_rfl) rfl rfl ⟨HS.out.cell 0 _ _ _ rfl 0, HS.out.cell 0 _ _ _ rfl 1, HS.out.cell 0 _ _ _ rfl 2, HS.out.cell 0 _ _ _ rfl 3, HS.out.cell 0 _ _ _ rfl 4⟩ (fun hHeld => ?_)
    generalize w1_.drew = W_ at *
    refine pure_ (i := 0) (N := some 14) (v := ?_) (a' := ?_) #[true, false, false, false, false, false, false, false, false, false, false] rfl rfl (by kernel_rfl) (fun _ _ _ h => h) (Or.inl ⟨by rfl, ?_⟩) ?_ ?_
    rotate_left
    · intro w'
      go_simp
      with_reducible rfl
    rotate_left
    · simp only [Act.put, List.setIfInBounds_toArray, List.set_cons_zero, List.set_cons_succ, i64_w, i32_w]
      rfl
    refine pure_ (i := 1) (N := some 15) (v := ?_) (a' := ?_) #[true, true, false, false, false, false, false, false, false, false, false] rfl rfl (by kernel_rfl) (fun _ _ _ h => h) (Or.inl ⟨by rfl, ?_⟩) ?_ ?_
    rotate_left
    · intro w'
      go_simp
      with_reducible rfl
    rotate_left
    · simp only [Act.put, List.setIfInBounds_toArray, List.set_cons_zero, List.set_cons_succ, i64_w, i32_w]
      rfl
    refine pure_ (i := 2) (N := some 16) (v := ?_) (a' := ?_) #[true, true, true, false, false, false, false, false, false, false, false] rfl rfl (by kernel_rfl) (fun _ _ _ h => h) (Or.inl ⟨by rfl, ?_⟩) ?_ ?_
    rotate_left
    · intro w'
      go_simp
      with_reducible rfl
    rotate_left
    · simp only [Act.put, List.setIfInBounds_toArray, List.set_cons_zero, List.set_cons_succ, i64_w, i32_w]
      rfl
    refine pure_ (i := 4) (N := some 18) (v := ?_) (a' := ?_) #[true, true, true, false, true, false, false, false, false, false, false] rfl rfl (by kernel_rfl) (fun _ _ _ h => h) (Or.inl ⟨by rfl, ?_⟩) ?_ ?_
    rotate_left
    · intro w'
      go_simp
      with_reducible rfl
    rotate_left
    · simp only [Act.put, List.setIfInBounds_toArray, List.set_cons_zero, List.set_cons_succ, i64_w, i32_w]
      rfl
    refine pure_ (i := 5) (N := some 19) (v := ?_) (a' := ?_) #[true, true, true, false, true, true, false, false, false, false, false] rfl rfl (by kernel_rfl) (fun _ _ _ h => h) (Or.inl ⟨by rfl, ?_⟩) ?_ ?_
    rotate_left
    · intro w'
      go_simp
      with_reducible rfl
    rotate_left
    · simp only [Act.put, List.setIfInBounds_toArray, List.set_cons_zero, List.set_cons_succ, i64_w, i32_w]
      rfl
    refine pure_ (i := 6) (N := some 20) (v := ?_) (a' := ?_) #[true, true, true, false, true, true, true, false, false, false, false] rfl rfl (by kernel_rfl) (fun _ _ _ h => h) (Or.inl ⟨by rfl, ?_⟩) ?_ ?_
    rotate_left
    · intro w'
      go_simp
      with_reducible rfl
    rotate_left
    · simp only [Act.put, List.setIfInBounds_toArray, List.set_cons_zero, List.set_cons_succ, i64_w, i32_w]
      rfl
    refine take_ (i := 3) (N := some 17) (v := ?_) (a' := ?_) #[true, true, true, true, true, true, true, false, false, false, false] rfl rfl (by kernel_rfl) (fun _ _ _ h => h) (Or.inl ⟨by rfl, ?_⟩) hHeld ?_ ?_
    rotate_left
    · rintro w' ⟨s0, s1, s2, s3, s4⟩
      go_simp
      with_reducible rfl
    rotate_left
    · simp only [Act.put, List.setIfInBounds_toArray, List.set_cons_zero, List.set_cons_succ, i64_w, i32_w]
      rfl
    refine take_ (i := 7) (N := some 21) (v := ?_) (a' := ?_) #[true, true, true, true, true, true, true, true, false, false, false] rfl rfl (by kernel_rfl) (fun _ _ _ h => h) (Or.inl ⟨by rfl, ?_⟩) hHeld ?_ ?_
    rotate_left
    · rintro w' ⟨s0, s1, s2, s3, s4⟩
      go_simp
      with_reducible rfl
    rotate_left
    · simp only [Act.put, List.setIfInBounds_toArray, List.set_cons_zero, List.set_cons_succ, i64_w, i32_w]
      rfl
    refine pure_ (i := 8) (N := some 22) (v := ?_) (a' := ?_) #[true, true, true, true, true, true, true, true, true, false, false] rfl rfl (by kernel_rfl) (fun _ _ _ h => h) (Or.inl ⟨by rfl, ?_⟩) ?_ ?_
    rotate_left
    · intro w'
      go_simp
      with_reducible rfl
    rotate_left
    · simp only [Act.put, List.setIfInBounds_toArray, List.set_cons_zero, List.set_cons_succ, i64_w, i32_w]
      rfl
    refine pure_ (i := 9) (N := some 23) (v := ?_) (a' := ?_) #[true, true, true, true, true, true, true, true, true, true, false] rfl rfl (by kernel_rfl) (fun _ _ _ h => h) (Or.inl ⟨by rfl, ?_⟩) ?_ ?_
    rotate_left
    · intro w'
      go_simp
      with_reducible rfl
    rotate_left
    · simp only [Act.put, List.setIfInBounds_toArray, List.set_cons_zero, List.set_cons_succ, i64_w, i32_w]
      rfl
    refine pure_ (i := 10) (N := some 13) (v := ?_) (a' := ?_) #[true, true, true, true, true, true, true, true, true, true, true] rfl rfl (by kernel_rfl) (fun _ _ _ h => h) (Or.inl ⟨by rfl, ?_⟩) ?_ ?_
    rotate_left
    · intro w'
      go_simp
      with_reducible rfl
    rotate_left
    · simp only [Act.put, List.setIfInBounds_toArray, List.set_cons_zero, List.set_cons_succ, i64_w, i32_w]
      rfl
    refine done_ (by kernel_rfl) ?_
    obtain ⟨c0_0, c0_1, c0_2, c0_3, c0_4⟩ := HS.out.c5 0 _ _ _ _ _ _ _ rfl
    go_wp2_with (first | ((with_reducible refine gate_store (p := 30) rfl ?_); refine Sl.store_st HS.out 0 g 122 _ rfl 4 (.int .i64 (l0 + 1)) (by rfl) (by rfl) ?hr ?_; (case hr => have f_ := HS.out.free 0 _ _ _ rfl 4; first | (go_simp; done) | (go_simp; rfl)); intro w31_ HSn; replace HS : Hid (St (SL.blk g 122 #[.int .i64 z0, .slice A rg.length c, .int .i64 f0, .int .i64 n0, .int .i64 (l0 + 1)] :: SL.row Kd.string 9 (.slice A rg.length c) rg :: l) w0 w31_) := Go.Lib.hid HSn; clear HSn; clear c0_0 c0_1 c0_2 c0_3 c0_4; obtain ⟨c0_0, c0_1, c0_2, c0_3, c0_4⟩ := HS.out.c5 0 _ _ _ _ _ _ _ rfl))
    go_ret
    exact ⟨rfl, shut_que (q := ⟨z0, rg, f0, n0, l0 + 1⟩) HS.out⟩
  · have hr : send ⟨z0, rg, f0, n0, l0⟩ m = (0, ⟨z0, rg.set (Int.tmod (f0 + n0) rg.length).toNat m, f0, n0 + 1, l0⟩) := by unfold send; rw [if_neg hf, if_neg hz]
    rw [hr]
    have hz' : (n0 == (rg.length : Int)) = false := by simpa using hz
    have hw : wrap64 (n0 + 1) = n0 + 1 := by unfold wrap64; omega
    obtain ⟨b, cap, hv, hle, _, _, _⟩ := hS.putOf (enc := Value.string) ByteArray.empty 1 rfl f0 hi0 hi1
    injection hv with q1 _ q3
    subst q1 q3
    have ht0 : 0 ≤ (Int.tmod (f0 + n0) rg.length) := Int.tmod_nonneg _ (by omega)
    have ht1 : (Int.tmod (f0 + n0) rg.length) < rg.length := Int.tmod_lt_of_pos _ (by omega)
    have HP : Hid (∀ {l : List SL} {w : World}, St (SL.blk g 122 #[.int .i64 z0, .slice (some ⟨b, 0, none⟩) rg.length c, .int .i64 f0, .int .i64 n0, .int .i64 l0] :: SL.row Kd.string 9 (.slice (some ⟨b, 0, none⟩) rg.length c) rg :: l) w0 w → Calls Try.prog 56 #[.pointer (some ⟨g, 0, none⟩), .int .i64 n0] w fun e w' => e = .returned (.int .i64 (Int.tmod (f0 + n0) rg.length)) ∧ w.drew = w') := Go.Lib.hid (fun h => place_raw h n0 hl0 (by omega) (by omega))
    have HS := Go.Lib.hid hS
    clear hS hr hf hz
    generalize (Int.tmod (f0 + n0) rg.length) = t0 at *
    obtain ⟨c0_0, c0_1, c0_2, c0_3, c0_4⟩ := HS.out.c5 0 _ _ _ _ _ _ _ rfl
    go_enter Try.func17, Try.ntmps17
    go_wp2_with (first | (go_at_call 55; refine (fits_st HS.out m z0).mono ?_; rintro e w1_ ⟨rfl, HSn⟩; replace HS : Hid (St (SL.blk g 122 #[.int .i64 z0, .slice (some ⟨b, 0, none⟩) rg.length c, .int .i64 f0, .int .i64 n0, .int .i64 l0] :: SL.row Kd.string 9 (.slice (some ⟨b, 0, none⟩) rg.length c) rg :: l) w0 w1_) := Go.Lib.hid HSn; clear HSn; clear c0_0 c0_1 c0_2 c0_3 c0_4; obtain ⟨c0_0, c0_1, c0_2, c0_3, c0_4⟩ := HS.out.c5 0 _ _ _ _ _ _ _ rfl))
    clear c0_0 c0_1 c0_2 c0_3 c0_4
    replace HS := Go.Lib.hid HS.out.drew
    refine start_ (n := 11) (S := fun w' => w'.cell? ⟨g, 0, none⟩ = some (.int .i64 z0) ∧ w'.cell? ⟨g, 1, none⟩ = some (.slice (some ⟨b, 0, none⟩) rg.length c) ∧ w'.cell? ⟨g, 2, none⟩ = some (.int .i64 f0) ∧ w'.cell? ⟨g, 3, none⟩ = some (.int .i64 n0) ∧ w'.cell? ⟨g, 4, none⟩ = some (.int .i64 l0)) (ds := []) #[false, false, false, false, false, false, false, false, false, false, false] (by kernel_rfl) rfl rfl ⟨HS.out.cell 0 _ _ _ rfl 0, HS.out.cell 0 _ _ _ rfl 1, HS.out.cell 0 _ _ _ rfl 2, HS.out.cell 0 _ _ _ rfl 3, HS.out.cell 0 _ _ _ rfl 4⟩ (fun hHeld => ?_)
    generalize w1_.drew = W_ at *
    refine pure_ (i := 0) (N := some 14) (v := ?_) (a' := ?_) #[true, false, false, false, false, false, false, false, false, false, false] rfl rfl (by kernel_rfl) (fun _ _ _ h => h) (Or.inl ⟨by rfl, ?_⟩) ?_ ?_
    rotate_left
    · intro w'
      go_simp
      with_reducible rfl
    rotate_left
    · simp only [Act.put, List.setIfInBounds_toArray, List.set_cons_zero, List.set_cons_succ, i64_w, i32_w]
      rfl
    refine pure_ (i := 1) (N := some 15) (v := ?_) (a' := ?_) #[true, true, false, false, false, false, false, false, false, false, false] rfl rfl (by kernel_rfl) (fun _ _ _ h => h) (Or.inl ⟨by rfl, ?_⟩) ?_ ?_
    rotate_left
    · intro w'
      go_simp
      with_reducible rfl
    rotate_left
    · simp only [Act.put, List.setIfInBounds_toArray, List.set_cons_zero, List.set_cons_succ, i64_w, i32_w]
      rfl
    refine pure_ (i := 2) (N := some 16) (v := ?_) (a' := ?_) #[true, true, true, false, false, false, false, false, false, false, false] rfl rfl (by kernel_rfl) (fun _ _ _ h => h) (Or.inl ⟨by rfl, ?_⟩) ?_ ?_
    rotate_left
    · intro w'
      go_simp
      with_reducible rfl
    rotate_left
    · simp only [Act.put, List.setIfInBounds_toArray, List.set_cons_zero, List.set_cons_succ, i64_w, i32_w]
      rfl
    refine pure_ (i := 4) (N := some 18) (v := ?_) (a' := ?_) #[true, true, true, false, true, false, false, false, false, false, false] rfl rfl (by kernel_rfl) (fun _ _ _ h => h) (Or.inl ⟨by rfl, ?_⟩) ?_ ?_
    rotate_left
    · intro w'
      go_simp
      with_reducible rfl
    rotate_left
    · simp only [Act.put, List.setIfInBounds_toArray, List.set_cons_zero, List.set_cons_succ, i64_w, i32_w]
      rfl
    refine pure_ (i := 5) (N := some 19) (v := ?_) (a' := ?_) #[true, true, true, false, true, true, false, false, false, false, false] rfl rfl (by kernel_rfl) (fun _ _ _ h => h) (Or.inl ⟨by rfl, ?_⟩) ?_ ?_
    rotate_left
    · intro w'
      go_simp
      with_reducible rfl
    rotate_left
    · simp only [Act.put, List.setIfInBounds_toArray, List.set_cons_zero, List.set_cons_succ, i64_w, i32_w]
      rfl
    refine pure_ (i := 6) (N := some 20) (v := ?_) (a' := ?_) #[true, true, true, false, true, true, true, false, false, false, false] rfl rfl (by kernel_rfl) (fun _ _ _ h => h) (Or.inl ⟨by rfl, ?_⟩) ?_ ?_
    rotate_left
    · intro w'
      go_simp
      with_reducible rfl
    rotate_left
    · simp only [Act.put, List.setIfInBounds_toArray, List.set_cons_zero, List.set_cons_succ, i64_w, i32_w]
      rfl
    refine take_ (i := 3) (N := some 17) (v := ?_) (a' := ?_) #[true, true, true, true, true, true, true, false, false, false, false] rfl rfl (by kernel_rfl) (fun _ _ _ h => h) (Or.inl ⟨by rfl, ?_⟩) hHeld ?_ ?_
    rotate_left
    · rintro w' ⟨s0, s1, s2, s3, s4⟩
      go_simp
      with_reducible rfl
    rotate_left
    · simp only [Act.put, List.setIfInBounds_toArray, List.set_cons_zero, List.set_cons_succ, i64_w, i32_w]
      rfl
    refine take_ (i := 7) (N := some 21) (v := ?_) (a' := ?_) #[true, true, true, true, true, true, true, true, false, false, false] rfl rfl (by kernel_rfl) (fun _ _ _ h => h) (Or.inl ⟨by rfl, ?_⟩) hHeld ?_ ?_
    rotate_left
    · rintro w' ⟨s0, s1, s2, s3, s4⟩
      go_simp
      with_reducible rfl
    rotate_left
    · simp only [Act.put, List.setIfInBounds_toArray, List.set_cons_zero, List.set_cons_succ, i64_w, i32_w]
      rfl
    refine pure_ (i := 8) (N := some 22) (v := ?_) (a' := ?_) #[true, true, true, true, true, true, true, true, true, false, false] rfl rfl (by kernel_rfl) (fun _ _ _ h => h) (Or.inl ⟨by rfl, ?_⟩) ?_ ?_
    rotate_left
    · intro w'
      go_simp
      with_reducible rfl
    rotate_left
    · simp only [Act.put, List.setIfInBounds_toArray, List.set_cons_zero, List.set_cons_succ, i64_w, i32_w]
      rfl
    refine pure_ (i := 9) (N := some 23) (v := ?_) (a' := ?_) #[true, true, true, true, true, true, true, true, true, true, false] rfl rfl (by kernel_rfl) (fun _ _ _ h => h) (Or.inl ⟨by rfl, ?_⟩) ?_ ?_
    rotate_left
    · intro w'
      go_simp
      with_reducible rfl
    rotate_left
    · simp only [Act.put, List.setIfInBounds_toArray, List.set_cons_zero, List.set_cons_succ, i64_w, i32_w]
      rfl
    refine pure_ (i := 10) (N := some 13) (v := ?_) (a' := ?_) #[true, true, true, true, true, true, true, true, true, true, true] rfl rfl (by kernel_rfl) (fun _ _ _ h => h) (Or.inl ⟨by rfl, ?_⟩) ?_ ?_
    rotate_left
    · intro w'
      go_simp
      with_reducible rfl
    rotate_left
    · simp only [Act.put, List.setIfInBounds_toArray, List.set_cons_zero, List.set_cons_succ, i64_w, i32_w]
      rfl
    refine done_ (by kernel_rfl) ?_
    go_wp2_with fail
    replace HS := Go.Lib.hid HS.out.drew
    refine start_ (n := 13) (S := fun w' => w'.cell? ⟨g, 0, none⟩ = some (.int .i64 z0) ∧ w'.cell? ⟨g, 1, none⟩ = some (.slice (some ⟨b, 0, none⟩) rg.length c) ∧ w'.cell? ⟨g, 2, none⟩ = some (.int .i64 f0) ∧ w'.cell? ⟨g, 3, none⟩ = some (.int .i64 n0) ∧ w'.cell? ⟨g, 4, none⟩ = some (.int .i64 l0)) (ds := [12]) #[false, false, false, false, false, false, false, false, false, false, false, false, false] (by kernel_rfl) rfl rfl ⟨HS.out.cell 0 _ _ _ rfl 0, HS.out.cell 0 _ _ _ rfl 1, HS.out.cell 0 _ _ _ rfl 2, HS.out.cell 0 _ _ _ rfl 3, HS.out.cell 0 _ _ _ rfl 4⟩ (fun hHeld => ?_)
    generalize W_.drew = V_ at *
    refine pure_ (i := 0) (N := some 31) (v := ?_) (a' := ?_) #[true, false, false, false, false, false, false, false, false, false, false, false, false] rfl rfl (by kernel_rfl) (fun _ _ _ h => h) (Or.inl ⟨by rfl, ?_⟩) ?_ ?_
    rotate_left
    · intro w'
      go_simp
      with_reducible rfl
    rotate_left
    · simp only [Act.put, List.setIfInBounds_toArray, List.set_cons_zero, List.set_cons_succ, i64_w, i32_w]
      rfl
    refine pure_ (i := 1) (N := some 32) (v := ?_) (a' := ?_) #[true, true, false, false, false, false, false, false, false, false, false, false, false] rfl rfl (by kernel_rfl) (fun _ _ _ h => h) (Or.inl ⟨by rfl, ?_⟩) ?_ ?_
    rotate_left
    · intro w'
      go_simp
      with_reducible rfl
    rotate_left
    · simp only [Act.put, List.setIfInBounds_toArray, List.set_cons_zero, List.set_cons_succ, i64_w, i32_w]
      rfl
    refine pure_ (i := 2) (N := some 33) (v := ?_) (a' := ?_) #[true, true, true, false, false, false, false, false, false, false, false, false, false] rfl rfl (by kernel_rfl) (fun _ _ _ h => h) (Or.inl ⟨by rfl, ?_⟩) ?_ ?_
    rotate_left
    · intro w'
      go_simp
      with_reducible rfl
    rotate_left
    · simp only [Act.put, List.setIfInBounds_toArray, List.set_cons_zero, List.set_cons_succ, i64_w, i32_w]
      rfl
    refine pure_ (i := 4) (N := some 35) (v := ?_) (a' := ?_) #[true, true, true, false, true, false, false, false, false, false, false, false, false] rfl rfl (by kernel_rfl) (fun _ _ _ h => h) (Or.inl ⟨by rfl, ?_⟩) ?_ ?_
    rotate_left
    · intro w'
      go_simp
      with_reducible rfl
    rotate_left
    · simp only [Act.put, List.setIfInBounds_toArray, List.set_cons_zero, List.set_cons_succ, i64_w, i32_w]
      rfl
    refine pure_ (i := 5) (N := some 36) (v := ?_) (a' := ?_) #[true, true, true, false, true, true, false, false, false, false, false, false, false] rfl rfl (by kernel_rfl) (fun _ _ _ h => h) (Or.inl ⟨by rfl, ?_⟩) ?_ ?_
    rotate_left
    · intro w'
      go_simp
      with_reducible rfl
    rotate_left
    · simp only [Act.put, List.setIfInBounds_toArray, List.set_cons_zero, List.set_cons_succ, i64_w, i32_w]
      rfl
    refine pure_ (i := 6) (N := some 37) (v := ?_) (a' := ?_) #[true, true, true, false, true, true, true, false, false, false, false, false, false] rfl rfl (by kernel_rfl) (fun _ _ _ h => h) (Or.inl ⟨by rfl, ?_⟩) ?_ ?_
    rotate_left
    · intro w'
      go_simp
      with_reducible rfl
    rotate_left
    · simp only [Act.put, List.setIfInBounds_toArray, List.set_cons_zero, List.set_cons_succ, i64_w, i32_w]
      rfl
    refine pure_ (i := 7) (N := some 38) (v := ?_) (a' := ?_) #[true, true, true, false, true, true, true, true, false, false, false, false, false] rfl rfl (by kernel_rfl) (fun _ _ _ h => h) (Or.inl ⟨by rfl, ?_⟩) ?_ ?_
    rotate_left
    · intro w'
      go_simp
      with_reducible rfl
    rotate_left
    · simp only [Act.put, List.setIfInBounds_toArray, List.set_cons_zero, List.set_cons_succ, i64_w, i32_w]
      rfl
    refine pure_ (i := 10) (N := some 41) (v := ?_) (a' := ?_) #[true, true, true, false, true, true, true, true, false, false, true, false, false] rfl rfl (by kernel_rfl) (fun _ _ _ h => h) (Or.inl ⟨by rfl, ?_⟩) ?_ ?_
    rotate_left
    · intro w'
      go_simp
      with_reducible rfl
    rotate_left
    · simp only [Act.put, List.setIfInBounds_toArray, List.set_cons_zero, List.set_cons_succ, i64_w, i32_w]
      rfl
    refine take_ (i := 3) (N := some 34) (v := ?_) (a' := ?_) #[true, true, true, true, true, true, true, true, false, false, true, false, false] rfl rfl (by kernel_rfl) (fun _ _ _ h => h) (Or.inl ⟨by rfl, ?_⟩) hHeld ?_ ?_
    rotate_left
    · rintro w' ⟨s0, s1, s2, s3, s4⟩
      go_simp
      with_reducible rfl
    rotate_left
    · simp only [Act.put, List.setIfInBounds_toArray, List.set_cons_zero, List.set_cons_succ, i64_w, i32_w]
      rfl
    refine take_ (i := 8) (N := some 39) (v := ?_) (a' := ?_) #[true, true, true, true, true, true, true, true, true, false, true, false, false] rfl rfl (by kernel_rfl) (fun _ _ _ h => h) (Or.inl ⟨by rfl, ?_⟩) hHeld ?_ ?_
    rotate_left
    · rintro w' ⟨s0, s1, s2, s3, s4⟩
      go_simp
      with_reducible rfl
    rotate_left
    · simp only [Act.put, List.setIfInBounds_toArray, List.set_cons_zero, List.set_cons_succ, i64_w, i32_w]
      rfl
    refine one_ (i := 9) (N := some 40) #[true, true, true, true, true, true, true, true, true, true, true, false, false] rfl rfl (by kernel_rfl) (by decide) (fun K hK => ?_)
    refine goes_ Try.func56 (by kernel_rfl) rfl #[.pointer (some ⟨g, 0, none⟩), .int .i64 n0] (by rfl) rfl rfl (by (try simp only [List.map_toArray, List.map_cons, List.map_nil]); first | done | rfl) ?_
    refine (HP.out HS.out).mono ?_
    rintro e w91 ⟨rfl, hd91⟩
    have hS91 := HS.out.drew
    rw [hd91] at hS91
    have HS91 := Go.Lib.hid hS91
    clear hS91 hd91
    refine ⟨_, rfl, ?_⟩
    refine hK.out _ _ ⟨HS91.out.cell 0 _ _ _ rfl 0, HS91.out.cell 0 _ _ _ rfl 1, HS91.out.cell 0 _ _ _ rfl 2, HS91.out.cell 0 _ _ _ rfl 3, HS91.out.cell 0 _ _ _ rfl 4⟩ (fun hHeld => ?_)
    clear hK K
    refine norm_ (a' := ?_) ?_ ?_
    rotate_left
    · show Act.put _ (some 40) _ = _
      simp only [Act.put, List.setIfInBounds_toArray, List.set_cons_zero, List.set_cons_succ, i64_w, i32_w]
      rfl
    refine pure_ (i := 11) (N := some 42) (v := ?_) (a' := ?_) #[true, true, true, true, true, true, true, true, true, true, true, true, false] rfl rfl (by kernel_rfl) (fun _ _ _ h => h) (Or.inl ⟨by rfl, ?_⟩) ?_ ?_
    rotate_left
    · intro w'
      go_simp
      with_reducible rfl
    rotate_left
    · simp only [Act.put, List.setIfInBounds_toArray, List.set_cons_zero, List.set_cons_succ, i64_w, i32_w]
      rfl
    refine last_ (i := 12) (N := none) #[true, true, true, true, true, true, true, true, true, true, true, true, true] rfl rfl (by kernel_rfl) (by decide) (fun K hK => ?_)
    refine Sl.putOf_stp (enc := Value.string) ByteArray.empty HS91.out 1 rfl t0 ht0 ht1 m (by rfl) rfl ?hr ?_
    case hr => intro b_ cap_ hv_ hc_ hf_; cases hv_; first | (go_simp; done) | (go_simp; rfl)
    intro w12_ HSm
    refine hK.out _ _ ?_
    clear hK K
    refine done_ (by kernel_rfl) ?_
    replace HS := Go.Lib.hid HSm
    clear HSm
    obtain ⟨c0_0, c0_1, c0_2, c0_3, c0_4⟩ := HS.out.c5 0 _ _ _ _ _ _ _ rfl
    go_wp2_with (first | ((with_reducible refine gate_store (p := 49) rfl ?_); refine Sl.store_st HS.out 0 g 122 _ rfl 3 (.int .i64 (n0 + 1)) (by rfl) (by rfl) ?hr ?_; (case hr => have f_ := HS.out.free 0 _ _ _ rfl 3; first | (go_simp; done) | (go_simp; rfl)); intro w41_ HSn; replace HS : Hid (St (SL.blk g 122 #[.int .i64 z0, .slice (some ⟨b, 0, none⟩) rg.length c, .int .i64 f0, .int .i64 (n0 + 1), .int .i64 l0] :: SL.row Kd.string 9 (.slice (some ⟨b, 0, none⟩) rg.length c) (rg.set t0.toNat m) :: l) w0 w41_) := Go.Lib.hid HSn; clear HSn; clear c0_0 c0_1 c0_2 c0_3 c0_4; obtain ⟨c0_0, c0_1, c0_2, c0_3, c0_4⟩ := HS.out.c5 0 _ _ _ _ _ _ _ rfl))
    go_ret
    exact ⟨rfl, shut_raw (by rw [List.length_set]) HS.out⟩
end Go.Proofs.Ytolokohgphdngaa.Que
