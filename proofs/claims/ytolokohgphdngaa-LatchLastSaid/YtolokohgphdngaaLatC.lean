/- A latch in memory. -/
import Derived.Test.YtolokohgphdngaaLatB
namespace Go.Proofs.Ytolokohgphdngaa.Lat
open Go.RowKit Go.Proofs.YtolokohgphdngaaW.PrintWords Go.Proofs.YtolokohgphdngaaW.PrintLast Go.Proofs.YtolokohgphdngaaW.PrintMore Go.Proofs.Ytolokohgphdngaa.Mine Go.Proofs.Ytolokohgphdngaa.PLatchLast
open Go.Proofs.Ytolokohgphdngaa.Sl (SL Stp Chg St No MK look wpc_seal sealed)
set_option linter.unusedVariables false
set_option linter.unusedSimpArgs false
attribute [local go_sem] max2_int min2_int max_two min_two max_three min_three max_four min_four
variable {l : List SL} {w0 w : World} {g : Nat} {s m : List (Int × Bool)} {ps : List S139}
theorem info85 : (Try.prog.info? 85).map (·.size) = some 3 := by kernel_rfl
/-- Rules ahead of what else is owned. -/
abbrev rl (g b8 b9 : Nat) (A : Option Addr) (c : Nat) (s m : List (Int × Bool)) (ps : List S139) : List SL :=
  [SL.blk g 141 #[.map (some b8), .map (some b9), .slice A ps.length c], SL.map KI b8 (mv s), SL.map KI b9 (mv m), SL.row k139 139 (.slice A ps.length c) ps]
theorem new_no (h : St l w0 w) (R : InL l g s m ps) (id : Int) (hid : (Lit.int .i64 id).wf = true) (hs : inS s id = false) :
    Calls Try.prog 29 #[.pointer (some ⟨g, 0, none⟩), .int .i64 id] w fun e w' => e = .returned (.tuple #[.pointer none, .int .i64 10]) ∧ w = w' := by
  have HS := Go.Lib.hid h
  have HI := Go.Lib.hid hid
  have HN := Go.Lib.hid hs
  clear h hid hs
  go_enter Try.func29, Try.ntmps29
  go_wp2_with (go_at_call 61; refine (sched_is HS.out R id HI.out).mono ?_; rintro e w' ⟨rfl, rfl⟩; rw [HN.out])
  go_ret2
  exact ⟨rfl, rfl⟩
theorem new_yes (h : St l w0 w) (R : InL l g s m ps) (id : Int) (hid : (Lit.int .i64 id).wf = true) (hs : inS s id = true) :
    Calls Try.prog 29 #[.pointer (some ⟨g, 0, none⟩), .int .i64 id] w fun e w' => ∃ gl, e = .returned (.tuple #[.pointer (some ⟨gl, 0, none⟩), .int .i64 0]) ∧ St (SL.blk gl 144 #[.pointer (some ⟨g, 0, none⟩), .int .u64 0, .int .i64 id, .int .i64 id] :: l) w0 w' := by
  have HS := Go.Lib.hid h
  have HI := Go.Lib.hid hid
  have HN := Go.Lib.hid hs
  clear h hid hs
  go_enter Try.func29, Try.ntmps29
  go_wp2_with (first | (go_at_call 61; refine (sched_is HS.out R id HI.out).mono ?_; rintro e w' ⟨rfl, rfl⟩; rw [HN.out]) | ((with_reducible refine gate_dst (N := 15) rfl ?_); refine Sl.box_st HS.out (by rfl) (cs := #[.pointer (some ⟨g, 0, none⟩), .int .u64 0, .int .i64 id, .int .i64 id]) (t := 144) ?hr ?_; (case hr => first | (go_simp; done) | (go_simp; rfl)); intro gl w1_ HSn HBn; clear HBn; replace HS : Hid (St (SL.blk gl 144 #[.pointer (some ⟨g, 0, none⟩), .int .u64 0, .int .i64 id, .int .i64 id] :: l) w0 w1_) := Go.Lib.hid HSn; clear HSn; obtain ⟨c0_0, c0_1, c0_2, c0_3⟩ := HS.out.c4 0 _ _ _ _ _ _ rfl))
  go_ret2
  exact ⟨gl, rfl, HS.out⟩
theorem ask_no (h : St l w0 w) (n gl : Nat) (last cur next : Int) (e : l[n]? = some (SL.blk gl 144 #[.pointer (some ⟨g, 0, none⟩), .int .u64 last, .int .i64 cur, .int .i64 next])) (R : InL l g s m ps) (hps : ps.length ≤ 1000000) (caller id : Int) (hi : (Lit.int .i64 caller).wf = true ∧ (Lit.int .i64 cur).wf = true ∧ (Lit.int .i64 id).wf = true) (k : Int) (hk : codeV s m ps caller cur id = k) (h0 : (k == 0) = false) :
    Calls Try.prog 30 #[.pointer (some ⟨gl, 0, none⟩), .int .i64 caller, .int .i64 id] w fun e w' => e = .returned (.int .i64 k) ∧ St l w0 w' := by
  have HS := Go.Lib.hid h.drew
  have HI := Go.Lib.hid hi
  have HE := Go.Lib.hid e
  have HK := Go.Lib.hid hk
  clear h hi e hk
  go_enter Try.func30, Try.ntmps30
  go_upto_region 1 with (fail)
  refine start_ (n := 13) (S := fun w' => w'.cell? ⟨gl, 0, none⟩ = some (.pointer (some ⟨g, 0, none⟩)) ∧ w'.cell? ⟨gl, 1, none⟩ = some (.int .u64 last) ∧ w'.cell? ⟨gl, 2, none⟩ = some (.int .i64 cur) ∧ w'.cell? ⟨gl, 3, none⟩ = some (.int .i64 next)) (ds := []) #[false, false, false, false, false, false, false, false, false, false, false, false, false] (by kernel_rfl) rfl rfl (HS.out.c4 n _ _ _ _ _ _ HE.out) (fun hHeld => ?_)
  generalize w.drew = W_ at *
  refine pure_ (i := 0) (N := some 8) (v := ?_) (a' := ?_) #[true, false, false, false, false, false, false, false, false, false, false, false, false] rfl rfl (by kernel_rfl) (fun _ _ _ h => h) (Or.inl ⟨by rfl, ?_⟩) ?_ ?_
  rotate_left
  · intro w'
    go_simp
    with_reducible rfl
  rotate_left
  · simp only [Act.put, List.setIfInBounds_toArray, List.set_cons_zero, List.set_cons_succ, i64_w, i32_w]
    rfl
  refine pure_ (i := 1) (N := some 9) (v := ?_) (a' := ?_) #[true, true, false, false, false, false, false, false, false, false, false, false, false] rfl rfl (by kernel_rfl) (fun _ _ _ h => h) (Or.inl ⟨by rfl, ?_⟩) ?_ ?_
  rotate_left
  · intro w'
    go_simp
    with_reducible rfl
  rotate_left
  · simp only [Act.put, List.setIfInBounds_toArray, List.set_cons_zero, List.set_cons_succ, i64_w, i32_w]
    rfl
  refine pure_ (i := 2) (N := some 10) (v := ?_) (a' := ?_) #[true, true, true, false, false, false, false, false, false, false, false, false, false] rfl rfl (by kernel_rfl) (fun _ _ _ h => h) (Or.inl ⟨by rfl, ?_⟩) ?_ ?_
  rotate_left
  · intro w'
    go_simp
    with_reducible rfl
  rotate_left
  · simp only [Act.put, List.setIfInBounds_toArray, List.set_cons_zero, List.set_cons_succ, i64_w, i32_w]
    rfl
  refine pure_ (i := 4) (N := some 12) (v := ?_) (a' := ?_) #[true, true, true, false, true, false, false, false, false, false, false, false, false] rfl rfl (by kernel_rfl) (fun _ _ _ h => h) (Or.inl ⟨by rfl, ?_⟩) ?_ ?_
  rotate_left
  · intro w'
    go_simp
    with_reducible rfl
  rotate_left
  · simp only [Act.put, List.setIfInBounds_toArray, List.set_cons_zero, List.set_cons_succ, i64_w, i32_w]
    rfl
  refine pure_ (i := 5) (N := some 13) (v := ?_) (a' := ?_) #[true, true, true, false, true, true, false, false, false, false, false, false, false] rfl rfl (by kernel_rfl) (fun _ _ _ h => h) (Or.inl ⟨by rfl, ?_⟩) ?_ ?_
  rotate_left
  · intro w'
    go_simp
    with_reducible rfl
  rotate_left
  · simp only [Act.put, List.setIfInBounds_toArray, List.set_cons_zero, List.set_cons_succ, i64_w, i32_w]
    rfl
  refine pure_ (i := 6) (N := some 14) (v := ?_) (a' := ?_) #[true, true, true, false, true, true, true, false, false, false, false, false, false] rfl rfl (by kernel_rfl) (fun _ _ _ h => h) (Or.inl ⟨by rfl, ?_⟩) ?_ ?_
  rotate_left
  · intro w'
    go_simp
    with_reducible rfl
  rotate_left
  · simp only [Act.put, List.setIfInBounds_toArray, List.set_cons_zero, List.set_cons_succ, i64_w, i32_w]
    rfl
  refine pure_ (i := 7) (N := some 15) (v := ?_) (a' := ?_) #[true, true, true, false, true, true, true, true, false, false, false, false, false] rfl rfl (by kernel_rfl) (fun _ _ _ h => h) (Or.inl ⟨by rfl, ?_⟩) ?_ ?_
  rotate_left
  · intro w'
    go_simp
    with_reducible rfl
  rotate_left
  · simp only [Act.put, List.setIfInBounds_toArray, List.set_cons_zero, List.set_cons_succ, i64_w, i32_w]
    rfl
  refine pure_ (i := 8) (N := some 16) (v := ?_) (a' := ?_) #[true, true, true, false, true, true, true, true, true, false, false, false, false] rfl rfl (by kernel_rfl) (fun _ _ _ h => h) (Or.inl ⟨by rfl, ?_⟩) ?_ ?_
  rotate_left
  · intro w'
    go_simp
    with_reducible rfl
  rotate_left
  · simp only [Act.put, List.setIfInBounds_toArray, List.set_cons_zero, List.set_cons_succ, i64_w, i32_w]
    rfl
  refine pure_ (i := 10) (N := some 18) (v := ?_) (a' := ?_) #[true, true, true, false, true, true, true, true, true, false, true, false, false] rfl rfl (by kernel_rfl) (fun _ _ _ h => h) (Or.inl ⟨by rfl, ?_⟩) ?_ ?_
  rotate_left
  · intro w'
    go_simp
    with_reducible rfl
  rotate_left
  · simp only [Act.put, List.setIfInBounds_toArray, List.set_cons_zero, List.set_cons_succ, i64_w, i32_w]
    rfl
  refine take_ (i := 3) (N := some 11) (v := ?_) (a' := ?_) #[true, true, true, true, true, true, true, true, true, false, true, false, false] rfl rfl (by kernel_rfl) (fun _ _ _ h => h) (Or.inl ⟨by rfl, ?_⟩) hHeld ?_ ?_
  rotate_left
  · rintro w' ⟨s0, s1, s2, s3⟩
    go_simp
    with_reducible rfl
  rotate_left
  · simp only [Act.put, List.setIfInBounds_toArray, List.set_cons_zero, List.set_cons_succ, i64_w, i32_w]
    rfl
  refine take_ (i := 9) (N := some 17) (v := ?_) (a' := ?_) #[true, true, true, true, true, true, true, true, true, true, true, false, false] rfl rfl (by kernel_rfl) (fun _ _ _ h => h) (Or.inl ⟨by rfl, ?_⟩) hHeld ?_ ?_
  rotate_left
  · rintro w' ⟨s0, s1, s2, s3⟩
    go_simp
    with_reducible rfl
  rotate_left
  · simp only [Act.put, List.setIfInBounds_toArray, List.set_cons_zero, List.set_cons_succ, i64_w, i32_w]
    rfl
  refine one_ (i := 11) (N := some 19) #[true, true, true, true, true, true, true, true, true, true, true, true, false] rfl rfl (by kernel_rfl) (by decide) (fun K hK => ?_)
  refine goes_ Try.func58 (by kernel_rfl) rfl #[.pointer (some ⟨g, 0, none⟩), .int .i64 caller, .int .i64 cur, .int .i64 id] (by rfl) rfl rfl (by (try simp only [List.map_toArray, List.map_cons, List.map_nil]); first | done | rfl) ?_
  refine (code_st HS.out R hps caller cur id HI.out).mono ?_
  rintro e w9 ⟨rfl, hSm⟩
  rw [HK.out]
  have HSm := Go.Lib.hid hSm
  clear hSm
  refine ⟨_, rfl, ?_⟩
  refine hK.out _ _ (HSm.out.c4 n _ _ _ _ _ _ HE.out) (fun hHeld => ?_)
  clear hK K
  refine norm_ (a' := ?_) ?_ ?_
  rotate_left
  · show Act.put _ (some 19) _ = _
    simp only [Act.put, List.setIfInBounds_toArray, List.set_cons_zero, List.set_cons_succ, i64_w, i32_w]
    rfl
  refine pure_ (i := 12) (N := some 7) (v := ?_) (a' := ?_) #[true, true, true, true, true, true, true, true, true, true, true, true, true] rfl rfl (by kernel_rfl) (fun _ _ _ h => h) (Or.inl ⟨by rfl, ?_⟩) ?_ ?_
  rotate_left
  · intro w'
    go_simp
    with_reducible rfl
  rotate_left
  · simp only [Act.put, List.setIfInBounds_toArray, List.set_cons_zero, List.set_cons_succ, i64_w, i32_w]
    rfl
  refine done_ (by kernel_rfl) ?_
  replace HS := HSm
  clear HSm
  obtain ⟨c0_0, c0_1, c0_2, c0_3⟩ := HS.out.c4 n _ _ _ _ _ _ HE.out
  go_wp2_with fail
  go_ret
  exact ⟨rfl, HS.out⟩
theorem ask_ok (h : St l w0 w) (n gl : Nat) (last cur next : Int) (e : l[n]? = some (SL.blk gl 144 #[.pointer (some ⟨g, 0, none⟩), .int .u64 last, .int .i64 cur, .int .i64 next])) (R : InL l g s m ps) (hps : ps.length ≤ 1000000) (caller id : Int) (hi : (Lit.int .i64 caller).wf = true ∧ (Lit.int .i64 cur).wf = true ∧ (Lit.int .i64 id).wf = true) (k : Int) (hk : codeV s m ps caller cur id = k) (h0 : (k == 0) = true) :
    Calls Try.prog 30 #[.pointer (some ⟨gl, 0, none⟩), .int .i64 caller, .int .i64 id] w fun e w' => e = .returned (.int .i64 k) ∧ St (l.set n (SL.blk gl 144 #[.pointer (some ⟨g, 0, none⟩), .int .u64 last, .int .i64 cur, .int .i64 id])) w0 w' := by
  have HS := Go.Lib.hid h.drew
  have HI := Go.Lib.hid hi
  have HE := Go.Lib.hid e
  have HK := Go.Lib.hid hk
  clear h hi e hk
  go_enter Try.func30, Try.ntmps30
  go_upto_region 1 with (fail)
  refine start_ (n := 13) (S := fun w' => w'.cell? ⟨gl, 0, none⟩ = some (.pointer (some ⟨g, 0, none⟩)) ∧ w'.cell? ⟨gl, 1, none⟩ = some (.int .u64 last) ∧ w'.cell? ⟨gl, 2, none⟩ = some (.int .i64 cur) ∧ w'.cell? ⟨gl, 3, none⟩ = some (.int .i64 next)) (ds := []) #[false, false, false, false, false, false, false, false, false, false, false, false, false] (by kernel_rfl) rfl rfl (HS.out.c4 n _ _ _ _ _ _ HE.out) (fun hHeld => ?_)
  generalize w.drew = W_ at *
  refine pure_ (i := 0) (N := some 8) (v := ?_) (a' := ?_) #[true, false, false, false, false, false, false, false, false, false, false, false, false] rfl rfl (by kernel_rfl) (fun _ _ _ h => h) (Or.inl ⟨by rfl, ?_⟩) ?_ ?_
  rotate_left
  · intro w'
    go_simp
    with_reducible rfl
  rotate_left
  · simp only [Act.put, List.setIfInBounds_toArray, List.set_cons_zero, List.set_cons_succ, i64_w, i32_w]
    rfl
  refine pure_ (i := 1) (N := some 9) (v := ?_) (a' := ?_) #[true, true, false, false, false, false, false, false, false, false, false, false, false] rfl rfl (by kernel_rfl) (fun _ _ _ h => h) (Or.inl ⟨by rfl, ?_⟩) ?_ ?_
  rotate_left
  · intro w'
    go_simp
    with_reducible rfl
  rotate_left
  · simp only [Act.put, List.setIfInBounds_toArray, List.set_cons_zero, List.set_cons_succ, i64_w, i32_w]
    rfl
  refine pure_ (i := 2) (N := some 10) (v := ?_) (a' := ?_) #[true, true, true, false, false, false, false, false, false, false, false, false, false] rfl rfl (by kernel_rfl) (fun _ _ _ h => h) (Or.inl ⟨by rfl, ?_⟩) ?_ ?_
  rotate_left
  · intro w'
    go_simp
    with_reducible rfl
  rotate_left
  · simp only [Act.put, List.setIfInBounds_toArray, List.set_cons_zero, List.set_cons_succ, i64_w, i32_w]
    rfl
  refine pure_ (i := 4) (N := some 12) (v := ?_) (a' := ?_) #[true, true, true, false, true, false, false, false, false, false, false, false, false] rfl rfl (by kernel_rfl) (fun _ _ _ h => h) (Or.inl ⟨by rfl, ?_⟩) ?_ ?_
  rotate_left
  · intro w'
    go_simp
    with_reducible rfl
  rotate_left
  · simp only [Act.put, List.setIfInBounds_toArray, List.set_cons_zero, List.set_cons_succ, i64_w, i32_w]
    rfl
  refine pure_ (i := 5) (N := some 13) (v := ?_) (a' := ?_) #[true, true, true, false, true, true, false, false, false, false, false, false, false] rfl rfl (by kernel_rfl) (fun _ _ _ h => h) (Or.inl ⟨by rfl, ?_⟩) ?_ ?_
  rotate_left
  · intro w'
    go_simp
    with_reducible rfl
  rotate_left
  · simp only [Act.put, List.setIfInBounds_toArray, List.set_cons_zero, List.set_cons_succ, i64_w, i32_w]
    rfl
  refine pure_ (i := 6) (N := some 14) (v := ?_) (a' := ?_) #[true, true, true, false, true, true, true, false, false, false, false, false, false] rfl rfl (by kernel_rfl) (fun _ _ _ h => h) (Or.inl ⟨by rfl, ?_⟩) ?_ ?_
  rotate_left
  · intro w'
    go_simp
    with_reducible rfl
  rotate_left
  · simp only [Act.put, List.setIfInBounds_toArray, List.set_cons_zero, List.set_cons_succ, i64_w, i32_w]
    rfl
  refine pure_ (i := 7) (N := some 15) (v := ?_) (a' := ?_) #[true, true, true, false, true, true, true, true, false, false, false, false, false] rfl rfl (by kernel_rfl) (fun _ _ _ h => h) (Or.inl ⟨by rfl, ?_⟩) ?_ ?_
  rotate_left
  · intro w'
    go_simp
    with_reducible rfl
  rotate_left
  · simp only [Act.put, List.setIfInBounds_toArray, List.set_cons_zero, List.set_cons_succ, i64_w, i32_w]
    rfl
  refine pure_ (i := 8) (N := some 16) (v := ?_) (a' := ?_) #[true, true, true, false, true, true, true, true, true, false, false, false, false] rfl rfl (by kernel_rfl) (fun _ _ _ h => h) (Or.inl ⟨by rfl, ?_⟩) ?_ ?_
  rotate_left
  · intro w'
    go_simp
    with_reducible rfl
  rotate_left
  · simp only [Act.put, List.setIfInBounds_toArray, List.set_cons_zero, List.set_cons_succ, i64_w, i32_w]
    rfl
  refine pure_ (i := 10) (N := some 18) (v := ?_) (a' := ?_) #[true, true, true, false, true, true, true, true, true, false, true, false, false] rfl rfl (by kernel_rfl) (fun _ _ _ h => h) (Or.inl ⟨by rfl, ?_⟩) ?_ ?_
  rotate_left
  · intro w'
    go_simp
    with_reducible rfl
  rotate_left
  · simp only [Act.put, List.setIfInBounds_toArray, List.set_cons_zero, List.set_cons_succ, i64_w, i32_w]
    rfl
  refine take_ (i := 3) (N := some 11) (v := ?_) (a' := ?_) #[true, true, true, true, true, true, true, true, true, false, true, false, false] rfl rfl (by kernel_rfl) (fun _ _ _ h => h) (Or.inl ⟨by rfl, ?_⟩) hHeld ?_ ?_
  rotate_left
  · rintro w' ⟨s0, s1, s2, s3⟩
    go_simp
    with_reducible rfl
  rotate_left
  · simp only [Act.put, List.setIfInBounds_toArray, List.set_cons_zero, List.set_cons_succ, i64_w, i32_w]
    rfl
  refine take_ (i := 9) (N := some 17) (v := ?_) (a' := ?_) #[true, true, true, true, true, true, true, true, true, true, true, false, false] rfl rfl (by kernel_rfl) (fun _ _ _ h => h) (Or.inl ⟨by rfl, ?_⟩) hHeld ?_ ?_
  rotate_left
  · rintro w' ⟨s0, s1, s2, s3⟩
    go_simp
    with_reducible rfl
  rotate_left
  · simp only [Act.put, List.setIfInBounds_toArray, List.set_cons_zero, List.set_cons_succ, i64_w, i32_w]
    rfl
  refine one_ (i := 11) (N := some 19) #[true, true, true, true, true, true, true, true, true, true, true, true, false] rfl rfl (by kernel_rfl) (by decide) (fun K hK => ?_)
  refine goes_ Try.func58 (by kernel_rfl) rfl #[.pointer (some ⟨g, 0, none⟩), .int .i64 caller, .int .i64 cur, .int .i64 id] (by rfl) rfl rfl (by (try simp only [List.map_toArray, List.map_cons, List.map_nil]); first | done | rfl) ?_
  refine (code_st HS.out R hps caller cur id HI.out).mono ?_
  rintro e w9 ⟨rfl, hSm⟩
  rw [HK.out]
  have HSm := Go.Lib.hid hSm
  clear hSm
  refine ⟨_, rfl, ?_⟩
  refine hK.out _ _ (HSm.out.c4 n _ _ _ _ _ _ HE.out) (fun hHeld => ?_)
  clear hK K
  refine norm_ (a' := ?_) ?_ ?_
  rotate_left
  · show Act.put _ (some 19) _ = _
    simp only [Act.put, List.setIfInBounds_toArray, List.set_cons_zero, List.set_cons_succ, i64_w, i32_w]
    rfl
  refine pure_ (i := 12) (N := some 7) (v := ?_) (a' := ?_) #[true, true, true, true, true, true, true, true, true, true, true, true, true] rfl rfl (by kernel_rfl) (fun _ _ _ h => h) (Or.inl ⟨by rfl, ?_⟩) ?_ ?_
  rotate_left
  · intro w'
    go_simp
    with_reducible rfl
  rotate_left
  · simp only [Act.put, List.setIfInBounds_toArray, List.set_cons_zero, List.set_cons_succ, i64_w, i32_w]
    rfl
  refine done_ (by kernel_rfl) ?_
  replace HS := HSm
  clear HSm
  obtain ⟨c0_0, c0_1, c0_2, c0_3⟩ := HS.out.c4 n _ _ _ _ _ _ HE.out
  go_wp2_with ((with_reducible refine gate_store (p := 26) rfl ?_); refine Sl.store_st HS.out n gl 144 _ HE.out 3 (.int .i64 id) (by rfl) (by rfl) ?hr ?_; (case hr => have f_ := HS.out.free n _ _ _ HE.out 3; first | (go_simp; done) | (go_simp; rfl)); intro w91_ HSn; replace HS := Go.Lib.hid HSn; clear HSn c0_0 c0_1 c0_2 c0_3)
  go_ret
  exact ⟨rfl, HS.out⟩
theorem status_st (h : St l w0 w) (n gl : Nat) (last cur next : Int) (e : l[n]? = some (SL.blk gl 144 #[.pointer (some ⟨g, 0, none⟩), .int .u64 last, .int .i64 cur, .int .i64 next])) :
    Calls Try.prog 31 #[.pointer (some ⟨gl, 0, none⟩)] w fun e w' => e = .returned (.agg #[.int .u64 last, .int .i64 cur, .int .i64 next]) ∧ St l w0 w' := by
  have HS := Go.Lib.hid h
  have HE := Go.Lib.hid e
  obtain ⟨d0_0, d0_1, d0_2, d0_3⟩ := h.c4 n _ _ _ _ _ _ e
  have hlt : n < l.length := (List.getElem?_eq_some_iff.1 e).1
  clear h e
  go_enter Try.func31, Try.ntmps31
  go_wp2_with (first | ((with_reducible refine gate_dst (N := 2) rfl ?_); refine Sl.box_st HS.out (by rfl) (cs := #[.int .u64 0, .int .i64 0, .int .i64 0]) (t := 85) ?hr ?_; (case hr => first | (go_simp; done) | (go_simp; rfl)); intro g2 w1_ HSn HBn; clear HBn; clear d0_0 d0_1 d0_2 d0_3; obtain ⟨d0_0, d0_1, d0_2, d0_3⟩ := HSn.c4 (n + 1) _ _ _ _ _ _ (by simpa using HE.out); replace HS : Hid (St (SL.blk g2 85 #[.int .u64 0, .int .i64 0, .int .i64 0] :: l) w0 w1_) := Go.Lib.hid HSn; clear HSn; obtain ⟨c0_0, c0_1, c0_2⟩ := HS.out.c3 0 _ _ _ _ _ rfl) | ((with_reducible refine gate_store (p := 2) rfl ?_); refine Sl.storeAll_st HS.out 0 g2 85 _ rfl [.int .u64 last, .int .i64 cur, .int .i64 next] rfl (by rfl) (by rfl) ?hr ?_; (case hr => have f_ := HS.out.f3 0 _ _ _ _ _ rfl; (try obtain ⟨f0, f1, f2⟩ := f_); first | (go_simp; done) | (go_simp; rfl)); intro w2_ HSn; replace HS : Hid (St (SL.blk g2 85 #[.int .u64 last, .int .i64 cur, .int .i64 next] :: l) w0 w2_) := Go.Lib.hid HSn; clear HSn; clear c0_0 c0_1 c0_2; obtain ⟨c0_0, c0_1, c0_2⟩ := HS.out.c3 0 _ _ _ _ _ rfl))
  refine bodyPost_ret (v := .agg #[.int .u64 last, .int .i64 cur, .int .i64 next]) (results_cell_row (by rfl) _ _ g2 85 _ (0, 0) _ (by rfl) (HS.out.heap 0 _ _ _ rfl) Try.underlying85 rfl info85) rfl ⟨rfl, HS.out.drop⟩
theorem bound_no (h : St l w0 w) (n gl : Nat) (last cur next now : Int) (e : l[n]? = some (SL.blk gl 144 #[.pointer (some ⟨g, 0, none⟩), .int .u64 last, .int .i64 cur, .int .i64 next]))  (hv : (next != cur) = false) :
    Calls Try.prog 32 #[.pointer (some ⟨gl, 0, none⟩), .int .u64 now] w fun e w' => e = .returned (.bool false) ∧ St l w0 w' := by
  have HS := Go.Lib.hid h
  have HE := Go.Lib.hid e
  have HV := Go.Lib.hid hv
  obtain ⟨c0_0, c0_1, c0_2, c0_3⟩ := h.c4 n _ _ _ _ _ _ e
  clear h e hv
  go_enter Try.func32, Try.ntmps32
  go_wp2_with (go_at_call 62; refine (status_Pending.calls last cur next (next != cur) _ rfl).mono ?_; rintro e w1 ⟨rfl, hB⟩; rw [HV.out]; replace HS := Go.Lib.hid (HS.out.then_ hB); clear hB c0_0 c0_1 c0_2 c0_3; obtain ⟨c0_0, c0_1, c0_2, c0_3⟩ := HS.out.c4 n _ _ _ _ _ _ HE.out)
  go_ret
  exact ⟨rfl, HS.out⟩
theorem bound_yes (h : St l w0 w) (n gl : Nat) (last cur next now : Int) (e : l[n]? = some (SL.blk gl 144 #[.pointer (some ⟨g, 0, none⟩), .int .u64 last, .int .i64 cur, .int .i64 next]))  (hv : (next != cur) = true) :
    Calls Try.prog 32 #[.pointer (some ⟨gl, 0, none⟩), .int .u64 now] w fun e w' => e = .returned (.bool true) ∧ St (l.set n (SL.blk gl 144 #[.pointer (some ⟨g, 0, none⟩), .int .u64 now, .int .i64 next, .int .i64 next])) w0 w' := by
  have hlt : n < l.length := (List.getElem?_eq_some_iff.1 e).1
  have HS := Go.Lib.hid h
  have HE := Go.Lib.hid e
  have HV := Go.Lib.hid hv
  obtain ⟨c0_0, c0_1, c0_2, c0_3⟩ := h.c4 n _ _ _ _ _ _ e
  clear h e hv
  go_enter Try.func32, Try.ntmps32
  go_wp2_with (first | (go_at_call 62; refine (status_Pending.calls last cur next (next != cur) _ rfl).mono ?_; rintro e w1 ⟨rfl, hB⟩; rw [HV.out]; replace HS := Go.Lib.hid (HS.out.then_ hB); clear hB c0_0 c0_1 c0_2 c0_3; obtain ⟨c0_0, c0_1, c0_2, c0_3⟩ := HS.out.c4 n _ _ _ _ _ _ HE.out) | ((with_reducible refine gate_store (p := 21) rfl ?_); refine Sl.store_st HS.out n gl 144 _ HE.out 2 (.int .i64 next) (by rfl) (by rfl) ?hr ?_; (case hr => have f_ := HS.out.free n _ _ _ HE.out 2; first | (go_simp; done) | (go_simp; rfl)); intro w2_ HSn; have HE2 : (l.set n (SL.blk gl 144 #[.pointer (some ⟨g, 0, none⟩), .int .u64 last, .int .i64 next, .int .i64 next]))[n]? = some (SL.blk gl 144 #[.pointer (some ⟨g, 0, none⟩), .int .u64 last, .int .i64 next, .int .i64 next]) := List.getElem?_set_self (by (try rw [List.length_set]); exact hlt); replace HS := Go.Lib.hid HSn; replace HE := Go.Lib.hid HE2; clear HSn HE2 c0_0 c0_1 c0_2 c0_3; obtain ⟨c0_0, c0_1, c0_2, c0_3⟩ := HS.out.c4 n _ _ _ _ _ _ HE.out) | ((with_reducible refine gate_store (p := 24) rfl ?_); refine Sl.store_st HS.out n gl 144 _ HE.out 1 (.int .u64 now) (by rfl) (by rfl) ?hr ?_; (case hr => have f_ := HS.out.free n _ _ _ HE.out 1; first | (go_simp; done) | (go_simp; rfl)); intro w3_ HSn; have HE2 : ((l.set n (SL.blk gl 144 #[.pointer (some ⟨g, 0, none⟩), .int .u64 last, .int .i64 next, .int .i64 next])).set n (SL.blk gl 144 #[.pointer (some ⟨g, 0, none⟩), .int .u64 now, .int .i64 next, .int .i64 next]))[n]? = some (SL.blk gl 144 #[.pointer (some ⟨g, 0, none⟩), .int .u64 now, .int .i64 next, .int .i64 next]) := List.getElem?_set_self (by (try rw [List.length_set]); exact hlt); replace HS := Go.Lib.hid HSn; replace HE := Go.Lib.hid HE2; clear HSn HE2 c0_0 c0_1 c0_2 c0_3; obtain ⟨c0_0, c0_1, c0_2, c0_3⟩ := HS.out.c4 n _ _ _ _ _ _ HE.out))
  go_ret
  exact ⟨rfl, by have h9 := HS.out; rw [List.set_set] at h9; exact h9⟩
theorem awake_st (h : St l w0 w) (h00 : w0.heap.size ≤ w.heap.size) : Calls Try.prog 27 #[] w fun e w' => e = .returned (.bool true) ∧ St l w0 w' := by
  have HS := Go.Lib.hid h
  clear h
  have nil2 : ∀ w : World, Kd.C k130 w none ([] : List S130).length [] := fun w => ⟨rfl, by simp, fun h => absurd h (by simp)⟩
  have N2 := Go.Lib.hid nil2
  clear nil2
  have nil3 : ∀ w : World, Kd.C k134 w none ([] : List S134).length [] := fun w => ⟨rfl, by simp, fun h => absurd h (by simp)⟩
  have N3 := Go.Lib.hid nil3
  clear nil3
  have nil4 : ∀ w : World, Kd.C k139 w none ([] : List S139).length [] := fun w => ⟨rfl, by simp, fun h => absurd h (by simp)⟩
  have N4 := Go.Lib.hid nil4
  clear nil4
  have nil5 : ∀ w : World, Kd.C k190 w none ([] : List S190).length [] := fun w => ⟨rfl, by simp, fun h => absurd h (by simp)⟩
  have N5 := Go.Lib.hid nil5
  clear nil5
  go_enter Try.func27, Try.ntmps27
  go_wp2_with fail
  refine (of_st HS.out h00 0 0 none 0 [] none 0 [] none 0 [] none 0 [] (N2.out _) (by simp) (N3.out _) (by simp) (N4.out _) (by simp) (N5.out _) (by simp) (by simp) (by simp) (by simp) (by simp) (by simp) (by simp)).mono ?_
  rintro e w1 ⟨g, b8, b9, A, c, s, m, rfl, hsi, hS⟩
  have hs0 : inS s 0 = false := by
    cases h : inS s 0 with
    | false => rfl
    | true => have := (hsi 0).1 h; simp at this
  have hk : codeV s m [] 0 0 0 = 3 := by unfold codeV; rw [if_pos hs0]
  have HK := Go.Lib.hid hk
  replace HS := Go.Lib.hid hS
  clear hsi hs0 hk hS
  go_wp2_with fail
  refine (code_st HS.out ⟨0, 1, 2, 3, b8, b9, A, c, rfl, rfl, rfl, rfl⟩ (by simp) 0 0 0 ⟨by decide, by decide, by decide⟩).mono ?_
  rintro e w2 ⟨rfl, hS⟩
  rw [HK.out]
  replace HS := Go.Lib.hid hS
  clear hS
  go_wp2_with fail
  go_ret
  exact ⟨rfl, HS.out.drop.drop.drop.drop⟩
end Go.Proofs.Ytolokohgphdngaa.Lat
