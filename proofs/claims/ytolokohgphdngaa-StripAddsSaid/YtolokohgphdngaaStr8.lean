/- Whose a tick is. -/
import Derived.Test.YtolokohgphdngaaStr7
namespace Go.Proofs.Ytolokohgphdngaa.Str
open Go.RowKit Go.Proofs.YtolokohgphdngaaW.PrintWords Go.Proofs.YtolokohgphdngaaW.PrintLast Go.Proofs.YtolokohgphdngaaW.PrintMore Go.Proofs.Ytolokohgphdngaa.Mine Go.Proofs.Ytolokohgphdngaa.PStripAdds
open Go.Proofs.Ytolokohgphdngaa.Sl (SL Stp Chg St No)
set_option linter.unusedVariables false
set_option linter.unusedSimpArgs false
attribute [local go_sem] max2_int min2_int max_two min_two max_three min_three max_four min_four
variable {l : List SL} {w0 w : World} {g : Nat} {rs : List S95}
/-- Whose a tick is. -/
def atR (rs : List S95) (x : Int) : Int × Bool := if x < 0 ∨ total rs ≤ x then (-1, false) else ((rd_T95 rs (idxR rs x : Int)).f0, true)
variable {A B : Option Addr} {ad : Addr} {c d : Nat} {x : Int}
theorem elem_at (h : St (SL.blk g 147 #[.slice (some ad) rs.length c, .slice B (ends rs).length d] :: SL.row k95 95 (.slice (some ad) rs.length c) rs :: SL.row (Kd.int .i64) 3 (.slice B (ends rs).length d) (ends rs) :: l) w0 w) (m : Nat) (hm : m < rs.length) : w.cell? (ad.add (m * 2)) = some (.int .i64 (rd_T95 rs (m : Int)).f0) := by
  obtain ⟨_, _, hv, _, hC⟩ := h.rowC 1 rfl
  injection hv with q1 _ q3
  subst q1 q3
  obtain ⟨ad', he, g0, _⟩ := at_T95 hC (m : Int) (by omega) (by omega)
  injection he with he
  subst he
  rw [Int.toNat_natCast] at g0
  exact g0
theorem row_to (h : St (SL.blk g 147 #[.slice A rs.length c, .slice B (ends rs).length d] :: SL.row k95 95 (.slice A rs.length c) rs :: SL.row (Kd.int .i64) 3 (.slice B (ends rs).length d) (ends rs) :: l) w0 w) (hk : Oks rs) {m : Nat} (hm : idxR rs x = m) : Calls Try.prog 63 #[.pointer (some ⟨g, 0, none⟩), .int .i64 x] w fun e w' => e = .returned (.int .i64 (m : Int)) ∧ St (SL.blk g 147 #[.slice A rs.length c, .slice B (ends rs).length d] :: SL.row k95 95 (.slice A rs.length c) rs :: SL.row (Kd.int .i64) 3 (.slice B (ends rs).length d) (ends rs) :: l) w0 w' := by
  rw [← hm]
  exact row_raw h hk
theorem idx_lt (hk : Oks rs) {x : Int} (hx : x < total rs) (hx0 : 0 ≤ x) : idxR rs x < rs.length := by
  rcases Nat.lt_or_ge (idxR rs x) rs.length with h | h
  · exact h
  · exfalso
    have hne : rs ≠ [] := by intro e; subst e; simp [total] at hx; omega
    have hl := List.length_pos_iff.2 hne
    have := idx_lo rs x (rs.length - 1) (by omega)
    rw [endAt_is rs _ (by omega), show rs.length - 1 + 1 = rs.length by omega, List.take_length] at this
    exact this hx
set_option maxHeartbeats 6400000 in
set_option maxRecDepth 100000 in
theorem at_hd (h : St (stp g rs :: l) w0 w) (hk : Oks rs) : Calls Try.prog 38 #[.pointer (some ⟨g, 0, none⟩), .int .i64 x] w fun e w' => e = .returned (.tuple #[.int .i64 (atR rs x).1, .bool (atR rs x).2]) ∧ St (stp g rs :: l) w0 w' := by
  unfold atR
  obtain ⟨A, c, B, d, hS⟩ := open_stp h
  clear h
  have ht0 := hk.t0
  have ht1 := hk.top
  by_cases c1 : x < 0
  · have HS := Go.Lib.hid hS
    clear hS
    rw [if_pos (.inl c1)]
    have d0 : decide (x < 0) = true := by simpa using c1
    clear c1
    go_enter Try.func38, Try.ntmps38
    go_wp2_with fail
    go_ret2
    exact ⟨rfl, shut_stp HS.out⟩
  have d0 : decide (x < 0) = false := by simpa using c1
  by_cases c2 : total rs ≤ x
  · have HS := Go.Lib.hid hS
    clear hS
    rw [if_pos (.inr c2)]
    have d1 : decide (total rs ≤ x) = true := by simpa using c2
    clear c1 c2
    go_enter Try.func38, Try.ntmps38
    go_wp2_with (go_at_call 45; refine (len_raw HS.out hk).mono ?_; rintro e w91 ⟨rfl, hD⟩; replace HS := Go.Lib.hid (HS.out.drawn hD); clear hD)
    go_ret2
    exact ⟨rfl, shut_stp HS.out⟩
  · rw [if_neg (by omega)]
    have d1 : decide (total rs ≤ x) = false := by simpa using c2
    have hix := idx_lt hk (x := x) (by omega) (by omega)
    obtain ⟨m, hm⟩ : ∃ m, idxR rs x = m := ⟨_, rfl⟩
    rw [hm] at hix ⊢
    have hmr : m < rs.length := hix
    have p0 : (0 ≤ (m : Int)) = True := eq_true (by omega)
    have p1 : ((m : Int) < (rs.length : Int)) = True := eq_true (by omega)
    obtain ⟨_, _, hv, _, hC⟩ := hS.rowC 1 rfl
    injection hv with q1 _ q3
    subst q1 q3
    obtain ⟨ad, rfl, _⟩ := at_T95 hC (m : Int) (by omega) (by omega)
    have HS := Go.Lib.hid hS
    clear hS hC c1 c2 hix
    go_enter Try.func38, Try.ntmps38
    go_upto_region 3 with (go_at_call 45; refine (len_raw HS.out hk).mono ?_; rintro e w91 ⟨rfl, hD⟩; replace HS := Go.Lib.hid (HS.out.drawn hD); clear hD)
    replace HS := Go.Lib.hid HS.out.drew
    refine start_ (n := 12) (S := fun w' => w'.cell? ⟨g, 0, none⟩ = some (.slice (some ad) rs.length c) ∧ w'.cell? (ad.add (m * 2)) = some (.int .i64 (rd_T95 rs (m : Int)).f0)) (ds := []) #[false, false, false, false, false, false, false, false, false, false, false, false] (by kernel_rfl) rfl rfl ⟨(HS.out.c2 0 _ _ _ _ rfl).1, elem_at HS.out m hmr⟩ (fun hHeld => ?_)
    generalize w91.drew = W_ at *
    refine pure_ (i := 0) (N := some 14) (v := ?_) (a' := ?_) #[true, false, false, false, false, false, false, false, false, false, false, false] rfl rfl (by kernel_rfl) (fun _ _ _ h => h) (Or.inl ⟨by rfl, ?_⟩) ?_ ?_
    rotate_left
    · intro w'
      go_simp
      with_reducible rfl
    rotate_left
    · simp only [Act.put, List.setIfInBounds_toArray, List.set_cons_zero, List.set_cons_succ, i64_w, i32_w]
      rfl
    refine pure_ (i := 1) (N := some 15) (v := ?_) (a' := ?_) #[true, true, false, false, false, false, false, false, false, false, false, false] rfl rfl (by kernel_rfl) (fun _ _ _ h => h) (Or.inl ⟨by rfl, ?_⟩) ?_ ?_
    rotate_left
    · intro w'
      go_simp
      with_reducible rfl
    rotate_left
    · simp only [Act.put, List.setIfInBounds_toArray, List.set_cons_zero, List.set_cons_succ, i64_w, i32_w]
      rfl
    refine pure_ (i := 2) (N := some 16) (v := ?_) (a' := ?_) #[true, true, true, false, false, false, false, false, false, false, false, false] rfl rfl (by kernel_rfl) (fun _ _ _ h => h) (Or.inl ⟨by rfl, ?_⟩) ?_ ?_
    rotate_left
    · intro w'
      go_simp
      with_reducible rfl
    rotate_left
    · simp only [Act.put, List.setIfInBounds_toArray, List.set_cons_zero, List.set_cons_succ, i64_w, i32_w]
      rfl
    refine pure_ (i := 4) (N := some 18) (v := ?_) (a' := ?_) #[true, true, true, false, true, false, false, false, false, false, false, false] rfl rfl (by kernel_rfl) (fun _ _ _ h => h) (Or.inl ⟨by rfl, ?_⟩) ?_ ?_
    rotate_left
    · intro w'
      go_simp
      with_reducible rfl
    rotate_left
    · simp only [Act.put, List.setIfInBounds_toArray, List.set_cons_zero, List.set_cons_succ, i64_w, i32_w]
      rfl
    refine pure_ (i := 5) (N := some 19) (v := ?_) (a' := ?_) #[true, true, true, false, true, true, false, false, false, false, false, false] rfl rfl (by kernel_rfl) (fun _ _ _ h => h) (Or.inl ⟨by rfl, ?_⟩) ?_ ?_
    rotate_left
    · intro w'
      go_simp
      with_reducible rfl
    rotate_left
    · simp only [Act.put, List.setIfInBounds_toArray, List.set_cons_zero, List.set_cons_succ, i64_w, i32_w]
      rfl
    refine take_ (i := 3) (N := some 17) (v := ?_) (a' := ?_) #[true, true, true, true, true, true, false, false, false, false, false, false] rfl rfl (by kernel_rfl) (fun _ _ _ h => h) (Or.inl ⟨by rfl, ?_⟩) hHeld ?_ ?_
    rotate_left
    · rintro w' ⟨s0, s1⟩
      go_simp
      with_reducible rfl
    rotate_left
    · simp only [Act.put, List.setIfInBounds_toArray, List.set_cons_zero, List.set_cons_succ, i64_w, i32_w]
      rfl
    refine one_ (i := 6) (N := some 20) #[true, true, true, true, true, true, true, false, false, false, false, false] rfl rfl (by kernel_rfl) (by decide) (fun K hK => ?_)
    refine goes_ Try.func63 (by kernel_rfl) rfl #[.pointer (some ⟨g, 0, none⟩), .int .i64 x] (by rfl) rfl rfl (by (try simp only [List.map_toArray, List.map_cons, List.map_nil]); first | done | rfl) ?_
    refine (row_to HS.out hk hm).mono ?_
    rintro e w92 ⟨rfl, hSn⟩
    have HS92 := Go.Lib.hid hSn
    clear hSn
    refine ⟨_, rfl, ?_⟩
    refine hK.out _ _ ⟨(HS92.out.c2 0 _ _ _ _ rfl).1, elem_at HS92.out m hmr⟩ (fun hHeld => ?_)
    clear hK K
    refine norm_ (a' := ?_) ?_ ?_
    rotate_left
    · show Act.put _ (some 20) _ = _
      simp only [Act.put, List.setIfInBounds_toArray, List.set_cons_zero, List.set_cons_succ, i64_w, i32_w]
      rfl
    refine pure_ (i := 7) (N := some 21) (v := ?_) (a' := ?_) #[true, true, true, true, true, true, true, true, false, false, false, false] rfl rfl (by kernel_rfl) (fun _ _ _ h => h) (Or.inl ⟨by rfl, ?_⟩) ?_ ?_
    rotate_left
    · intro w'
      go_simp
      with_reducible rfl
    rotate_left
    · simp only [Act.put, List.setIfInBounds_toArray, List.set_cons_zero, List.set_cons_succ, i64_w, i32_w]
      rfl
    refine pure_ (i := 8) (N := some 22) (v := ?_) (a' := ?_) #[true, true, true, true, true, true, true, true, true, false, false, false] rfl rfl (by kernel_rfl) (fun _ _ _ h => h) (Or.inl ⟨by rfl, ?_⟩) ?_ ?_
    rotate_left
    · intro w'
      go_simp
      with_reducible rfl
    rotate_left
    · simp only [Act.put, List.setIfInBounds_toArray, List.set_cons_zero, List.set_cons_succ, i64_w, i32_w]
      rfl
    refine take_ (i := 9) (N := some 23) (v := ?_) (a' := ?_) #[true, true, true, true, true, true, true, true, true, true, false, false] rfl rfl (by kernel_rfl) (fun _ _ _ h => h) (Or.inl ⟨by rfl, ?_⟩) hHeld ?_ ?_
    rotate_left
    · rintro w' ⟨s0, s1⟩
      go_simp
      with_reducible rfl
    rotate_left
    · simp only [Act.put, List.setIfInBounds_toArray, List.set_cons_zero, List.set_cons_succ, i64_w, i32_w]
      rfl
    refine pure_ (i := 10) (N := some 4) (v := ?_) (a' := ?_) #[true, true, true, true, true, true, true, true, true, true, true, false] rfl rfl (by kernel_rfl) (fun _ _ _ h => h) (Or.inl ⟨by rfl, ?_⟩) ?_ ?_
    rotate_left
    · intro w'
      go_simp
      with_reducible rfl
    rotate_left
    · simp only [Act.put, List.setIfInBounds_toArray, List.set_cons_zero, List.set_cons_succ, i64_w, i32_w]
      rfl
    refine pure_ (i := 11) (N := some 5) (v := ?_) (a' := ?_) #[true, true, true, true, true, true, true, true, true, true, true, true] rfl rfl (by kernel_rfl) (fun _ _ _ h => h) (Or.inl ⟨by rfl, ?_⟩) ?_ ?_
    rotate_left
    · intro w'
      go_simp
      with_reducible rfl
    rotate_left
    · simp only [Act.put, List.setIfInBounds_toArray, List.set_cons_zero, List.set_cons_succ, i64_w, i32_w]
      rfl
    refine done_ (by kernel_rfl) ?_
    go_wp2_with fail
    go_ret2
    exact ⟨rfl, shut_stp HS92.out⟩
end Go.Proofs.Ytolokohgphdngaa.Str
