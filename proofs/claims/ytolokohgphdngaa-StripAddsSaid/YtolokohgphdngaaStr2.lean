/- Ticks are added. -/
import Derived.Test.YtolokohgphdngaaStr1
namespace Go.Proofs.Ytolokohgphdngaa.Str
open Go.RowKit Go.Proofs.YtolokohgphdngaaW.PrintWords Go.Proofs.YtolokohgphdngaaW.PrintLast Go.Proofs.YtolokohgphdngaaW.PrintMore Go.Proofs.Ytolokohgphdngaa.Mine Go.Proofs.Ytolokohgphdngaa.PStripAdds
open Go.Proofs.Ytolokohgphdngaa.Sl (SL Stp Chg St No)
set_option linter.unusedVariables false
set_option linter.unusedSimpArgs false
attribute [local go_sem] max2_int min2_int max_two min_two max_three min_three max_four min_four
variable {l : List SL} {w0 w : World} {g : Nat} {rs : List S95}
theorem add_neg (h : St (stp g rs :: l) w0 w) (hk : Oks rs) (id n : Int) (hn : n < 0) : Calls Try.prog 37 #[.pointer (some ⟨g, 0, none⟩), .int .i64 id, .int .i64 n] w fun e w' => e = .returned (.bool false) ∧ St (stp g rs :: l) w0 w' := by
  obtain ⟨A, c, B, d, hS⟩ := open_stp h
  have hlen := hk.len
  have hel := ends_len rs
  have ht0 := hk.t0
  have ht1 := hk.top
  clear h
  have HS := Go.Lib.hid hS
  clear hS
  obtain ⟨c0, c1⟩ := HS.out.c2 0 _ _ _ _ rfl
  have d0 : decide (n < 0) = true := by simpa using hn
  clear hn
  go_enter Try.func37, Try.ntmps37
  go_wp2_with fail
  go_ret
  exact ⟨rfl, shut_stp HS.out⟩
set_option maxHeartbeats 1600000 in
set_option maxRecDepth 100000 in
theorem add_many (h : St (stp g rs :: l) w0 w) (hk : Oks rs) (id n : Int) (hn : 0 ≤ n) (hm : 1073741824 - total rs < n) : Calls Try.prog 37 #[.pointer (some ⟨g, 0, none⟩), .int .i64 id, .int .i64 n] w fun e w' => e = .returned (.bool false) ∧ St (stp g rs :: l) w0 w' := by
  obtain ⟨A, c, B, d, hS⟩ := open_stp h
  have hlen := hk.len
  have hel := ends_len rs
  have ht0 := hk.t0
  have ht1 := hk.top
  clear h
  have HS := Go.Lib.hid hS
  clear hS
  obtain ⟨c0, c1⟩ := HS.out.c2 0 _ _ _ _ rfl
  have d0 : decide (n < 0) = false := by simpa using hn
  have d1 : decide (1073741824 - total rs < n) = true := by simpa using hm
  clear hn hm
  go_enter Try.func37, Try.ntmps37
  go_wp2_with (go_at_call 45; refine (len_raw HS.out hk).mono ?_; rintro e w91 ⟨rfl, hD⟩; replace HS := Go.Lib.hid (HS.out.drawn hD); clear hD c0 c1; obtain ⟨c0, c1⟩ := HS.out.c2 0 _ _ _ _ rfl)
  go_ret
  exact ⟨rfl, shut_stp HS.out⟩
set_option maxHeartbeats 1600000 in
set_option maxRecDepth 100000 in
theorem add_none (h : St (stp g rs :: l) w0 w) (hk : Oks rs) (id : Int) : Calls Try.prog 37 #[.pointer (some ⟨g, 0, none⟩), .int .i64 id, .int .i64 0] w fun e w' => e = .returned (.bool true) ∧ St (stp g rs :: l) w0 w' := by
  obtain ⟨A, c, B, d, hS⟩ := open_stp h
  have hlen := hk.len
  have hel := ends_len rs
  have ht0 := hk.t0
  have ht1 := hk.top
  clear h
  have HS := Go.Lib.hid hS
  clear hS
  obtain ⟨c0, c1⟩ := HS.out.c2 0 _ _ _ _ rfl
  have d1 : decide (1073741824 - total rs < 0) = false := by simp; omega
  go_enter Try.func37, Try.ntmps37
  go_wp2_with (go_at_call 45; refine (len_raw HS.out hk).mono ?_; rintro e w91 ⟨rfl, hD⟩; replace HS := Go.Lib.hid (HS.out.drawn hD); clear hD c0 c1; obtain ⟨c0, c1⟩ := HS.out.c2 0 _ _ _ _ rfl)
  go_ret
  exact ⟨rfl, shut_stp HS.out⟩
set_option maxHeartbeats 6400000 in
set_option maxRecDepth 100000 in
/-- A row more: where there is none yet, or the last one is another's. -/
theorem add_new (h : St (stp g rs :: l) w0 w) (hk : Oks rs) (id n : Int) (hn : 0 < n) (hm : n ≤ 1073741824 - total rs) (hl : ∀ r, rs.getLast? = some r → r.f0 ≠ id) : Calls Try.prog 37 #[.pointer (some ⟨g, 0, none⟩), .int .i64 id, .int .i64 n] w fun e w' => e = .returned (.bool true) ∧ St (stp g (rs ++ [⟨id, n⟩]) :: l) w0 w' := by
  obtain ⟨A, c, B, d, hS⟩ := open_stp h
  have hlen := hk.len
  have hel := ends_len rs
  have ht0 := hk.t0
  have ht1 := hk.top
  clear h
  have HS := Go.Lib.hid hS
  clear hS
  obtain ⟨c0, c1⟩ := HS.out.c2 0 _ _ _ _ rfl
  have d0 : decide (n < 0) = false := by simp; omega
  have d1 : decide (1073741824 - total rs < n) = false := by simp; omega
  have d2 : (n == 0) = false := by rw [beq_eq_false_iff_ne]; omega
  have hbe : ((ends rs).length + 1) * 8 ≤ 140737488355328 := by omega
  have hbr : (rs.length + 1) * 16 ≤ 140737488355328 := by omega
  have hfin := ends_snoc rs ⟨id, n⟩
  have HF := Go.Lib.hid hfin
  have hwt : wrap64 (total rs + n) = total rs + n := by unfold wrap64; omega
  have HWT := Go.Lib.hid hwt
  have HEL := Go.Lib.hid hel
  clear hfin hwt hel
  by_cases hz : rs = []
  · have d3 : ¬ (1 ≤ (rs.length : Int)) := by rw [hz]; decide
    clear hz hl
    go_enter Try.func37, Try.ntmps37
    go_upto_region 2 with (go_at_call 45; refine (len_raw HS.out hk).mono ?_; rintro e w91 ⟨rfl, hD⟩; replace HS := Go.Lib.hid (HS.out.drawn hD); clear hD c0 c1; obtain ⟨c0, c1⟩ := HS.out.c2 0 _ _ _ _ rfl)
    clear c0 c1
    replace HS := Go.Lib.hid HS.out.drew
    have hwt := HWT.out
    refine start_ (n := 14) (S := fun w' => w'.cell? ⟨g, 0, none⟩ = some (.slice A rs.length c) ∧ w'.cell? ⟨g, 1, none⟩ = some (.slice B (ends rs).length d)) (ds := [13]) #[false, false, false, false, false, false, false, false, false, false, false, false, false, false] (by kernel_rfl) rfl rfl (HS.out.c2 0 _ _ _ _ rfl) (fun hHeld => ?_)
    generalize w91.drew = W_ at *
    refine pure_ (i := 0) (N := some 14) (v := ?_) (a' := ?_) #[true, false, false, false, false, false, false, false, false, false, false, false, false, false] rfl rfl (by kernel_rfl) (fun _ _ _ h => h) (Or.inl ⟨by rfl, ?_⟩) ?_ ?_
    rotate_left
    · intro w'
      go_simp
      with_reducible rfl
    rotate_left
    · simp only [Act.put, List.setIfInBounds_toArray, List.set_cons_zero, List.set_cons_succ, i64_w, i32_w]
      rfl
    refine pure_ (i := 1) (N := some 15) (v := ?_) (a' := ?_) #[true, true, false, false, false, false, false, false, false, false, false, false, false, false] rfl rfl (by kernel_rfl) (fun _ _ _ h => h) (Or.inl ⟨by rfl, ?_⟩) ?_ ?_
    rotate_left
    · intro w'
      go_simp
      with_reducible rfl
    rotate_left
    · simp only [Act.put, List.setIfInBounds_toArray, List.set_cons_zero, List.set_cons_succ, i64_w, i32_w]
      rfl
    refine pure_ (i := 2) (N := some 16) (v := ?_) (a' := ?_) #[true, true, true, false, false, false, false, false, false, false, false, false, false, false] rfl rfl (by kernel_rfl) (fun _ _ _ h => h) (Or.inl ⟨by rfl, ?_⟩) ?_ ?_
    rotate_left
    · intro w'
      go_simp
      with_reducible rfl
    rotate_left
    · simp only [Act.put, List.setIfInBounds_toArray, List.set_cons_zero, List.set_cons_succ, i64_w, i32_w]
      rfl
    refine pure_ (i := 3) (N := some 17) (v := ?_) (a' := ?_) #[true, true, true, true, false, false, false, false, false, false, false, false, false, false] rfl rfl (by kernel_rfl) (fun _ _ _ h => h) (Or.inl ⟨by rfl, ?_⟩) ?_ ?_
    rotate_left
    · intro w'
      go_simp
      with_reducible rfl
    rotate_left
    · simp only [Act.put, List.setIfInBounds_toArray, List.set_cons_zero, List.set_cons_succ, i64_w, i32_w]
      rfl
    refine pure_ (i := 5) (N := some 19) (v := ?_) (a' := ?_) #[true, true, true, true, false, true, false, false, false, false, false, false, false, false] rfl rfl (by kernel_rfl) (fun _ _ _ h => h) (Or.inl ⟨by rfl, ?_⟩) ?_ ?_
    rotate_left
    · intro w'
      go_simp
      with_reducible rfl
    rotate_left
    · simp only [Act.put, List.setIfInBounds_toArray, List.set_cons_zero, List.set_cons_succ, i64_w, i32_w]
      rfl
    refine pure_ (i := 7) (N := some 21) (v := ?_) (a' := ?_) #[true, true, true, true, false, true, false, true, false, false, false, false, false, false] rfl rfl (by kernel_rfl) (fun _ _ _ h => h) (Or.inl ⟨by rfl, ?_⟩) ?_ ?_
    rotate_left
    · intro w'
      go_simp
      with_reducible rfl
    rotate_left
    · simp only [Act.put, List.setIfInBounds_toArray, List.set_cons_zero, List.set_cons_succ, i64_w, i32_w]
      rfl
    refine take_ (i := 4) (N := some 18) (v := ?_) (a' := ?_) #[true, true, true, true, true, true, false, true, false, false, false, false, false, false] rfl rfl (by kernel_rfl) (fun _ _ _ h => h) (Or.inl ⟨by rfl, ?_⟩) hHeld ?_ ?_
    rotate_left
    · rintro w' ⟨s0, s1⟩
      go_simp
      with_reducible rfl
    rotate_left
    · simp only [Act.put, List.setIfInBounds_toArray, List.set_cons_zero, List.set_cons_succ, i64_w, i32_w]
      rfl
    refine one_ (i := 6) (N := some 20) #[true, true, true, true, true, true, true, true, false, false, false, false, false, false] rfl rfl (by kernel_rfl) (by decide) (fun K hK => ?_)
    refine goes_ Try.func45 (by kernel_rfl) rfl #[.pointer (some ⟨g, 0, none⟩)] (by rfl) rfl rfl (by (try simp only [List.map_toArray, List.map_cons, List.map_nil]); first | done | rfl) ?_
    refine (len_raw HS.out hk).mono ?_
    rintro e w92 ⟨rfl, hD⟩
    have HS92 := Go.Lib.hid (HS.out.drawn hD)
    clear hD
    refine ⟨_, rfl, ?_⟩
    refine hK.out _ _ (HS92.out.c2 0 _ _ _ _ rfl) (fun hHeld => ?_)
    clear hK K
    refine norm_ (a' := ?_) ?_ ?_
    rotate_left
    · show Act.put _ (some 20) _ = _
      simp only [Act.put, List.setIfInBounds_toArray, List.set_cons_zero, List.set_cons_succ, i64_w, i32_w]
      rfl
    refine pure_ (i := 8) (N := some 22) (v := ?_) (a' := ?_) #[true, true, true, true, true, true, true, true, true, false, false, false, false, false] rfl rfl (by kernel_rfl) (fun _ _ _ h => h) (Or.inl ⟨by rfl, ?_⟩) ?_ ?_
    rotate_left
    · intro w'
      go_simp
      with_reducible rfl
    rotate_left
    · simp only [Act.put, List.setIfInBounds_toArray, List.set_cons_zero, List.set_cons_succ, i64_w, i32_w]
      rfl
    refine one_ (i := 9) (N := some 23) #[true, true, true, true, true, true, true, true, true, true, false, false, false, false] rfl rfl (by kernel_rfl) (by decide) (fun K hK => ?_)
    refine event_step (by rfl) (w1 := w92.alloc (.cells #[.int .i64 (total rs + n)] 3)) (v := .slice (some ⟨w92.heap.size, 0, none⟩) 1 1) (by first | (go_simp; done) | (go_simp; rfl)) ?_
    refine hK.out _ _ ((HS92.out.alloc _).c2 0 _ _ _ _ rfl) (fun hHeld => ?_)
    clear hK K
    refine norm_ (a' := ?_) ?_ ?_
    rotate_left
    · show Act.put _ (some 23) _ = _
      simp only [Act.put, List.setIfInBounds_toArray, List.set_cons_zero, List.set_cons_succ, i64_w, i32_w]
      rfl
    refine one_ (i := 10) (N := some 24) #[true, true, true, true, true, true, true, true, true, true, true, false, false, false] rfl rfl (by kernel_rfl) (by decide) (fun K hK => ?_)
    refine Sl.append_stp (Kd.int .i64) (flat_int .i64) HS92.out 2 (.slice B (ends rs).length d) (ends rs) 3 rfl (by rfl) (.tmp 18) (.tmp 23) 108 (.int .i64 0) 8 rfl Try.underlying108 (by kernel_rfl) rfl (by decide) (by decide) ((total rs + n)) [.int .i64 (total rs + n)] rfl rfl (by rfl) (by exact hbe) ?_
    intro v11_ w11_ HSn
    obtain ⟨B9, d9, hv2_, _⟩ := HSn.rowC 2 rfl
    subst hv2_
    refine hK.out _ _ (HSn.c2 0 _ _ _ _ rfl) (fun hHeld => ?_)
    clear hK K
    refine norm_ (a' := ?_) ?_ ?_
    rotate_left
    · show Act.put _ (some 24) _ = _
      simp only [Act.put, List.setIfInBounds_toArray, List.set_cons_zero, List.set_cons_succ, i64_w, i32_w]
      rfl
    refine pure_ (i := 11) (N := some 25) (v := ?_) (a' := ?_) #[true, true, true, true, true, true, true, true, true, true, true, true, false, false] rfl rfl (by kernel_rfl) (fun _ _ _ h => h) (Or.inl ⟨by rfl, ?_⟩) ?_ ?_
    rotate_left
    · intro w'
      go_simp
      with_reducible rfl
    rotate_left
    · simp only [Act.put, List.setIfInBounds_toArray, List.set_cons_zero, List.set_cons_succ, i64_w, i32_w]
      rfl
    refine pure_ (i := 12) (N := some 26) (v := ?_) (a' := ?_) #[true, true, true, true, true, true, true, true, true, true, true, true, true, false] rfl rfl (by kernel_rfl) (fun _ _ _ h => h) (Or.inl ⟨by rfl, ?_⟩) ?_ ?_
    rotate_left
    · intro w'
      go_simp
      with_reducible rfl
    rotate_left
    · simp only [Act.put, List.setIfInBounds_toArray, List.set_cons_zero, List.set_cons_succ, i64_w, i32_w]
      rfl
    refine last_ (i := 13) (N := none) #[true, true, true, true, true, true, true, true, true, true, true, true, true, true] rfl rfl (by kernel_rfl) (by decide) (fun K hK => ?_)
    have c0_1 := HSn.cell 0 _ _ _ rfl 1
    have f0_1 := HSn.free 0 _ _ _ rfl 1
    refine Sl.store_stp HSn 0 g 147 _ rfl 1 (.slice B9 (ends rs ++ [(total rs + n)]).length d9) (by rfl) rfl (by first | (go_simp; done) | (go_simp; rfl)) ?_
    intro w12_ HSm
    clear c0_1 f0_1
    refine hK.out _ _ ?_
    clear hK K
    refine done_ (by kernel_rfl) ?_
    replace HS := Go.Lib.hid HSm
    clear HSm hwt
    obtain ⟨c0_0, c0_1⟩ := HS.out.c2 0 _ _ _ _ rfl
    go_wp2_with (first | ((with_reducible refine gate_dst (N := 36) rfl ?_); refine Sl.append_st (k95) ((flat_iso (flat_pair (flat_int .i64) (flat_int .i64)))) HS.out 1 ((.slice A rs.length c)) (rs) 95 rfl (by rfl) (.tmp 31) (.tmp 35) 90 (.agg #[.int .i64 0, .int .i64 0]) 16 rfl Try.underlying90 (by kernel_rfl) rfl (by decide) (by decide) ((⟨id, n⟩ : S95)) [.int .i64 id, .int .i64 n] rfl rfl ?hp ?hb ?_; (case hp => first | rfl | exact k95_mk _ _); (case hb => exact hbr); intro v1_ w21_ HSn; obtain ⟨A8_, c8_, hv2_, _⟩ := HSn.rowC 1 rfl; subst hv2_; replace HS : Hid (St (SL.blk g 147 #[.slice A rs.length c, .slice B9 (ends rs ++ [(total rs + n)]).length d9] :: SL.row (k95) 95 (.slice A8_ (rs ++ [(⟨id, n⟩ : S95)]).length c8_) (rs ++ [(⟨id, n⟩ : S95)]) :: SL.row (Kd.int .i64) 3 (.slice B9 (ends rs ++ [(total rs + n)]).length d9) (ends rs ++ [(total rs + n)]) :: l) w0 w21_) := Go.Lib.hid HSn; clear HSn; clear c0_0 c0_1; obtain ⟨c0_0, c0_1⟩ := HS.out.c2 0 _ _ _ _ rfl) | ((with_reducible refine gate_store (p := 38) rfl ?_); refine Sl.store_st HS.out 0 g 147 _ rfl 0 ((.slice A8_ (rs ++ [(⟨id, n⟩ : S95)]).length c8_)) (by rfl) (by rfl) ?hr ?_; (case hr => have f_ := HS.out.free 0 _ _ _ rfl 0; first | (go_simp; done) | (go_simp; rfl)); intro w22_ HSn; replace HS : Hid (St (SL.blk g 147 #[(.slice A8_ (rs ++ [(⟨id, n⟩ : S95)]).length c8_), .slice B9 (ends rs ++ [(total rs + n)]).length d9] :: SL.row (k95) 95 (.slice A8_ (rs ++ [(⟨id, n⟩ : S95)]).length c8_) (rs ++ [(⟨id, n⟩ : S95)]) :: SL.row (Kd.int .i64) 3 (.slice B9 (ends rs ++ [(total rs + n)]).length d9) (ends rs ++ [(total rs + n)]) :: l) w0 w22_) := Go.Lib.hid HSn; clear HSn; clear c0_0 c0_1; obtain ⟨c0_0, c0_1⟩ := HS.out.c2 0 _ _ _ _ rfl))
    go_ret
    refine ⟨rfl, ?_⟩
    have hS2 := HS.out
    rw [← HF.out] at hS2
    exact shut_stp hS2
  · have hpos : 0 < rs.length := List.length_pos_iff.2 hz
    have d3 : 1 ≤ (rs.length : Int) := by omega
    obtain ⟨_, _, hv, _, hC⟩ := HS.out.rowC 1 rfl
    injection hv with q1 _ q3
    subst q1 q3
    obtain ⟨ad, rfl, gl, gl1⟩ := at_T95 hC ((rs.length : Int) - 1) (by omega) (by omega)
    have hr : (rd_T95 rs ((rs.length : Int) - 1)).f0 ≠ id := by
      refine hl _ ?_
      unfold rd_T95
      rw [show ((rs.length : Int) - 1).toNat = rs.length - 1 by omega, List.getLast?_eq_getElem?, List.getD_eq_getElem?_getD, List.getElem?_eq_getElem (by omega)]
      rfl
    generalize rd_T95 rs ((rs.length : Int) - 1) = r at *
    have d4 : (r.f0 == id) = false := by rw [beq_eq_false_iff_ne]; exact hr
    have htn : ((rs.length : Int) - 1).toNat = rs.length - 1 := by omega
    rw [htn] at gl
    clear hC gl1 hz hl hr htn hpos
    go_enter Try.func37, Try.ntmps37
    go_upto_region 2 with (go_at_call 45; refine (len_raw HS.out hk).mono ?_; rintro e w91 ⟨rfl, hD⟩; replace HS := Go.Lib.hid (HS.out.drawn hD); have gl2 : w91.cell? (ad.add ((rs.length - 1) * 2)) = some (.int .i64 r.f0) := (by obtain ⟨q_, hq_⟩ := hD.out; rw [hq_]; exact gl); clear hD c0 c1 gl; have gl := gl2; clear gl2; obtain ⟨c0, c1⟩ := HS.out.c2 0 _ _ _ _ rfl)
    clear c0 c1 gl
    replace HS := Go.Lib.hid HS.out.drew
    have hwt := HWT.out
    refine start_ (n := 14) (S := fun w' => w'.cell? ⟨g, 0, none⟩ = some (.slice (some ad) rs.length c) ∧ w'.cell? ⟨g, 1, none⟩ = some (.slice B (ends rs).length d)) (ds := [13]) #[false, false, false, false, false, false, false, false, false, false, false, false, false, false] (by kernel_rfl) rfl rfl (HS.out.c2 0 _ _ _ _ rfl) (fun hHeld => ?_)
    generalize w91.drew = W_ at *
    refine pure_ (i := 0) (N := some 14) (v := ?_) (a' := ?_) #[true, false, false, false, false, false, false, false, false, false, false, false, false, false] rfl rfl (by kernel_rfl) (fun _ _ _ h => h) (Or.inl ⟨by rfl, ?_⟩) ?_ ?_
    rotate_left
    · intro w'
      go_simp
      with_reducible rfl
    rotate_left
    · simp only [Act.put, List.setIfInBounds_toArray, List.set_cons_zero, List.set_cons_succ, i64_w, i32_w]
      rfl
    refine pure_ (i := 1) (N := some 15) (v := ?_) (a' := ?_) #[true, true, false, false, false, false, false, false, false, false, false, false, false, false] rfl rfl (by kernel_rfl) (fun _ _ _ h => h) (Or.inl ⟨by rfl, ?_⟩) ?_ ?_
    rotate_left
    · intro w'
      go_simp
      with_reducible rfl
    rotate_left
    · simp only [Act.put, List.setIfInBounds_toArray, List.set_cons_zero, List.set_cons_succ, i64_w, i32_w]
      rfl
    refine pure_ (i := 2) (N := some 16) (v := ?_) (a' := ?_) #[true, true, true, false, false, false, false, false, false, false, false, false, false, false] rfl rfl (by kernel_rfl) (fun _ _ _ h => h) (Or.inl ⟨by rfl, ?_⟩) ?_ ?_
    rotate_left
    · intro w'
      go_simp
      with_reducible rfl
    rotate_left
    · simp only [Act.put, List.setIfInBounds_toArray, List.set_cons_zero, List.set_cons_succ, i64_w, i32_w]
      rfl
    refine pure_ (i := 3) (N := some 17) (v := ?_) (a' := ?_) #[true, true, true, true, false, false, false, false, false, false, false, false, false, false] rfl rfl (by kernel_rfl) (fun _ _ _ h => h) (Or.inl ⟨by rfl, ?_⟩) ?_ ?_
    rotate_left
    · intro w'
      go_simp
      with_reducible rfl
    rotate_left
    · simp only [Act.put, List.setIfInBounds_toArray, List.set_cons_zero, List.set_cons_succ, i64_w, i32_w]
      rfl
    refine pure_ (i := 5) (N := some 19) (v := ?_) (a' := ?_) #[true, true, true, true, false, true, false, false, false, false, false, false, false, false] rfl rfl (by kernel_rfl) (fun _ _ _ h => h) (Or.inl ⟨by rfl, ?_⟩) ?_ ?_
    rotate_left
    · intro w'
      go_simp
      with_reducible rfl
    rotate_left
    · simp only [Act.put, List.setIfInBounds_toArray, List.set_cons_zero, List.set_cons_succ, i64_w, i32_w]
      rfl
    refine pure_ (i := 7) (N := some 21) (v := ?_) (a' := ?_) #[true, true, true, true, false, true, false, true, false, false, false, false, false, false] rfl rfl (by kernel_rfl) (fun _ _ _ h => h) (Or.inl ⟨by rfl, ?_⟩) ?_ ?_
    rotate_left
    · intro w'
      go_simp
      with_reducible rfl
    rotate_left
    · simp only [Act.put, List.setIfInBounds_toArray, List.set_cons_zero, List.set_cons_succ, i64_w, i32_w]
      rfl
    refine take_ (i := 4) (N := some 18) (v := ?_) (a' := ?_) #[true, true, true, true, true, true, false, true, false, false, false, false, false, false] rfl rfl (by kernel_rfl) (fun _ _ _ h => h) (Or.inl ⟨by rfl, ?_⟩) hHeld ?_ ?_
    rotate_left
    · rintro w' ⟨s0, s1⟩
      go_simp
      with_reducible rfl
    rotate_left
    · simp only [Act.put, List.setIfInBounds_toArray, List.set_cons_zero, List.set_cons_succ, i64_w, i32_w]
      rfl
    refine one_ (i := 6) (N := some 20) #[true, true, true, true, true, true, true, true, false, false, false, false, false, false] rfl rfl (by kernel_rfl) (by decide) (fun K hK => ?_)
    refine goes_ Try.func45 (by kernel_rfl) rfl #[.pointer (some ⟨g, 0, none⟩)] (by rfl) rfl rfl (by (try simp only [List.map_toArray, List.map_cons, List.map_nil]); first | done | rfl) ?_
    refine (len_raw HS.out hk).mono ?_
    rintro e w92 ⟨rfl, hD⟩
    have HS92 := Go.Lib.hid (HS.out.drawn hD)
    clear hD
    refine ⟨_, rfl, ?_⟩
    refine hK.out _ _ (HS92.out.c2 0 _ _ _ _ rfl) (fun hHeld => ?_)
    clear hK K
    refine norm_ (a' := ?_) ?_ ?_
    rotate_left
    · show Act.put _ (some 20) _ = _
      simp only [Act.put, List.setIfInBounds_toArray, List.set_cons_zero, List.set_cons_succ, i64_w, i32_w]
      rfl
    refine pure_ (i := 8) (N := some 22) (v := ?_) (a' := ?_) #[true, true, true, true, true, true, true, true, true, false, false, false, false, false] rfl rfl (by kernel_rfl) (fun _ _ _ h => h) (Or.inl ⟨by rfl, ?_⟩) ?_ ?_
    rotate_left
    · intro w'
      go_simp
      with_reducible rfl
    rotate_left
    · simp only [Act.put, List.setIfInBounds_toArray, List.set_cons_zero, List.set_cons_succ, i64_w, i32_w]
      rfl
    refine one_ (i := 9) (N := some 23) #[true, true, true, true, true, true, true, true, true, true, false, false, false, false] rfl rfl (by kernel_rfl) (by decide) (fun K hK => ?_)
    refine event_step (by rfl) (w1 := w92.alloc (.cells #[.int .i64 (total rs + n)] 3)) (v := .slice (some ⟨w92.heap.size, 0, none⟩) 1 1) (by first | (go_simp; done) | (go_simp; rfl)) ?_
    refine hK.out _ _ ((HS92.out.alloc _).c2 0 _ _ _ _ rfl) (fun hHeld => ?_)
    clear hK K
    refine norm_ (a' := ?_) ?_ ?_
    rotate_left
    · show Act.put _ (some 23) _ = _
      simp only [Act.put, List.setIfInBounds_toArray, List.set_cons_zero, List.set_cons_succ, i64_w, i32_w]
      rfl
    refine one_ (i := 10) (N := some 24) #[true, true, true, true, true, true, true, true, true, true, true, false, false, false] rfl rfl (by kernel_rfl) (by decide) (fun K hK => ?_)
    refine Sl.append_stp (Kd.int .i64) (flat_int .i64) HS92.out 2 (.slice B (ends rs).length d) (ends rs) 3 rfl (by rfl) (.tmp 18) (.tmp 23) 108 (.int .i64 0) 8 rfl Try.underlying108 (by kernel_rfl) rfl (by decide) (by decide) ((total rs + n)) [.int .i64 (total rs + n)] rfl rfl (by rfl) (by exact hbe) ?_
    intro v11_ w11_ HSn
    obtain ⟨B9, d9, hv2_, _⟩ := HSn.rowC 2 rfl
    subst hv2_
    refine hK.out _ _ (HSn.c2 0 _ _ _ _ rfl) (fun hHeld => ?_)
    clear hK K
    refine norm_ (a' := ?_) ?_ ?_
    rotate_left
    · show Act.put _ (some 24) _ = _
      simp only [Act.put, List.setIfInBounds_toArray, List.set_cons_zero, List.set_cons_succ, i64_w, i32_w]
      rfl
    refine pure_ (i := 11) (N := some 25) (v := ?_) (a' := ?_) #[true, true, true, true, true, true, true, true, true, true, true, true, false, false] rfl rfl (by kernel_rfl) (fun _ _ _ h => h) (Or.inl ⟨by rfl, ?_⟩) ?_ ?_
    rotate_left
    · intro w'
      go_simp
      with_reducible rfl
    rotate_left
    · simp only [Act.put, List.setIfInBounds_toArray, List.set_cons_zero, List.set_cons_succ, i64_w, i32_w]
      rfl
    refine pure_ (i := 12) (N := some 26) (v := ?_) (a' := ?_) #[true, true, true, true, true, true, true, true, true, true, true, true, true, false] rfl rfl (by kernel_rfl) (fun _ _ _ h => h) (Or.inl ⟨by rfl, ?_⟩) ?_ ?_
    rotate_left
    · intro w'
      go_simp
      with_reducible rfl
    rotate_left
    · simp only [Act.put, List.setIfInBounds_toArray, List.set_cons_zero, List.set_cons_succ, i64_w, i32_w]
      rfl
    refine last_ (i := 13) (N := none) #[true, true, true, true, true, true, true, true, true, true, true, true, true, true] rfl rfl (by kernel_rfl) (by decide) (fun K hK => ?_)
    have c0_1 := HSn.cell 0 _ _ _ rfl 1
    have f0_1 := HSn.free 0 _ _ _ rfl 1
    refine Sl.store_stp HSn 0 g 147 _ rfl 1 (.slice B9 (ends rs ++ [(total rs + n)]).length d9) (by rfl) rfl (by first | (go_simp; done) | (go_simp; rfl)) ?_
    intro w12_ HSm
    clear c0_1 f0_1
    refine hK.out _ _ ?_
    clear hK K
    refine done_ (by kernel_rfl) ?_
    replace HS := Go.Lib.hid HSm
    clear HSm hwt
    obtain ⟨c0_0, c0_1⟩ := HS.out.c2 0 _ _ _ _ rfl
    go_wp2_with (first | ((with_reducible refine gate_dst (N := 36) rfl ?_); refine Sl.append_st (k95) ((flat_iso (flat_pair (flat_int .i64) (flat_int .i64)))) HS.out 1 ((.slice (some ad) rs.length c)) (rs) 95 rfl (by rfl) (.tmp 31) (.tmp 35) 90 (.agg #[.int .i64 0, .int .i64 0]) 16 rfl Try.underlying90 (by kernel_rfl) rfl (by decide) (by decide) ((⟨id, n⟩ : S95)) [.int .i64 id, .int .i64 n] rfl rfl ?hp ?hb ?_; (case hp => first | rfl | exact k95_mk _ _); (case hb => exact hbr); intro v1_ w21_ HSn; obtain ⟨A8_, c8_, hv2_, _⟩ := HSn.rowC 1 rfl; subst hv2_; replace HS : Hid (St (SL.blk g 147 #[.slice (some ad) rs.length c, .slice B9 (ends rs ++ [(total rs + n)]).length d9] :: SL.row (k95) 95 (.slice A8_ (rs ++ [(⟨id, n⟩ : S95)]).length c8_) (rs ++ [(⟨id, n⟩ : S95)]) :: SL.row (Kd.int .i64) 3 (.slice B9 (ends rs ++ [(total rs + n)]).length d9) (ends rs ++ [(total rs + n)]) :: l) w0 w21_) := Go.Lib.hid HSn; clear HSn; clear c0_0 c0_1; obtain ⟨c0_0, c0_1⟩ := HS.out.c2 0 _ _ _ _ rfl) | ((with_reducible refine gate_store (p := 38) rfl ?_); refine Sl.store_st HS.out 0 g 147 _ rfl 0 ((.slice A8_ (rs ++ [(⟨id, n⟩ : S95)]).length c8_)) (by rfl) (by rfl) ?hr ?_; (case hr => have f_ := HS.out.free 0 _ _ _ rfl 0; first | (go_simp; done) | (go_simp; rfl)); intro w22_ HSn; replace HS : Hid (St (SL.blk g 147 #[(.slice A8_ (rs ++ [(⟨id, n⟩ : S95)]).length c8_), .slice B9 (ends rs ++ [(total rs + n)]).length d9] :: SL.row (k95) 95 (.slice A8_ (rs ++ [(⟨id, n⟩ : S95)]).length c8_) (rs ++ [(⟨id, n⟩ : S95)]) :: SL.row (Kd.int .i64) 3 (.slice B9 (ends rs ++ [(total rs + n)]).length d9) (ends rs ++ [(total rs + n)]) :: l) w0 w22_) := Go.Lib.hid HSn; clear HSn; clear c0_0 c0_1; obtain ⟨c0_0, c0_1⟩ := HS.out.c2 0 _ _ _ _ rfl))
    go_ret
    refine ⟨rfl, ?_⟩
    have hS2 := HS.out
    rw [← HF.out] at hS2
    exact shut_stp hS2
end Go.Proofs.Ytolokohgphdngaa.Str
