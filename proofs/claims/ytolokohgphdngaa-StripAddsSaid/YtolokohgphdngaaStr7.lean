/- Which row is a tick in. -/
import Derived.Test.YtolokohgphdngaaStr6
namespace Go.Proofs.Ytolokohgphdngaa.Str
open Go.RowKit Go.Proofs.YtolokohgphdngaaW.PrintWords Go.Proofs.YtolokohgphdngaaW.PrintLast Go.Proofs.YtolokohgphdngaaW.PrintMore Go.Proofs.Ytolokohgphdngaa.Mine Go.Proofs.Ytolokohgphdngaa.PStripAdds
open Go.Proofs.Ytolokohgphdngaa.Sl (SL Stp Chg St No)
set_option linter.unusedVariables false
set_option linter.unusedSimpArgs false
attribute [local go_sem] max2_int min2_int max_two min_two max_three min_three max_four min_four
variable {l : List SL} {w0 w : World} {g : Nat} {rs : List S95}
def endAt (rs : List S95) (k : Nat) : Int := rd (ends rs) (k : Int)
theorem endAt_is (rs : List S95) (k : Nat) (h : k < rs.length) : endAt rs k = total (rs.take (k + 1)) := by
  have hne : rs.take (k + 1) ≠ [] := by intro e; have hl := congrArg List.length e; rw [List.length_take, List.length_nil] at hl; omega
  have hl : (rs.take (k + 1)).length = k + 1 := by rw [List.length_take]; omega
  have h1 := ends_end hne
  rw [hl, Nat.add_sub_cancel] at h1
  have h2 : ends rs = ends (rs.take (k + 1)) ++ endsFrom (total (rs.take (k + 1))) (rs.drop (k + 1)) := by
    have := endsFrom_app (rs.take (k + 1)) (rs.drop (k + 1)) 0
    rw [List.take_append_drop, Int.zero_add] at this
    exact this
  rw [← h1]
  unfold endAt rd
  rw [h2, Int.toNat_natCast, List.getD_eq_getElem?_getD, List.getD_eq_getElem?_getD, List.getElem?_append_left (by rw [ends_len, hl]; omega)]
theorem total_take_le (hk : Oks rs) {j k : Nat} (h : j ≤ k) : total (rs.take j) ≤ total (rs.take k) := by
  have e : rs.take j = (rs.take k).take j := by rw [List.take_take, Nat.min_eq_left h]
  have h1 := total_app ((rs.take k).take j) ((rs.take k).drop j)
  rw [List.take_append_drop, ← e] at h1
  have h2 := total_ge (rs := (rs.take k).drop j) (fun r hr => hk.pos r (List.mem_of_mem_take (List.mem_of_mem_drop hr)))
  omega
/-- The first row whose end is beyond a tick; as many as there are: none. -/
def idxR (rs : List S95) (x : Int) : Nat := (ends rs).findIdx fun e => decide (x < e)
theorem idxR_le (rs : List S95) (x : Int) : idxR rs x ≤ rs.length := by unfold idxR; rw [← ends_len]; exact List.findIdx_le_length
theorem endAt_get (rs : List S95) (k : Nat) (h : k < (ends rs).length) : endAt rs k = (ends rs)[k] := by
  unfold endAt rd
  rw [Int.toNat_natCast, List.getD_eq_getElem?_getD, List.getElem?_eq_getElem h]
  rfl
theorem idx_lo (rs : List S95) (x : Int) (k : Nat) (h : k < idxR rs x) : ¬ x < endAt rs k := by
  have hl : k < (ends rs).length := by have := idxR_le rs x; rw [ends_len]; omega
  rw [endAt_get rs k hl]
  have := List.not_of_lt_findIdx (p := fun e => decide (x < e)) (xs := ends rs) h
  simpa using this
theorem idx_hi (hk : Oks rs) (x : Int) (k : Nat) (h : idxR rs x ≤ k) (hl : k < rs.length) : x < endAt rs k := by
  have hj : idxR rs x < (ends rs).length := by rw [ends_len]; omega
  have h1 := List.findIdx_getElem (p := fun e => decide (x < e)) (xs := ends rs) (w := hj)
  have h2 : x < endAt rs (idxR rs x) := by rw [endAt_get rs _ hj]; exact of_decide_eq_true h1
  rw [endAt_is rs _ (by omega)] at h2
  rw [endAt_is rs k hl]
  have := total_take_le hk (show idxR rs x + 1 ≤ k + 1 by omega)
  omega
variable {bs bi : Nat} {x : Int} {A B : Option Addr} {c d : Nat}
set_option maxHeartbeats 3200000 in
set_option maxRecDepth 100000 in
theorem past_hd (h : St (SL.blk bi 3 #[.int .i64 x] :: SL.blk bs 91 #[.pointer (some ⟨g, 0, none⟩)] :: SL.blk g 147 #[.slice A rs.length c, .slice B (ends rs).length d] :: SL.row k95 95 (.slice A rs.length c) rs :: SL.row (Kd.int .i64) 3 (.slice B (ends rs).length d) (ends rs) :: l) w0 w) (hk : Oks rs) (k : Nat) (hkl : k < rs.length) : Calls Try.prog 77 #[.int .i64 (k : Int), .pointer (some ⟨bs, 0, none⟩), .pointer (some ⟨bi, 0, none⟩)] w fun e w' => e = .returned (.bool (decide (x < endAt rs k))) ∧ St (SL.blk bi 3 #[.int .i64 x] :: SL.blk bs 91 #[.pointer (some ⟨g, 0, none⟩)] :: SL.blk g 147 #[.slice A rs.length c, .slice B (ends rs).length d] :: SL.row k95 95 (.slice A rs.length c) rs :: SL.row (Kd.int .i64) 3 (.slice B (ends rs).length d) (ends rs) :: l) w0 w' := by
  have HS := Go.Lib.hid h
  have hel := ends_len rs
  clear h
  have p0 : (0 ≤ (k : Int)) = True := eq_true (by omega)
  have p1 : ((k : Int) < ((ends rs).length : Int)) = True := eq_true (by omega)
  go_enter Try.func77, Try.ntmps77
  go_wp2_with fail
  replace HS := Go.Lib.hid HS.out.drew
  have hS := HS.out
  have y1 := hS.c1 0 _ _ _ rfl
  have y0 := hS.c1 1 _ _ _ rfl
  obtain ⟨_, y2⟩ := hS.c2 2 _ _ _ _ rfl
  obtain ⟨_, _, hv, _, hC⟩ := hS.rowC 4 rfl
  injection hv with q1 _ q3
  subst q1 q3
  obtain ⟨ad, rfl, y3⟩ := Kd.at_int hC (k : Int) (by omega) (by omega)
  rw [Int.toNat_natCast] at y3
  replace y3 : w.drew.cell? (ad.add k) = some (.int .i64 (endAt rs k)) := y3
  clear hS hC hel
  refine start_ (n := 10) (S := fun w' => w'.cell? ⟨bs, 0, none⟩ = some (.pointer (some ⟨g, 0, none⟩)) ∧ w'.cell? ⟨bi, 0, none⟩ = some (.int .i64 x) ∧ w'.cell? ⟨g, 1, none⟩ = some (.slice (some ad) (ends rs).length d) ∧ w'.cell? (ad.add k) = some (.int .i64 (endAt rs k))) (ds := []) #[false, false, false, false, false, false, false, false, false, false] (by kernel_rfl) rfl rfl ⟨y0, y1, y2, y3⟩ (fun hHeld => ?_)
  generalize w.drew = W_ at *
  refine pure_ (i := 4) (N := some 9) (v := ?_) (a' := ?_) #[false, false, false, false, true, false, false, false, false, false] rfl rfl (by kernel_rfl) (fun _ _ _ h => h) (Or.inl ⟨by rfl, ?_⟩) ?_ ?_
  rotate_left
  · intro w'
    go_simp
    with_reducible rfl
  rotate_left
  · simp only [Act.put, List.setIfInBounds_toArray, List.set_cons_zero, List.set_cons_succ, i64_w, i32_w]
    rfl
  refine take_ (i := 0) (N := some 5) (v := ?_) (a' := ?_) #[true, false, false, false, true, false, false, false, false, false] rfl rfl (by kernel_rfl) (fun _ _ _ h => h) (Or.inl ⟨by rfl, ?_⟩) hHeld ?_ ?_
  rotate_left
  · rintro w' ⟨s0, s1, s2, s3⟩
    go_simp
    with_reducible rfl
  rotate_left
  · simp only [Act.put, List.setIfInBounds_toArray, List.set_cons_zero, List.set_cons_succ, i64_w, i32_w]
    rfl
  refine pure_ (i := 1) (N := some 6) (v := ?_) (a' := ?_) #[true, true, false, false, true, false, false, false, false, false] rfl rfl (by kernel_rfl) (fun _ _ _ h => h) (Or.inl ⟨by rfl, ?_⟩) ?_ ?_
  rotate_left
  · intro w'
    go_simp
    with_reducible rfl
  rotate_left
  · simp only [Act.put, List.setIfInBounds_toArray, List.set_cons_zero, List.set_cons_succ, i64_w, i32_w]
    rfl
  refine pure_ (i := 2) (N := some 7) (v := ?_) (a' := ?_) #[true, true, true, false, true, false, false, false, false, false] rfl rfl (by kernel_rfl) (fun _ _ _ h => h) (Or.inl ⟨by rfl, ?_⟩) ?_ ?_
  rotate_left
  · intro w'
    go_simp
    with_reducible rfl
  rotate_left
  · simp only [Act.put, List.setIfInBounds_toArray, List.set_cons_zero, List.set_cons_succ, i64_w, i32_w]
    rfl
  refine take_ (i := 3) (N := some 8) (v := ?_) (a' := ?_) #[true, true, true, true, true, false, false, false, false, false] rfl rfl (by kernel_rfl) (fun _ _ _ h => h) (Or.inl ⟨by rfl, ?_⟩) hHeld ?_ ?_
  rotate_left
  · rintro w' ⟨s0, s1, s2, s3⟩
    go_simp
    with_reducible rfl
  rotate_left
  · simp only [Act.put, List.setIfInBounds_toArray, List.set_cons_zero, List.set_cons_succ, i64_w, i32_w]
    rfl
  refine pure_ (i := 5) (N := some 10) (v := ?_) (a' := ?_) #[true, true, true, true, true, true, false, false, false, false] rfl rfl (by kernel_rfl) (fun _ _ _ h => h) (Or.inl ⟨by rfl, ?_⟩) ?_ ?_
  rotate_left
  · intro w'
    go_simp
    with_reducible rfl
  rotate_left
  · simp only [Act.put, List.setIfInBounds_toArray, List.set_cons_zero, List.set_cons_succ, i64_w, i32_w]
    rfl
  refine take_ (i := 6) (N := some 11) (v := ?_) (a' := ?_) #[true, true, true, true, true, true, true, false, false, false] rfl rfl (by kernel_rfl) (fun _ _ _ h => h) (Or.inl ⟨by rfl, ?_⟩) hHeld ?_ ?_
  rotate_left
  · rintro w' ⟨s0, s1, s2, s3⟩
    go_simp
    with_reducible rfl
  rotate_left
  · simp only [Act.put, List.setIfInBounds_toArray, List.set_cons_zero, List.set_cons_succ, i64_w, i32_w]
    rfl
  refine take_ (i := 7) (N := some 12) (v := ?_) (a' := ?_) #[true, true, true, true, true, true, true, true, false, false] rfl rfl (by kernel_rfl) (fun _ _ _ h => h) (Or.inl ⟨by rfl, ?_⟩) hHeld ?_ ?_
  rotate_left
  · rintro w' ⟨s0, s1, s2, s3⟩
    go_simp
    with_reducible rfl
  rotate_left
  · simp only [Act.put, List.setIfInBounds_toArray, List.set_cons_zero, List.set_cons_succ, i64_w, i32_w]
    rfl
  refine pure_ (i := 8) (N := some 13) (v := ?_) (a' := ?_) #[true, true, true, true, true, true, true, true, true, false] rfl rfl (by kernel_rfl) (fun _ _ _ h => h) (Or.inl ⟨by rfl, ?_⟩) ?_ ?_
  rotate_left
  · intro w'
    go_simp
    with_reducible rfl
  rotate_left
  · simp only [Act.put, List.setIfInBounds_toArray, List.set_cons_zero, List.set_cons_succ, i64_w, i32_w]
    rfl
  refine pure_ (i := 9) (N := some 4) (v := ?_) (a' := ?_) #[true, true, true, true, true, true, true, true, true, true] rfl rfl (by kernel_rfl) (fun _ _ _ h => h) (Or.inl ⟨by rfl, ?_⟩) ?_ ?_
  rotate_left
  · intro w'
    go_simp
    with_reducible rfl
  rotate_left
  · simp only [Act.put, List.setIfInBounds_toArray, List.set_cons_zero, List.set_cons_succ, i64_w, i32_w]
    rfl
  refine done_ (by kernel_rfl) ?_
  go_wp2_with fail
  go_ret
  exact ⟨rfl, HS.out⟩
set_option maxHeartbeats 3200000 in
set_option maxRecDepth 100000 in
theorem search_hd (h : St (SL.blk bi 3 #[.int .i64 x] :: SL.blk bs 91 #[.pointer (some ⟨g, 0, none⟩)] :: SL.blk g 147 #[.slice A rs.length c, .slice B (ends rs).length d] :: SL.row k95 95 (.slice A rs.length c) rs :: SL.row (Kd.int .i64) 3 (.slice B (ends rs).length d) (ends rs) :: l) w0 w) (hk : Oks rs) : Calls Try.prog 76 #[.int .i64 (rs.length : Int), .func (.func 77) #[] #[.pointer (some ⟨bs, 0, none⟩), .pointer (some ⟨bi, 0, none⟩)]] w fun e w' => e = .returned (.int .i64 (idxR rs x : Int)) ∧ St (SL.blk bi 3 #[.int .i64 x] :: SL.blk bs 91 #[.pointer (some ⟨g, 0, none⟩)] :: SL.blk g 147 #[.slice A rs.length c, .slice B (ends rs).length d] :: SL.row k95 95 (.slice A rs.length c) rs :: SL.row (Kd.int .i64) 3 (.slice B (ends rs).length d) (ends rs) :: l) w0 w' := by
  have HS := Go.Lib.hid h
  have hlen := hk.len
  have hil := idxR_le rs x
  have HK := Go.Lib.hid hk
  clear h hk
  go_enter Try.func76, Try.ntmps76
  go_wp2_with fail
  go_loopw [5, 6] (fun a b wr => ∃ i j : Nat, a = .int .i64 (i : Int) ∧ b = .int .i64 (j : Int) ∧ i ≤ idxR rs x ∧ idxR rs x ≤ j ∧ j ≤ rs.length ∧ St (SL.blk bi 3 #[.int .i64 x] :: SL.blk bs 91 #[.pointer (some ⟨g, 0, none⟩)] :: SL.blk g 147 #[.slice A rs.length c, .slice B (ends rs).length d] :: SL.row k95 95 (.slice A rs.length c) rs :: SL.row (Kd.int .i64) 3 (.slice B (ends rs).length d) (ends rs) :: l) w0 wr) (fun a b _ => (intOf b - intOf a).toNat)
  case atStart => exact ⟨0, rs.length, rfl, rfl, Nat.zero_le _, hil, Nat.le_refl _, HS.out⟩
  case round =>
    clear HS
    obtain ⟨i, j, rfl, rfl, hi, hj, hjl, hS⟩ := hrel
    have HS := Go.Lib.hid hS
    clear hS
    by_cases hlt : i < j
    · have p0 : ((i : Int) < (j : Int)) = True := eq_true (by omega)
      obtain ⟨m, hm⟩ : ∃ m : Nat, m = (i + j) / 2 := ⟨_, rfl⟩
      have em : ((i : Int) + (j : Int)) / 2 = (m : Int) := by omega
      have hm0 : i ≤ m := by omega
      have hm1 : m < j := by omega
      have EM := Go.Lib.hid em
      clear hm em
      go_wp2_with fail
      rw [EM.out]
      refine (past_hd HS.out HK.out m (by omega)).mono ?_
      rintro e w5 ⟨rfl, HSn⟩
      replace HS := Go.Lib.hid HSn
      clear HSn
      by_cases hp : x < endAt rs m
      · have d0 : decide (x < endAt rs m) = true := by simpa using hp
        have hmi : idxR rs x ≤ m := by
          rcases Nat.lt_or_ge m (idxR rs x) with h1 | h1
          · exact absurd hp (idx_lo rs x m h1)
          · exact h1
        have HMI := Go.Lib.hid hmi
        clear hp hmi
        rw [d0]
        go_wp2_with fail
        go_roundw
        case rel => exact ⟨i, m, rfl, rfl, hi, HMI.out, by omega, HS.out⟩
        case measure => simp [intOf]; omega
      · have d0 : decide (x < endAt rs m) = false := by simpa using hp
        have hmi : m + 1 ≤ idxR rs x := by
          rcases Nat.lt_or_ge m (idxR rs x) with h1 | h1
          · exact h1
          · exact absurd (idx_hi HK.out x m h1 (by omega)) hp
        have HMI := Go.Lib.hid hmi
        clear hp hmi
        rw [d0]
        go_wp2_with fail
        go_roundw
        case rel => exact ⟨m + 1, j, rfl, rfl, HMI.out, hj, hjl, HS.out⟩
        case measure => simp [intOf]; omega
    · have hii : i = idxR rs x := by omega
      have HII := Go.Lib.hid hii
      have p0 : ((i : Int) < (j : Int)) = False := eq_false (by omega)
      clear hii
      go_wp2_with fail
      go_ret
      exact ⟨by rw [← HII.out]; rfl, HS.out⟩
set_option maxHeartbeats 3200000 in
set_option maxRecDepth 100000 in
theorem row_raw (h : St (SL.blk g 147 #[.slice A rs.length c, .slice B (ends rs).length d] :: SL.row k95 95 (.slice A rs.length c) rs :: SL.row (Kd.int .i64) 3 (.slice B (ends rs).length d) (ends rs) :: l) w0 w) (hk : Oks rs) : Calls Try.prog 63 #[.pointer (some ⟨g, 0, none⟩), .int .i64 x] w fun e w' => e = .returned (.int .i64 (idxR rs x : Int)) ∧ St (SL.blk g 147 #[.slice A rs.length c, .slice B (ends rs).length d] :: SL.row k95 95 (.slice A rs.length c) rs :: SL.row (Kd.int .i64) 3 (.slice B (ends rs).length d) (ends rs) :: l) w0 w' := by
  have HS := Go.Lib.hid h
  have HK := Go.Lib.hid hk
  have hel := ends_len rs
  clear h hk
  go_enter Try.func63, Try.ntmps63
  go_wp2_with (first | (go_at_call 76; refine (search_hd HS.out HK.out).mono ?_; rintro e w9 ⟨rfl, HSn⟩; replace HS := Go.Lib.hid HSn; clear HSn) | ((with_reducible refine gate_dst (N := 2) rfl ?_); refine Sl.box_st HS.out (by rfl) (cs := #[.pointer (some ⟨g, 0, none⟩)]) (t := 91) ?hr ?_; (case hr => first | (go_simp; done) | (go_simp; rfl)); intro bs w31_ HSn HBn; clear HBn; replace HS : Hid (St (SL.blk bs 91 #[.pointer (some ⟨g, 0, none⟩)] :: SL.blk g 147 #[.slice A rs.length c, .slice B (ends rs).length d] :: SL.row k95 95 (.slice A rs.length c) rs :: SL.row (Kd.int .i64) 3 (.slice B (ends rs).length d) (ends rs) :: l) w0 w31_) := Go.Lib.hid HSn; clear HSn; obtain c0_0 := HS.out.c1 0 _ _ _ rfl; obtain ⟨c1_0, c1_1⟩ := HS.out.c2 1 _ _ _ _ rfl) | ((with_reducible refine gate_dst (N := 3) rfl ?_); refine Sl.box_st HS.out (by rfl) (cs := #[.int .i64 x]) (t := 3) ?hr ?_; (case hr => first | (go_simp; done) | (go_simp; rfl)); intro bi w32_ HSn HBn; clear HBn; replace HS : Hid (St (SL.blk bi 3 #[.int .i64 x] :: SL.blk bs 91 #[.pointer (some ⟨g, 0, none⟩)] :: SL.blk g 147 #[.slice A rs.length c, .slice B (ends rs).length d] :: SL.row k95 95 (.slice A rs.length c) rs :: SL.row (Kd.int .i64) 3 (.slice B (ends rs).length d) (ends rs) :: l) w0 w32_) := Go.Lib.hid HSn; clear HSn; clear c0_0 c1_0 c1_1; obtain c0_0 := HS.out.c1 0 _ _ _ rfl; obtain c1_0 := HS.out.c1 1 _ _ _ rfl; obtain ⟨c2_0, c2_1⟩ := HS.out.c2 2 _ _ _ _ rfl))
  go_ret
  exact ⟨rfl, HS.out.drop.drop⟩
end Go.Proofs.Ytolokohgphdngaa.Str
