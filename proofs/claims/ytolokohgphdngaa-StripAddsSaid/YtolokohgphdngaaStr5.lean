/- How many ticks are whose; the strip of owners. -/
import Derived.Test.YtolokohgphdngaaStr4
namespace Go.Proofs.Ytolokohgphdngaa.Str
open Go.RowKit Go.Proofs.YtolokohgphdngaaW.PrintWords Go.Proofs.YtolokohgphdngaaW.PrintLast Go.Proofs.YtolokohgphdngaaW.PrintMore Go.Proofs.Ytolokohgphdngaa.Mine Go.Proofs.Ytolokohgphdngaa.PStripAdds
open Go.Proofs.Ytolokohgphdngaa.Sl (SL Stp Chg St No)
set_option linter.unusedVariables false
set_option linter.unusedSimpArgs false
attribute [local go_sem] max2_int min2_int max_two min_two max_three min_three max_four min_four
variable {l : List SL} {w0 w : World} {g : Nat} {rs : List S95}
theorem set_same {k : Nat} {x : SL} (e : l[k]? = some x) : l.set k x = l := by
  obtain ⟨h, hx⟩ := List.getElem?_eq_some_iff.1 e
  rw [← hx, List.set_getElem_self]
/-- How many ticks are an owner's. -/
def countR (rs : List S95) (id : Int) : Int := (rs.map fun r => if r.f0 = id then r.f1 else 0).sum
theorem countR_le (id : Int) : ∀ {rs : List S95}, (∀ r ∈ rs, 1 ≤ r.f1) → 0 ≤ countR rs id ∧ countR rs id ≤ total rs
  | [], _ => by simp [countR, total]
  | r :: l, h => by
    have h1 := h r (by simp)
    have h2 := countR_le id (rs := l) (fun x hx => h x (by simp [hx]))
    simp only [countR, total, List.map_cons, List.sum_cons] at h2 ⊢
    split <;> omega
theorem take_ok (h : Oks rs) (k : Nat) : Oks (rs.take k) := by
  refine ⟨fun r hr => h.pos r (List.mem_of_mem_take hr), ?_⟩
  have h1 := total_app (rs.take k) (rs.drop k)
  rw [List.take_append_drop] at h1
  have h2 := total_ge (rs := rs.drop k) (fun r hr => h.pos r (List.mem_of_mem_drop hr))
  have := h.top
  omega
theorem take_succ_rd (rs : List S95) (k : Nat) (h : k < rs.length) : rs.take (k + 1) = rs.take k ++ [rd_T95 rs (k : Int)] := by
  rw [List.take_succ_eq_append_getElem h]
  unfold rd_T95
  rw [Int.toNat_natCast, List.getD_eq_getElem?_getD, List.getElem?_eq_getElem h]
  rfl
set_option maxHeartbeats 3200000 in
set_option maxRecDepth 100000 in
theorem count_hd (h : St (stp g rs :: l) w0 w) (hk : Oks rs) (id : Int) : Calls Try.prog 44 #[.pointer (some ⟨g, 0, none⟩), .int .i64 id] w fun e w' => e = .returned (.int .i64 (countR rs id)) ∧ St (stp g rs :: l) w0 w' := by
  obtain ⟨A, c, B, d, hS⟩ := open_stp h
  have hlen := hk.len
  clear h
  have HS := Go.Lib.hid hS
  clear hS
  obtain ⟨c0, c1⟩ := HS.out.c2 0 _ _ _ _ rfl
  go_enter Try.func44, Try.ntmps44
  go_wp2_with fail
  clear c0 c1
  go_loopw [5, 13] (fun a i wr => ∃ k : Nat, k ≤ rs.length ∧ a = .int .i64 (countR (rs.take k) id) ∧ i = .int .i64 k ∧ St (SL.blk g 147 #[.slice A rs.length c, .slice B (ends rs).length d] :: SL.row k95 95 (.slice A rs.length c) rs :: SL.row (Kd.int .i64) 3 (.slice B (ends rs).length d) (ends rs) :: l) w0 wr) (fun _ i _ => rs.length - (intOf i).toNat)
  case atStart => exact ⟨0, Nat.zero_le _, rfl, rfl, HS.out⟩
  case round =>
    clear HS
    obtain ⟨k, hkl, rfl, rfl, hS⟩ := hrel
    have HS := Go.Lib.hid hS
    clear hS
    by_cases hlt : k < rs.length
    · obtain ⟨_, _, hv, _, hC⟩ := HS.out.rowC 1 rfl
      injection hv with q1 _ q3
      subst q1 q3
      obtain ⟨ad, rfl, g0, g1⟩ := at_T95 hC (k : Int) (by omega) (by omega)
      rw [Int.toNat_natCast] at g0 g1
      have htk := take_succ_rd rs k hlt
      have hcb := countR_le id (take_ok hk (k + 1)).pos
      have hct := (take_ok hk (k + 1)).top
      have hcc : countR (rs.take (k + 1)) id = countR (rs.take k) id + (if (rd_T95 rs (k : Int)).f0 = id then (rd_T95 rs (k : Int)).f1 else 0) := by rw [htk]; simp [countR]
      generalize rd_T95 rs (k : Int) = r at *
      have hcd : 0 ≤ countR (rs.take k) id ∧ countR (rs.take k) id ≤ 1073741824 := by
        have h1 := countR_le id (take_ok hk k).pos
        have h2 := (take_ok hk k).top
        omega
      have hcl : k + 1 ≤ rs.length := hlt
      have htot : countR (rs.take (k + 1)) id ≤ 1073741824 := by omega
      have hnn : 0 ≤ countR (rs.take (k + 1)) id := hcb.1
      clear hC htk hcb hct
      by_cases hid : r.f0 = id
      · have d0 : (r.f0 == id) = true := by rw [beq_iff_eq]; exact hid
        rw [if_pos hid] at hcc
        have b0 : 0 ≤ countR (rs.take k) id + r.f1 := by omega
        have b1 : countR (rs.take k) id + r.f1 ≤ 1073741824 := by omega
        have HCC := Go.Lib.hid hcc
        clear hcc hid htot hnn
        obtain ⟨c0_0, c0_1⟩ := HS.out.c2 0 _ _ _ _ rfl
        go_wp2_with (first | ((with_reducible refine gate_dst (N := 7) rfl ?_); refine Sl.box_st HS.out (by rfl) (cs := #[.int .i64 0, .int .i64 0]) (t := 95) ?hr ?_; (case hr => first | (go_simp; done) | (go_simp; rfl)); intro gx w21_ HSn HBn; clear HBn; replace HS : Hid (St (SL.blk gx 95 #[.int .i64 0, .int .i64 0] :: SL.blk g 147 #[.slice (some ad) rs.length c, .slice B (ends rs).length d] :: SL.row k95 95 (.slice (some ad) rs.length c) rs :: SL.row (Kd.int .i64) 3 (.slice B (ends rs).length d) (ends rs) :: l) w0 w21_) := Go.Lib.hid HSn; clear HSn; clear c0_0 c0_1; obtain ⟨c0_0, c0_1⟩ := HS.out.c2 0 _ _ _ _ rfl; obtain ⟨c1_0, c1_1⟩ := HS.out.c2 1 _ _ _ _ rfl) | ((with_reducible refine gate_store (p := 7) rfl ?_); refine Sl.storeAll_st HS.out 0 gx 95 _ rfl [.int .i64 r.f0, .int .i64 r.f1] rfl (by rfl) (by rfl) ?hr ?_; (case hr => have f_ := HS.out.f2 0 _ _ _ _ rfl; (try obtain ⟨f0, f1⟩ := f_); first | (go_simp; done) | (go_simp; rfl)); intro w22_ HSn; replace HS : Hid (St (SL.blk gx 95 #[.int .i64 r.f0, .int .i64 r.f1] :: SL.blk g 147 #[.slice (some ad) rs.length c, .slice B (ends rs).length d] :: SL.row k95 95 (.slice (some ad) rs.length c) rs :: SL.row (Kd.int .i64) 3 (.slice B (ends rs).length d) (ends rs) :: l) w0 w22_) := Go.Lib.hid HSn; clear HSn; clear c0_0 c0_1 c1_0 c1_1; obtain ⟨c0_0, c0_1⟩ := HS.out.c2 0 _ _ _ _ rfl; obtain ⟨c1_0, c1_1⟩ := HS.out.c2 1 _ _ _ _ rfl))
        go_roundw
        case rel => exact ⟨k + 1, hcl, by rw [HCC.out], rfl, HS.out.erase 0⟩
        case measure => simp [intOf]; omega
      · have d0 : (r.f0 == id) = false := by rw [beq_eq_false_iff_ne]; exact hid
        rw [if_neg hid, Int.add_zero] at hcc
        have HCC := Go.Lib.hid hcc
        clear hcc hid htot hnn
        obtain ⟨c0_0, c0_1⟩ := HS.out.c2 0 _ _ _ _ rfl
        go_wp2_with (first | ((with_reducible refine gate_dst (N := 7) rfl ?_); refine Sl.box_st HS.out (by rfl) (cs := #[.int .i64 0, .int .i64 0]) (t := 95) ?hr ?_; (case hr => first | (go_simp; done) | (go_simp; rfl)); intro gx w21_ HSn HBn; clear HBn; replace HS : Hid (St (SL.blk gx 95 #[.int .i64 0, .int .i64 0] :: SL.blk g 147 #[.slice (some ad) rs.length c, .slice B (ends rs).length d] :: SL.row k95 95 (.slice (some ad) rs.length c) rs :: SL.row (Kd.int .i64) 3 (.slice B (ends rs).length d) (ends rs) :: l) w0 w21_) := Go.Lib.hid HSn; clear HSn; clear c0_0 c0_1; obtain ⟨c0_0, c0_1⟩ := HS.out.c2 0 _ _ _ _ rfl; obtain ⟨c1_0, c1_1⟩ := HS.out.c2 1 _ _ _ _ rfl) | ((with_reducible refine gate_store (p := 7) rfl ?_); refine Sl.storeAll_st HS.out 0 gx 95 _ rfl [.int .i64 r.f0, .int .i64 r.f1] rfl (by rfl) (by rfl) ?hr ?_; (case hr => have f_ := HS.out.f2 0 _ _ _ _ rfl; (try obtain ⟨f0, f1⟩ := f_); first | (go_simp; done) | (go_simp; rfl)); intro w22_ HSn; replace HS : Hid (St (SL.blk gx 95 #[.int .i64 r.f0, .int .i64 r.f1] :: SL.blk g 147 #[.slice (some ad) rs.length c, .slice B (ends rs).length d] :: SL.row k95 95 (.slice (some ad) rs.length c) rs :: SL.row (Kd.int .i64) 3 (.slice B (ends rs).length d) (ends rs) :: l) w0 w22_) := Go.Lib.hid HSn; clear HSn; clear c0_0 c0_1 c1_0 c1_1; obtain ⟨c0_0, c0_1⟩ := HS.out.c2 0 _ _ _ _ rfl; obtain ⟨c1_0, c1_1⟩ := HS.out.c2 1 _ _ _ _ rfl))
        go_roundw
        case rel => exact ⟨k + 1, hcl, by rw [HCC.out], rfl, HS.out.erase 0⟩
        case measure => simp [intOf]; omega
    · obtain rfl : k = rs.length := by omega
      go_wp2_with fail
      go_ret
      exact ⟨by first | rfl | (rw [List.take_length]; rfl), shut_stp HS.out⟩
theorem count_st (h : St l w0 w) (k : Nat) (e : l[k]? = some (stp g rs)) (hk : Oks rs) (id : Int) : Calls Try.prog 44 #[.pointer (some ⟨g, 0, none⟩), .int .i64 id] w fun e w' => e = .returned (.int .i64 (countR rs id)) ∧ St l w0 w' :=
  (count_hd (h.front k _ e) hk id).mono fun _ _ ⟨he, hS⟩ => ⟨he, by have := St.back k (List.getElem?_eq_some_iff.1 e).1 hS; rwa [set_same e] at this⟩
set_option maxHeartbeats 1600000 in
set_option maxRecDepth 100000 in
/-- Same. -/
theorem same_strips (h : St l w0 w) (i j : Nat) {g' : Nat} {qs : List S95} (e1 : l[i]? = some (stp g rs)) (e2 : l[j]? = some (stp g' qs)) (b : Bool) (hb : strip_Row_66.f (rs.length + qs.length + 1) rs qs = some b) (hk : Oks rs) (hk2 : Oks qs) : Calls Try.prog 49 #[.pointer (some ⟨g, 0, none⟩), .pointer (some ⟨g', 0, none⟩)] w fun e w' => e = .returned (.bool b) ∧ St l w0 w' := by
  have HS := Go.Lib.hid h
  clear h
  go_enter Try.func49, Try.ntmps49
  go_wp2_with fail
  replace HS := Go.Lib.hid HS.out.drew
  obtain ⟨A, c, B, d, hS⟩ := open_stp (HS.out.front i _ e1)
  obtain ⟨A', c', B', d', hS'⟩ := open_stp (HS.out.front j _ e2)
  obtain ⟨c0, _⟩ := hS.c2 0 _ _ _ _ rfl
  obtain ⟨c2, _⟩ := hS'.c2 0 _ _ _ _ rfl
  obtain ⟨_, _, hv, hc, hC⟩ := hS.rowC 1 rfl
  obtain ⟨_, _, hv', hc', hC'⟩ := hS'.rowC 1 rfl
  injection hv with q1 _ q3
  injection hv' with q4 _ q6
  subst q1 q3 q4 q6
  have HC := Go.Lib.hid hC
  have HC' := Go.Lib.hid hC'
  clear hS hS' hC hC'
  refine start_ (n := 10) (S := fun w' => w'.cell? ⟨g, 0, none⟩ = some (.slice A rs.length c) ∧ w'.cell? ⟨g', 0, none⟩ = some (.slice A' qs.length c')) (ds := []) #[false, false, false, false, false, false, false, false, false, false] (by kernel_rfl) rfl rfl ⟨c0, c2⟩ (fun hHeld => ?_)
  generalize w.drew = W_ at *
  refine pure_ (i := 0) (N := some 5) (v := ?_) (a' := ?_) #[true, false, false, false, false, false, false, false, false, false] rfl rfl (by kernel_rfl) (fun _ _ _ h => h) (Or.inl ⟨by rfl, ?_⟩) ?_ ?_
  rotate_left
  · intro w'
    go_simp
    with_reducible rfl
  rotate_left
  · simp only [Act.put, List.setIfInBounds_toArray, List.set_cons_zero, List.set_cons_succ, i64_w, i32_w]
    rfl
  refine pure_ (i := 1) (N := some 6) (v := ?_) (a' := ?_) #[true, true, false, false, false, false, false, false, false, false] rfl rfl (by kernel_rfl) (fun _ _ _ h => h) (Or.inl ⟨by rfl, ?_⟩) ?_ ?_
  rotate_left
  · intro w'
    go_simp
    with_reducible rfl
  rotate_left
  · simp only [Act.put, List.setIfInBounds_toArray, List.set_cons_zero, List.set_cons_succ, i64_w, i32_w]
    rfl
  refine pure_ (i := 2) (N := some 7) (v := ?_) (a' := ?_) #[true, true, true, false, false, false, false, false, false, false] rfl rfl (by kernel_rfl) (fun _ _ _ h => h) (Or.inl ⟨by rfl, ?_⟩) ?_ ?_
  rotate_left
  · intro w'
    go_simp
    with_reducible rfl
  rotate_left
  · simp only [Act.put, List.setIfInBounds_toArray, List.set_cons_zero, List.set_cons_succ, i64_w, i32_w]
    rfl
  refine pure_ (i := 4) (N := some 9) (v := ?_) (a' := ?_) #[true, true, true, false, true, false, false, false, false, false] rfl rfl (by kernel_rfl) (fun _ _ _ h => h) (Or.inl ⟨by rfl, ?_⟩) ?_ ?_
  rotate_left
  · intro w'
    go_simp
    with_reducible rfl
  rotate_left
  · simp only [Act.put, List.setIfInBounds_toArray, List.set_cons_zero, List.set_cons_succ, i64_w, i32_w]
    rfl
  refine pure_ (i := 5) (N := some 10) (v := ?_) (a' := ?_) #[true, true, true, false, true, true, false, false, false, false] rfl rfl (by kernel_rfl) (fun _ _ _ h => h) (Or.inl ⟨by rfl, ?_⟩) ?_ ?_
  rotate_left
  · intro w'
    go_simp
    with_reducible rfl
  rotate_left
  · simp only [Act.put, List.setIfInBounds_toArray, List.set_cons_zero, List.set_cons_succ, i64_w, i32_w]
    rfl
  refine pure_ (i := 6) (N := some 11) (v := ?_) (a' := ?_) #[true, true, true, false, true, true, true, false, false, false] rfl rfl (by kernel_rfl) (fun _ _ _ h => h) (Or.inl ⟨by rfl, ?_⟩) ?_ ?_
  rotate_left
  · intro w'
    go_simp
    with_reducible rfl
  rotate_left
  · simp only [Act.put, List.setIfInBounds_toArray, List.set_cons_zero, List.set_cons_succ, i64_w, i32_w]
    rfl
  refine take_ (i := 3) (N := some 8) (v := ?_) (a' := ?_) #[true, true, true, true, true, true, true, false, false, false] rfl rfl (by kernel_rfl) (fun _ _ _ h => h) (Or.inl ⟨by rfl, ?_⟩) hHeld ?_ ?_
  rotate_left
  · rintro w' ⟨s0, s1⟩
    go_simp
    with_reducible rfl
  rotate_left
  · simp only [Act.put, List.setIfInBounds_toArray, List.set_cons_zero, List.set_cons_succ, i64_w, i32_w]
    rfl
  refine take_ (i := 7) (N := some 12) (v := ?_) (a' := ?_) #[true, true, true, true, true, true, true, true, false, false] rfl rfl (by kernel_rfl) (fun _ _ _ h => h) (Or.inl ⟨by rfl, ?_⟩) hHeld ?_ ?_
  rotate_left
  · rintro w' ⟨s0, s1⟩
    go_simp
    with_reducible rfl
  rotate_left
  · simp only [Act.put, List.setIfInBounds_toArray, List.set_cons_zero, List.set_cons_succ, i64_w, i32_w]
    rfl
  refine one_ (i := 8) (N := some 13) #[true, true, true, true, true, true, true, true, true, false] rfl rfl (by kernel_rfl) (by decide) (fun K hK => ?_)
  refine goes_ Try.func66 (by kernel_rfl) rfl #[.slice A rs.length c, .slice A' qs.length c'] (by rfl) rfl rfl (by (try simp only [List.map_toArray, List.map_cons, List.map_nil]); first | done | rfl) ?_
  refine (strip_Row_66.calls (rs.length + qs.length + 1) A c rs A' c' qs b _ HC.out hc HC'.out hc' hb).mono ?_
  rintro e w91 ⟨rfl, hD⟩
  have HS91 := Go.Lib.hid (HS.out.drawn hD)
  have c0' : w91.cell? ⟨g, 0, none⟩ = some (.slice A rs.length c) := by obtain ⟨q_, hq_⟩ := hD.out; rw [hq_]; exact c0
  have c2' : w91.cell? ⟨g', 0, none⟩ = some (.slice A' qs.length c') := by obtain ⟨q_, hq_⟩ := hD.out; rw [hq_]; exact c2
  clear hD
  refine ⟨_, rfl, ?_⟩
  refine hK.out _ _ ⟨c0', c2'⟩ (fun hHeld => ?_)
  clear hK K
  refine norm_ (a' := ?_) ?_ ?_
  rotate_left
  · show Act.put _ (some 13) _ = _
    simp only [Act.put, List.setIfInBounds_toArray, List.set_cons_zero, List.set_cons_succ, i64_w, i32_w]
    rfl
  refine pure_ (i := 9) (N := some 4) (v := ?_) (a' := ?_) #[true, true, true, true, true, true, true, true, true, true] rfl rfl (by kernel_rfl) (fun _ _ _ h => h) (Or.inl ⟨by rfl, ?_⟩) ?_ ?_
  rotate_left
  · intro w'
    go_simp
    with_reducible rfl
  rotate_left
  · simp only [Act.put, List.setIfInBounds_toArray, List.set_cons_zero, List.set_cons_succ, i64_w, i32_w]
    rfl
  refine done_ (by kernel_rfl) ?_
  go_wp2_with fail
  go_ret
  exact ⟨rfl, HS91.out⟩
end Go.Proofs.Ytolokohgphdngaa.Str
