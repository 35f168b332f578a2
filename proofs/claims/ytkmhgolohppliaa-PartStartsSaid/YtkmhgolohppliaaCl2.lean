/- Cells as owned memory: Get, Copy; the document's calls in the same words. -/
import Derived.Test.YtkmhgolohppliaaRfc
namespace Go.Proofs.Ytkmhgolohppliaa.Cls
open Go.RowKit Go.Proofs.Ytkmhgolohppliaa.PCellsPlays Go.Proofs.YtkmhgolohppliaaW.PrintWords Go.Proofs.YtkmhgolohppliaaW.PrintLast Go.Proofs.YtkmhgolohppliaaW.PrintMore Go.Proofs.Ytkmhgolohppliaa.Mine Go.Proofs.Ytkmhgolohppliaa.Cel
open Go.Proofs.Ytkmhgolohppliaa.Sl (SL Stp St No)
set_option linter.unusedVariables false
set_option linter.unusedSimpArgs false
attribute [local go_sem] max2_int min2_int max_two min_two max_three min_three max_four min_four
variable {l : List SL} {w0 w : World} {g : Nat} {fst : List S43} {now : List Int} {wr : Int}

def getN (now : List Int) (i : Int) : Int := if inB i now.length = true then rd now i else 0
set_option maxHeartbeats 800000 in
theorem get_st (h : St l w0 w) (n : Nat) (e : l[n]? = some (cells g fst now wr)) (i : Int) :
    Calls Try.prog 35 #[.pointer (some ⟨g, 0, none⟩), .int .i64 i] w fun e w' => e = .returned (.tuple #[.int .u32 (getN now i), .bool (inB i now.length)]) ∧ w = w' := by
  obtain ⟨v1, v2, hI, _⟩ := open_ h n e
  clear e h
  have HI := Go.Lib.hid hI
  unfold getN
  by_cases hb : inB i now.length = true
  · rw [hb, if_pos rfl]
    have h0 : 0 ≤ i := by unfold inB at hb; simp at hb; omega
    have h1 : i < now.length := by unfold inB at hb; simp at hb; omega
    obtain ⟨b, cap, rfl, hcap, hc, hf, _⟩ := hI.at_ i h0 h1
    have c1 := blk_cell hI.blk 1
    clear hI
    go_enter Try.func35, Try.ntmps35
    go_wp2_with (go_at_call 92; refine (there_calls HI.out i).mono ?_; rintro e w' ⟨rfl, rfl⟩)
    go_ret2
    exact ⟨rfl, rfl⟩
  · have hb' : inB i now.length = false := by simpa using hb
    rw [hb', if_neg (by simp)]
    clear hI hb
    go_enter Try.func35, Try.ntmps35
    go_wp2_with (go_at_call 92; refine (there_calls HI.out i).mono ?_; rintro e w' ⟨rfl, rfl⟩)
    go_ret2
    exact ⟨rfl, rfl⟩
theorem fold_cells {v1 v2 : Value} (h : St (SL.blk g 170 #[v1, v2, .int .i64 wr] :: SL.row (Kd.int .u32) 39 v2 now :: SL.row k43 43 v1 fst :: l) w0 w) (hl : now.length = fst.length) : St (cells g fst now wr :: l) w0 w := by
  refine (h.pair.fuse _ (fun S hS => ?_))
  obtain ⟨S1, S2, ⟨T1, T2, h1, h2, hd1, hs1⟩, h3, hd, hs⟩ := hS
  refine ⟨All g v1 v2, ⟨v1, v2, ⟨h1.1, Nat.zero_le _, Kd.R_flat (fun h => h) h3.1 (fun k hk _ => hk), Kd.R_flat (fun h => h) h2.1 (fun k hk _ => hk), hl⟩, fun _ => Iff.rfl⟩, ?_⟩
  rintro i (rfl | hi | hi)
  · exact (hs _).2 (.inl ((hs1 _).2 (.inl ((h1.2 _).2 rfl))))
  · exact (hs _).2 (.inr (h3.1.1 i hi))
  · exact (hs _).2 (.inl ((hs1 _).2 (.inr (h2.1.1 i hi))))
-- COPY
set_option maxHeartbeats 1600000 in
set_option maxRecDepth 100000 in
theorem copy_st (h : St l w0 w) (n : Nat) (e : l[n]? = some (cells g fst now wr)) (hn : fst.length ≤ 1000000) :
    Calls Try.prog 37 #[.pointer (some ⟨g, 0, none⟩)] w fun e w' => ∃ g2, e = .returned (.pointer (some ⟨g2, 0, none⟩)) ∧ St (cells g2 fst now wr :: l) w0 w' := by
  obtain ⟨v1, v2, hI, _⟩ := open_ h n e
  clear e
  have hl := hI.len
  obtain ⟨A1, c1, rfl, _, hC⟩ := Kd.R_reads hI.drew.fst_
  obtain ⟨A2, c2, rfl, _, hD⟩ := Kd.R_reads hI.drew.now_
  have HC := Go.Lib.hid hC
  have HD := Go.Lib.hid hD
  have k0 := blk_cell hI.blk 0
  have k1 := blk_cell hI.blk 1
  have k2 := blk_cell hI.blk 2
  have HS := Go.Lib.hid h.drew
  have HL := Go.Lib.hid hl
  have hn2 : now.length ≤ 1000000 := by omega
  clear hC hD hI h hl
  go_enter Try.func37, Try.ntmps37
  go_wp2_with fail
  refine start_ (n := 17) (S := fun w' => w'.cell? ⟨g, 0, none⟩ = some (.slice A1 fst.length c1) ∧ w'.cell? ⟨g, 1, none⟩ = some (.slice A2 now.length c2) ∧ w'.cell? ⟨g, 2, none⟩ = some (.int .i64 wr)) (ds := []) #[false, false, false, false, false, false, false, false, false, false, false, false, false, false, false, false, false] (by kernel_rfl) rfl rfl ⟨pw_cell_below (below_drew (Below.refl _ _)) k0, pw_cell_below (below_drew (Below.refl _ _)) k1, pw_cell_below (below_drew (Below.refl _ _)) k2⟩ (fun hHeld => ?_)
  generalize w.drew = W_ at *
  refine pure_ (i := 0) (N := some 3) (v := ?_) (a' := ?_) #[true, false, false, false, false, false, false, false, false, false, false, false, false, false, false, false, false] rfl rfl (by kernel_rfl) (fun _ _ _ h => h) (Or.inl ⟨by rfl, ?_⟩) ?_ ?_
  rotate_left
  · intro w'
    go_simp
    with_reducible rfl
  rotate_left
  · simp only [Act.put, List.setIfInBounds_toArray, List.set_cons_zero, List.set_cons_succ, i64_w, i32_w]
    rfl
  refine pure_ (i := 1) (N := some 4) (v := ?_) (a' := ?_) #[true, true, false, false, false, false, false, false, false, false, false, false, false, false, false, false, false] rfl rfl (by kernel_rfl) (fun _ _ _ h => h) (Or.inl ⟨by rfl, ?_⟩) ?_ ?_
  rotate_left
  · intro w'
    go_simp
    with_reducible rfl
  rotate_left
  · simp only [Act.put, List.setIfInBounds_toArray, List.set_cons_zero, List.set_cons_succ, i64_w, i32_w]
    rfl
  refine pure_ (i := 2) (N := some 5) (v := ?_) (a' := ?_) #[true, true, true, false, false, false, false, false, false, false, false, false, false, false, false, false, false] rfl rfl (by kernel_rfl) (fun _ _ _ h => h) (Or.inl ⟨by rfl, ?_⟩) ?_ ?_
  rotate_left
  · intro w'
    go_simp
    with_reducible rfl
  rotate_left
  · simp only [Act.put, List.setIfInBounds_toArray, List.set_cons_zero, List.set_cons_succ, i64_w, i32_w]
    rfl
  refine pure_ (i := 5) (N := some 8) (v := ?_) (a' := ?_) #[true, true, true, false, false, true, false, false, false, false, false, false, false, false, false, false, false] rfl rfl (by kernel_rfl) (fun _ _ _ h => h) (Or.inl ⟨by rfl, ?_⟩) ?_ ?_
  rotate_left
  · intro w'
    go_simp
    with_reducible rfl
  rotate_left
  · simp only [Act.put, List.setIfInBounds_toArray, List.set_cons_zero, List.set_cons_succ, i64_w, i32_w]
    rfl
  refine pure_ (i := 6) (N := some 9) (v := ?_) (a' := ?_) #[true, true, true, false, false, true, true, false, false, false, false, false, false, false, false, false, false] rfl rfl (by kernel_rfl) (fun _ _ _ h => h) (Or.inl ⟨by rfl, ?_⟩) ?_ ?_
  rotate_left
  · intro w'
    go_simp
    with_reducible rfl
  rotate_left
  · simp only [Act.put, List.setIfInBounds_toArray, List.set_cons_zero, List.set_cons_succ, i64_w, i32_w]
    rfl
  refine pure_ (i := 7) (N := some 10) (v := ?_) (a' := ?_) #[true, true, true, false, false, true, true, true, false, false, false, false, false, false, false, false, false] rfl rfl (by kernel_rfl) (fun _ _ _ h => h) (Or.inl ⟨by rfl, ?_⟩) ?_ ?_
  rotate_left
  · intro w'
    go_simp
    with_reducible rfl
  rotate_left
  · simp only [Act.put, List.setIfInBounds_toArray, List.set_cons_zero, List.set_cons_succ, i64_w, i32_w]
    rfl
  refine pure_ (i := 10) (N := some 13) (v := ?_) (a' := ?_) #[true, true, true, false, false, true, true, true, false, false, true, false, false, false, false, false, false] rfl rfl (by kernel_rfl) (fun _ _ _ h => h) (Or.inl ⟨by rfl, ?_⟩) ?_ ?_
  rotate_left
  · intro w'
    go_simp
    with_reducible rfl
  rotate_left
  · simp only [Act.put, List.setIfInBounds_toArray, List.set_cons_zero, List.set_cons_succ, i64_w, i32_w]
    rfl
  refine pure_ (i := 11) (N := some 14) (v := ?_) (a' := ?_) #[true, true, true, false, false, true, true, true, false, false, true, true, false, false, false, false, false] rfl rfl (by kernel_rfl) (fun _ _ _ h => h) (Or.inl ⟨by rfl, ?_⟩) ?_ ?_
  rotate_left
  · intro w'
    go_simp
    with_reducible rfl
  rotate_left
  · simp only [Act.put, List.setIfInBounds_toArray, List.set_cons_zero, List.set_cons_succ, i64_w, i32_w]
    rfl
  refine pure_ (i := 12) (N := some 15) (v := ?_) (a' := ?_) #[true, true, true, false, false, true, true, true, false, false, true, true, true, false, false, false, false] rfl rfl (by kernel_rfl) (fun _ _ _ h => h) (Or.inl ⟨by rfl, ?_⟩) ?_ ?_
  rotate_left
  · intro w'
    go_simp
    with_reducible rfl
  rotate_left
  · simp only [Act.put, List.setIfInBounds_toArray, List.set_cons_zero, List.set_cons_succ, i64_w, i32_w]
    rfl
  refine take_ (i := 3) (N := some 6) (v := ?_) (a' := ?_) #[true, true, true, true, false, true, true, true, false, false, true, true, true, false, false, false, false] rfl rfl (by kernel_rfl) (fun _ _ _ h => h) (Or.inl ⟨by rfl, ?_⟩) hHeld ?_ ?_
  rotate_left
  · rintro w' ⟨s0, s1, s2⟩
    go_simp
    with_reducible rfl
  rotate_left
  · simp only [Act.put, List.setIfInBounds_toArray, List.set_cons_zero, List.set_cons_succ, i64_w, i32_w]
    rfl
  refine take_ (i := 8) (N := some 11) (v := ?_) (a' := ?_) #[true, true, true, true, false, true, true, true, true, false, true, true, true, false, false, false, false] rfl rfl (by kernel_rfl) (fun _ _ _ h => h) (Or.inl ⟨by rfl, ?_⟩) hHeld ?_ ?_
  rotate_left
  · rintro w' ⟨s0, s1, s2⟩
    go_simp
    with_reducible rfl
  rotate_left
  · simp only [Act.put, List.setIfInBounds_toArray, List.set_cons_zero, List.set_cons_succ, i64_w, i32_w]
    rfl
  refine take_ (i := 13) (N := some 16) (v := ?_) (a' := ?_) #[true, true, true, true, false, true, true, true, true, false, true, true, true, true, false, false, false] rfl rfl (by kernel_rfl) (fun _ _ _ h => h) (Or.inl ⟨by rfl, ?_⟩) hHeld ?_ ?_
  rotate_left
  · rintro w' ⟨s0, s1, s2⟩
    go_simp
    with_reducible rfl
  rotate_left
  · simp only [Act.put, List.setIfInBounds_toArray, List.set_cons_zero, List.set_cons_succ, i64_w, i32_w]
    rfl
  refine one_ (i := 4) (N := some 7) #[true, true, true, true, true, true, true, true, true, false, true, true, true, true, false, false, false] rfl rfl (by kernel_rfl) (by decide) (fun K hK => ?_)
  refine goes_ Try.func89 (by kernel_rfl) rfl #[.slice A1 fst.length c1] (by rfl) rfl rfl (by (try simp only [List.map_toArray, List.map_cons, List.map_nil]); first | done | rfl) ?_
  refine (clone89_calls A1 fst.length c1 fst _ HC.out (by omega)).mono ?_
  rintro e w9 ⟨v9, rfl, hR9, hB9⟩
  have hS9 := HS.out.row hR9 hB9
  obtain ⟨A9, c9, hv9, _⟩ := hS9.rowC 0 rfl
  subst hv9
  have HS9 := Go.Lib.hid hS9
  clear hS9
  have HD9 := Go.Lib.hid (Kd.C_below HD.out hB9)
  refine ⟨_, rfl, ?_⟩
  refine hK.out _ _ ⟨pw_cell_below hB9 hHeld.1, pw_cell_below hB9 hHeld.2.1, pw_cell_below hB9 hHeld.2.2⟩ (fun hHeld => ?_)
  clear hK K
  refine norm_ (a' := ?_) ?_ ?_
  rotate_left
  · show Act.put _ (some 7) _ = _
    simp only [Act.put, List.setIfInBounds_toArray, List.set_cons_zero, List.set_cons_succ, i64_w, i32_w]
    rfl
  refine one_ (i := 9) (N := some 12) #[true, true, true, true, true, true, true, true, true, true, true, true, true, true, false, false, false] rfl rfl (by kernel_rfl) (by decide) (fun K hK => ?_)
  clear hB9 hR9
  refine goes_ Try.func93 (by kernel_rfl) rfl #[.slice A2 now.length c2] (by rfl) rfl rfl (by (try simp only [List.map_toArray, List.map_cons, List.map_nil]); first | done | rfl) ?_
  refine (clone93_calls A2 now.length c2 now _ HD9.out (by omega)).mono ?_
  rintro e w10 ⟨v10, rfl, hR10, hB10⟩
  have hS10 := HS9.out.row hR10 hB10
  obtain ⟨A10, c10, hv10, _⟩ := hS10.rowC 0 rfl
  subst hv10
  have HS10 := Go.Lib.hid hS10
  clear hS10
  refine ⟨_, rfl, ?_⟩
  refine hK.out _ _ ⟨pw_cell_below hB10 hHeld.1, pw_cell_below hB10 hHeld.2.1, pw_cell_below hB10 hHeld.2.2⟩ (fun hHeld => ?_)
  clear hK K
  refine norm_ (a' := ?_) ?_ ?_
  rotate_left
  · show Act.put _ (some 12) _ = _
    simp only [Act.put, List.setIfInBounds_toArray, List.set_cons_zero, List.set_cons_succ, i64_w, i32_w]
    rfl
  refine pure_ (i := 14) (N := some 17) (v := ?_) (a' := ?_) #[true, true, true, true, true, true, true, true, true, true, true, true, true, true, true, false, false] rfl rfl (by kernel_rfl) (fun _ _ _ h => h) (Or.inl ⟨by rfl, ?_⟩) ?_ ?_
  rotate_left
  · intro w'
    go_simp
    with_reducible rfl
  rotate_left
  · simp only [Act.put, List.setIfInBounds_toArray, List.set_cons_zero, List.set_cons_succ, i64_w, i32_w]
    rfl
  refine one_ (i := 15) (N := some 18) #[true, true, true, true, true, true, true, true, true, true, true, true, true, true, true, true, false] rfl rfl (by kernel_rfl) (by decide) (fun K hK => ?_)
  refine Sl.box_stp HS10.out (by rfl) (cs := #[.slice A9 fst.length c9, .slice A10 now.length c10, .int .i64 wr]) (t := 170) ?hr ?_
  case hr => first | (go_simp; done) | (go_simp; rfl)
  intro g2 w11 HS11 hB11
  refine hK.out _ _ ⟨pw_cell_below hB11 hHeld.1, pw_cell_below hB11 hHeld.2.1, pw_cell_below hB11 hHeld.2.2⟩ (fun hHeld => ?_)
  clear hK K
  refine norm_ (a' := ?_) ?_ ?_
  rotate_left
  · show Act.put _ (some 18) _ = _
    simp only [Act.put, List.setIfInBounds_toArray, List.set_cons_zero, List.set_cons_succ, i64_w, i32_w]
    rfl
  refine pure_ (i := 16) (N := some 2) (v := ?_) (a' := ?_) #[true, true, true, true, true, true, true, true, true, true, true, true, true, true, true, true, true] rfl rfl (by kernel_rfl) (fun _ _ _ h => h) (Or.inl ⟨by rfl, ?_⟩) ?_ ?_
  rotate_left
  · intro w'
    go_simp
    with_reducible rfl
  rotate_left
  · simp only [Act.put, List.setIfInBounds_toArray, List.set_cons_zero, List.set_cons_succ, i64_w, i32_w]
    rfl
  refine done_ (by kernel_rfl) ?_
  go_wp2_with fail
  go_ret
  exact ⟨_, rfl, fold_cells HS11 HL.out⟩

theorem rnew_st (h : St l w0 w) (A : Option Addr) (c : Nat) (hC : k43.C w A fst.length fst) (hn : fst.length ≤ 1000) :
    Calls Try.prog 32 #[.slice A fst.length c] w fun e w' => ∃ v, e = .returned (.agg #[.slice A fst.length c, v, .int .i64 0]) ∧ St (SL.row (Kd.int .u32) 39 v (fst.map (·.f0)) :: l) w0 w' := by
  refine (Rfc.new_calls A c hC hn).mono ?_
  rintro e w1 ⟨v, rfl, hS⟩
  exact ⟨v, rfl, h.join1 hS⟩
theorem rset_st (h : St l w0 w) (n : Nat) (A : Option Addr) (m c : Nat) (A2 : Option Addr) (c2 : Nat) (e : l[n]? = some (SL.row (Kd.int .u32) 39 (.slice A2 now.length c2) now)) (i x : Int) (hn : now.length ≤ 1000000) (hw0 : 0 ≤ wr) (hw1 : wr ≤ 1000000) :
    Calls Try.prog 33 #[.agg #[.slice A m c, .slice A2 now.length c2, .int .i64 wr], .int .i64 i, .int .u32 x] w fun e w' => ∃ A3 c3, e = .returned (.tuple #[.agg #[.slice A m c, .slice A3 (setN now i x).length c3, .int .i64 (setM now i wr)], .bool (inB i now.length)]) ∧ St (l.set n (SL.row (Kd.int .u32) 39 (.slice A3 (setN now i x).length c3) (setN now i x))) w0 w' := by
  obtain ⟨S1, h1, hk⟩ := h.at_ n _ e
  by_cases hi : inB i now.length = true
  · obtain ⟨A', c', hv, hc', hC⟩ := Kd.R_reads h1.1
    injection hv with q1 _ q2
    subst q1 q2
    refine (Rfc.set_yes A m c A2 c2 wr i x hC hc' hn hi hw0 hw1).mono ?_
    rintro e w1 ⟨v, rfl, hS⟩
    obtain ⟨A3, c3, rfl, _, _⟩ := hS.rowC 0 rfl
    unfold setN setM
    rw [if_pos hi, if_pos hi, hi]
    obtain ⟨S2, ⟨S3, S4, h3, h4, _, hs⟩, k2⟩ := hS
    exact ⟨A3, c3, rfl, hk _ _ S3 h3 ((k2.sub (fun i hi => (hs i).2 (.inl hi))).more (fun _ h => h.elim))⟩
  · refine (Rfc.set_no A m c A2 now.length c2 wr i x (by simpa using hi)).mono ?_
    rintro e w1 ⟨rfl, hB⟩
    unfold setN setM
    rw [if_neg hi, if_neg hi, show inB i now.length = false by simpa using hi]
    exact ⟨A2, c2, rfl, hk _ _ S1 (SL.below h1 hB) (Stp.of_below hB)⟩
theorem rstart_st (h : St l w0 w) (n : Nat) (A : Option Addr) (c : Nat) (A2 : Option Addr) (c2 : Nat) (hC : k43.C w A fst.length fst) (e : l[n]? = some (SL.row (Kd.int .u32) 39 (.slice A2 now.length c2) now)) (hl : now.length = fst.length) (hn : fst.length ≤ 1000) (m : Int) (cold : Bool) :
    Calls Try.prog 34 #[.agg #[.slice A fst.length c, .slice A2 now.length c2, .int .i64 m], .bool cold] w fun e w' => ∃ A3 c3, e = .returned (.agg #[.slice A fst.length c, .slice A3 (back cold fst now fst.length).length c3, .int .i64 (if cold = true then 0 else m)]) ∧ St (l.set n (SL.row (Kd.int .u32) 39 (.slice A3 (back cold fst now fst.length).length c3) (back cold fst now fst.length))) w0 w' := by
  obtain ⟨S1, h1, hk⟩ := h.at_ n _ e
  obtain ⟨A', c', hv, hc', hD⟩ := Kd.R_reads h1.1
  injection hv with q1 _ q2
  subst q1 q2
  have fin : ∀ (v : Value) (w1 : World), St [SL.row (Kd.int .u32) 39 v (back cold fst now fst.length)] w w1 → ∃ A3 c3, v = .slice A3 (back cold fst now fst.length).length c3 ∧ St (l.set n (SL.row (Kd.int .u32) 39 v (back cold fst now fst.length))) w0 w1 := by
    intro v w1 hS
    obtain ⟨A3, c3, hv, _, _⟩ := hS.rowC 0 rfl
    obtain ⟨S2, ⟨S3, S4, h3, h4, _, hs⟩, k2⟩ := hS
    exact ⟨A3, c3, hv, hk _ _ S3 h3 ((k2.sub (fun i hi => (hs i).2 (.inl hi))).more (fun _ h => h.elim))⟩
  cases cold with
  | true =>
    refine (Rfc.start_true A c A2 c2 hC hD hl hn m).mono ?_
    rintro e w1 ⟨v, rfl, hS⟩
    obtain ⟨A3, c3, rfl, h5⟩ := fin v w1 hS
    exact ⟨A3, c3, rfl, h5⟩
  | false =>
    refine (Rfc.start_false A c A2 c2 hC hD hl hn m).mono ?_
    rintro e w1 ⟨v, rfl, hS⟩
    obtain ⟨A3, c3, rfl, h5⟩ := fin v w1 hS
    exact ⟨A3, c3, rfl, h5⟩
theorem rsame_tell (a b : List Int) (hl : a.length = b.length) (hm : a.length ≤ 1000000) (d : Nat) : ∀ (k i : Nat), i ≤ a.length → a.length - i = d → d < k → (∀ j : Nat, j < i → rd a j = rd b j) →
    countwheelref20_Same.l0 k a b (i : Int) = some (decide (a = b)) := by
  induction d with
  | zero =>
    intro k i hi hd hk hp
    obtain ⟨k, rfl⟩ : ∃ m, k = m + 1 := ⟨k - 1, by omega⟩
    obtain rfl : i = a.length := by omega
    simp only [countwheelref20_Same.l0]
    rw [if_neg (by omega)]
    have : a = b := List.ext_getElem hl (fun j h1 h2 => by have := hp j h1; rwa [rd_nat _ _ h1, rd_nat _ _ h2] at this)
    simp [this]
  | succ d ih =>
    intro k i hi hd hk hp
    obtain ⟨k, rfl⟩ : ∃ m, k = m + 1 := ⟨k - 1, by omega⟩
    have c1 : (i : Int) < (a.length : Int) := by omega
    have c2 : (0 : Int) ≤ (i : Int) := by omega
    have c3 : (i : Int) < (b.length : Int) := by omega
    have e : wrap64 ((i : Int) + 1) = ((i + 1 : Nat) : Int) := by unfold wrap64; omega
    simp only [countwheelref20_Same.l0]
    rw [if_pos c1, if_pos c2, if_pos c3]
    by_cases hq : rd a i = rd b i
    · rw [if_pos hq, e]
      clear e
      exact ih k (i + 1) (by omega) (by omega) (by omega) (fun j hj => by
        by_cases ej : j = i
        · subst ej; exact hq
        · exact hp j (by omega))
    · rw [if_neg hq]
      have : a ≠ b := by rintro rfl; exact hq rfl
      simp [this]
theorem rsame_at (a b : List Int) (hm : a.length ≤ 1000000) : countwheelref20_Same.f (a.length + 5) a b = some (decide (a = b)) := by
  unfold countwheelref20_Same.f
  by_cases h : (a.length : Int) = (b.length : Int)
  · rw [if_pos h]
    exact rsame_tell a b (by omega) hm a.length (a.length + 5) 0 (by omega) (by omega) (by omega) (fun j hj => absurd hj (Nat.not_lt_zero _))
  · rw [if_neg h]
    have : a ≠ b := by rintro rfl; exact h rfl
    simp [this]
/-- Are two rows of numbers one: the document's. -/
theorem rsame_st (h : St l w0 w) (n m : Nat) {a b : List Int} {A : Option Addr} {c : Nat} {B : Option Addr} {d : Nat} (e : l[n]? = some (SL.row (Kd.int .u32) 39 (.slice A a.length c) a)) (e2 : l[m]? = some (SL.row (Kd.int .u32) 39 (.slice B b.length d) b)) (hm : a.length ≤ 1000000) :
    Calls Try.prog 36 #[.slice A a.length c, .slice B b.length d] w fun e w' => e = .returned (.bool (decide (a = b))) ∧ St l w0 w' := by
  obtain ⟨A', c', hv, hc, hC⟩ := h.rowC n e
  injection hv with q1 _ q2
  subst q1 q2
  obtain ⟨A', c', hv, hc', hC'⟩ := h.rowC m e2
  injection hv with q1 _ q2
  subst q1 q2
  refine (countwheelref20_Same.calls (a.length + 5) A c a B d b _ w hC hc hC' hc' (rsame_at a b hm)).mono ?_
  rintro e w1 ⟨rfl, hD⟩
  exact ⟨rfl, h.drawn hD⟩
end Go.Proofs.Ytkmhgolohppliaa.Cls
