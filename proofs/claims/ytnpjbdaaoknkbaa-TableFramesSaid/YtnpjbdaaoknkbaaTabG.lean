/- TableFrames: the walk. -/
import Derived.Test.YtnpjbdaaoknkbaaTabF
import Derived.IntWalk
namespace Go.Proofs.Ytnpjbdaaoknkbaa.Tab
open Go.RowKit Go.Proofs.YtnpjbdaaoknkbaaW.PrintWords Go.Proofs.YtnpjbdaaoknkbaaW.PrintLast Go.Proofs.YtnpjbdaaoknkbaaW.PrintMore Go.Proofs.Ytnpjbdaaoknkbaa.Mine Go.Proofs.Ytnpjbdaaoknkbaa.PTableFrames
open Go.Proofs.Ytnpjbdaaoknkbaa.Sl (SL Stp Chg St No wpc_seal wpc_round sealed)
set_option linter.unusedVariables false
set_option linter.unusedSimpArgs false
attribute [local go_sem] max2_int min2_int max_two min_two max_three min_three max_four min_four
/-- Where a run begins: where the one ahead ends. -/
def endR (rs : List S44) (k : Nat) : Int := if k = 0 then 0 else (rd_T44 rs ((k - 1 : Nat) : Int)).f1 + (rd_T44 rs ((k - 1 : Nat) : Int)).f2
theorem endR_from {own : Int → Int} {rs : List S44} {at_ : Int} (h : Runs own rs at_) {k : Nat} (hk : k < rs.length) : (rd_T44 rs (k : Int)).f1 = endR rs k := by
  unfold endR
  by_cases c : k = 0
  · subst c; rw [if_pos rfl]; exact h.first _ (rd_get rs 0 hk)
  · rw [if_neg c]
    exact (h.step (k - 1) _ _ (rd_get rs (k - 1) (by omega)) (by rw [show k - 1 + 1 = k by omega]; exact rd_get rs k hk)).1
theorem endR_succ {own : Int → Int} {rs : List S44} {at_ : Int} (h : Runs own rs at_) {k : Nat} (hk : k < rs.length) : endR rs (k + 1) = endR rs k + (rd_T44 rs (k : Int)).f2 := by
  rw [← endR_from h hk]
  unfold endR
  rw [if_neg (by omega), Nat.add_sub_cancel]
theorem endR_last {own : Int → Int} {rs : List S44} {at_ : Int} (h : Runs own rs at_) (hp : 0 < rs.length) : endR rs rs.length = at_ := by
  unfold endR
  rw [if_neg (by omega)]
  exact h.last _ (by rw [List.getLast?_eq_getElem?]; exact rd_get rs (rs.length - 1) (by omega))
theorem mod_next {k t fr : Int} (hk : 0 ≤ k) (h : k.tmod fr = t) (h0 : 0 ≤ t) (h1 : t < fr) : (k + 1).tmod fr = nextT fr t := by
  rw [Int.tmod_eq_emod_of_nonneg hk] at h
  rw [Int.tmod_eq_emod_of_nonneg (by omega)]
  unfold nextT
  by_cases c : t + 1 < fr
  · rw [if_pos c, Int.add_emod, h, Int.emod_eq_of_lt (a := 1) (by omega) (by omega), Int.emod_eq_of_lt (by omega) c]
  · rw [if_neg c]
    have e : t = fr - 1 := by omega
    have h2 := Int.mul_ediv_add_emod k fr
    rw [h, e] at h2
    have h3 : k + 1 = fr * (k / fr + 1) := by rw [Int.mul_add]; omega
    rw [h3, Int.mul_emod_right]
theorem next_ne {t fr : Int} (h0 : 0 ≤ t) : (nextT fr t != 0) = decide (t + 1 < fr) := by
  unfold nextT
  by_cases c : t + 1 < fr
  · rw [if_pos c, decide_eq_true c, bne_iff_ne]; omega
  · rw [if_neg c, decide_eq_false c]; rfl
theorem next_bd {t fr : Int} (h0 : 0 ≤ t) (h1 : 1 ≤ fr) : 0 ≤ nextT fr t ∧ nextT fr t < fr := by
  unfold nextT
  split <;> omega
theorem in_after {own : Int → Int} {rs : List S44} {fr t : Int} {j : Nat} (h : Runs own rs fr) (hi : In rs t j) (hp : 0 < fr) : In rs (nextT fr t) (nextJ rs fr t j) := by
  unfold nextT nextJ
  by_cases c : t + 1 < fr
  · rw [if_pos c, if_pos c]; exact h.in_next hi c
  · rw [if_neg c, if_neg c]; exact h.in_zero hp
set_option maxHeartbeats 12800000 in
set_option maxRecDepth 100000 in
theorem table_raw (w : World) (id fr : Int) (A2 : Option Addr) (c2 : Nat) (ws : List S30) (A3 : Option Addr) (c3 : Nat) (ns : List S87) (hr2 : Kd.C k30 w A2 ws.length ws) (hc2 : ws.length ≤ c2) (hr3 : Kd.C k87 w A3 ns.length ns) (hc3 : ns.length ≤ c3) :
    Calls Try.prog 3 #[.agg #[.int .i64 id, .int .i64 fr, .slice A2 ws.length c2, .slice A3 ns.length c3]] w fun e w' => e = .returned (.bool true) ∧ Below w.heap.size w w' := by
  obtain ⟨KR, hKR⟩ : ∃ KR, KR = ws.length + ns.length + 3 := ⟨_, rfl⟩
  obtain ⟨KO, hKO⟩ : ∃ KO, KO = ws.length + 2 := ⟨_, rfl⟩
  obtain ⟨r0, hrg, hrg2⟩ := right_is ⟨id, fr, ws, ns⟩ (show Small ws from hr2.2.1) (show Small ns from hr3.2.1) KR (by show ws.length + ns.length + 3 ≤ KR; omega)
  have HRG : Hid (countwheelref09_Right.f KR id fr ws ns = some r0) := Go.Lib.hid hrg
  have HWS : Hid (Small ws) := Go.Lib.hid hr2.2.1
  have HKO := Go.Lib.hid hKO
  have HR2 := Go.Lib.hid hr2
  have HR3 := Go.Lib.hid hr3
  have HS := Go.Lib.hid (St.start w)
  clear hr2 hr3 hKR hKO hrg
  by_cases h40 : (40 : Int) < (ws.length : Int)
  · have d40 : decide ((40 : Int) < (ws.length : Int)) = true := by simpa using h40
    clear h40
    go_enter Try.func3, Try.ntmps3
    go_wp2_with (first | ((with_reducible refine gate_dst (N := 1) rfl ?_); refine Sl.box_st HS.out (by rfl) (cs := #[.int .i64 id, .int .i64 fr, .slice A2 ws.length c2, .slice A3 ns.length c3]) (t := 25) ?hr ?_; (case hr => first | (go_simp; done) | (go_simp; rfl)); intro gM w1_ HSn HBn; clear HBn; replace HS : Hid (St (SL.blk gM 25 #[.int .i64 id, .int .i64 fr, .slice A2 ws.length c2, .slice A3 ns.length c3] :: []) w w1_) := Go.Lib.hid HSn; clear HSn; obtain ⟨c0_0, c0_1, c0_2, c0_3⟩ := HS.out.c4 0 _ _ _ _ _ _ rfl) | (go_at_call 11; refine (awake_st HS.out).mono ?_; rintro e w97_ ⟨rfl, hS9⟩; replace HS := Go.Lib.hid hS9; clear hS9))
    go_ret
    exact ⟨rfl, HS.out.below⟩
  have d40 : decide ((40 : Int) < (ws.length : Int)) = false := by simpa using h40
  by_cases h200 : (200 : Int) < fr
  · have d200 : decide ((200 : Int) < fr) = true := by simpa using h200
    clear h40 h200
    go_enter Try.func3, Try.ntmps3
    go_wp2_with (first | ((with_reducible refine gate_dst (N := 1) rfl ?_); refine Sl.box_st HS.out (by rfl) (cs := #[.int .i64 id, .int .i64 fr, .slice A2 ws.length c2, .slice A3 ns.length c3]) (t := 25) ?hr ?_; (case hr => first | (go_simp; done) | (go_simp; rfl)); intro gM w1_ HSn HBn; clear HBn; replace HS : Hid (St (SL.blk gM 25 #[.int .i64 id, .int .i64 fr, .slice A2 ws.length c2, .slice A3 ns.length c3] :: []) w w1_) := Go.Lib.hid HSn; clear HSn; obtain ⟨c0_0, c0_1, c0_2, c0_3⟩ := HS.out.c4 0 _ _ _ _ _ _ rfl) | (go_at_call 11; refine (awake_st HS.out).mono ?_; rintro e w97_ ⟨rfl, hS9⟩; replace HS := Go.Lib.hid hS9; clear hS9))
    go_ret
    exact ⟨rfl, HS.out.below⟩
  have d200 : decide ((200 : Int) < fr) = false := by simpa using h200
  by_cases hr0 : r0 = 0
  rotate_left
  · have dr : (r0 != 0) = true := by rw [bne_iff_ne]; exact hr0
    clear h40 h200 hr0 hrg2
    go_enter Try.func3, Try.ntmps3
    go_wp2_with (first | ((with_reducible refine gate_dst (N := 1) rfl ?_); refine Sl.box_st HS.out (by rfl) (cs := #[.int .i64 id, .int .i64 fr, .slice A2 ws.length c2, .slice A3 ns.length c3]) (t := 25) ?hr ?_; (case hr => first | (go_simp; done) | (go_simp; rfl)); intro gM w1_ HSn HBn; clear HBn; replace HS : Hid (St (SL.blk gM 25 #[.int .i64 id, .int .i64 fr, .slice A2 ws.length c2, .slice A3 ns.length c3] :: []) w w1_) := Go.Lib.hid HSn; clear HSn; obtain ⟨c0_0, c0_1, c0_2, c0_3⟩ := HS.out.c4 0 _ _ _ _ _ _ rfl) | (go_at_call 10; refine (countwheelref09_Right.calls KR id fr A2 c2 ws A3 c3 ns _ _ (HS.out.C HR2.out) hc2 (HS.out.C HR3.out) hc3 HRG.out).mono ?_; rintro e w' ⟨rfl, hB⟩; replace HS := Go.Lib.hid (HS.out.then_ hB); clear hB; clear c0_0 c0_1 c0_2 c0_3; obtain ⟨c0_0, c0_1, c0_2, c0_3⟩ := HS.out.c4 0 _ _ _ _ _ _ rfl) | (go_at_call 11; refine (awake_st HS.out).mono ?_; rintro e w97_ ⟨rfl, hS9⟩; replace HS := Go.Lib.hid hS9; clear hS9))
    go_ret
    exact ⟨rfl, HS.out.below⟩
  subst hr0
  have hsi := hrg2 rfl
  have hn40 : ws.length ≤ 40 := by omega
  have hf1 := hsi.fr0
  have hf200 : fr ≤ 200 := by omega
  have hf1048 : fr ≤ 1048576 := hsi.fr1
  have h0 : ∀ j : Nat, j < ws.length → 0 ≤ (ws.getD j z30).f1 ∧ (ws.getD j z30).f1 ≤ 4000000 ∧ (ws.getD j z30).f2 ≤ 4000000 := fun j hj => by
    have hm : ws.getD j z30 ∈ ws := by rw [List.getD_eq_getElem?_getD, List.getElem?_eq_getElem hj]; exact List.getElem_mem hj
    obtain ⟨_, _, a1, a2, a3, a4⟩ := hsi.win _ hm
    omega
  have H0 := Go.Lib.hid h0
  clear h40 h200 h0 hrg2 hsi
  replace hf1 : 1 ≤ fr := hf1
  go_enter Try.func3, Try.ntmps3
  go_wp2_with (first | ((with_reducible refine gate_dst (N := 1) rfl ?_); refine Sl.box_st HS.out (by rfl) (cs := #[.int .i64 id, .int .i64 fr, .slice A2 ws.length c2, .slice A3 ns.length c3]) (t := 25) ?hr ?_; (case hr => first | (go_simp; done) | (go_simp; rfl)); intro gM w1_ HSn HBn; clear HBn; replace HS : Hid (St (SL.blk gM 25 #[.int .i64 id, .int .i64 fr, .slice A2 ws.length c2, .slice A3 ns.length c3] :: []) w w1_) := Go.Lib.hid HSn; clear HSn; obtain ⟨c0_0, c0_1, c0_2, c0_3⟩ := HS.out.c4 0 _ _ _ _ _ _ rfl) | (go_at_call 10; refine (countwheelref09_Right.calls KR id fr A2 c2 ws A3 c3 ns _ _ (HS.out.C HR2.out) hc2 (HS.out.C HR3.out) hc3 HRG.out).mono ?_; rintro e w' ⟨rfl, hB⟩; replace HS := Go.Lib.hid (HS.out.then_ hB); clear hB; clear c0_0 c0_1 c0_2 c0_3; obtain ⟨c0_0, c0_1, c0_2, c0_3⟩ := HS.out.c4 0 _ _ _ _ _ _ rfl) | ((with_reducible refine gate_dst (N := 29) rfl ?_); refine Sl.lit_st (Kd.int .i64) (flat_int .i64) HS.out 3 (by rfl) (xs := ([] : List Int)) (inner := []) ?hr ?hp ?hm ?_; (case hr => first | (go_simp; done) | (go_simp; rfl)); (case hp => exact Reps.none _ _); (case hm => decide); intro v29_ w2_ HSn; obtain ⟨A, c, hv29_, _⟩ := HSn.rowC 0 rfl; subst hv29_; replace HS : Hid (St (SL.row (Kd.int .i64) 3 (.slice A ([] : List Int).length c) ([] : List Int) :: SL.blk gM 25 #[.int .i64 id, .int .i64 fr, .slice A2 ws.length c2, .slice A3 ns.length c3] :: []) w w2_) := Go.Lib.hid HSn; clear HSn; clear c0_0 c0_1 c0_2 c0_3; obtain ⟨c1_0, c1_1, c1_2, c1_3⟩ := HS.out.c4 1 _ _ _ _ _ _ rfl))
  clear c1_0 c1_1 c1_2 c1_3 d40 d200
  go_loopw [3, 33] (fun s i wr => ∃ (k : Nat) (A : Option Addr) (c : Nat), k ≤ ws.length ∧ s = .slice A ((ws.take k).map S30.f0).length c ∧ i = .int .i64 k ∧ St (SL.row (Kd.int .i64) 3 (.slice A ((ws.take k).map S30.f0).length c) ((ws.take k).map S30.f0) :: SL.blk gM 25 #[.int .i64 id, .int .i64 fr, .slice A2 ws.length c2, .slice A3 ns.length c3] :: []) w wr) (fun _ i _ => ws.length - (intOf i).toNat)
  case atStart => exact ⟨0, A, c, Nat.zero_le _, rfl, rfl, HS.out⟩
  case round =>
    clear HS
    obtain ⟨k, A, c, hk, rfl, rfl, hS⟩ := hrel
    have HS := Go.Lib.hid hS
    clear hS
    by_cases hlt : k < ws.length
    · obtain ⟨ad, rfl, g0, g1, g2⟩ := at_T30 HR2.out (k : Int) (by omega) (by omega)
      rw [Int.toNat_natCast] at g0 g1 g2
      replace g0 := HS.out.old g0
      replace g1 := HS.out.old g1
      replace g2 := HS.out.old g2
      have hT : (ws.take (k + 1)).map S30.f0 = (ws.take k).map S30.f0 ++ [(rd_T30 ws (k : Int)).f0] := by rw [List.take_succ_eq_append_getElem hlt, List.map_append]; unfold rd_T30; rw [Int.toNat_natCast, List.getD_eq_getElem?_getD, List.getElem?_eq_getElem hlt]; rfl
      have hbd : (((ws.take k).map S30.f0).length + 1) * 8 ≤ 140737488355328 := by rw [List.length_map, List.length_take]; omega
      generalize rd_T30 ws (k : Int) = x at *
      have HT := Go.Lib.hid hT
      clear hT
      generalize (ws.take k).map S30.f0 = xs at *
      have HBD := Go.Lib.hid hbd
      clear hbd
      obtain ⟨c1_0, c1_1, c1_2, c1_3⟩ := HS.out.c4 1 _ _ _ _ _ _ rfl
      go_wp2_with (first | ((with_reducible refine gate_dst (N := 5) rfl ?_); refine Sl.box_st HS.out (by rfl) (cs := #[.int .i64 0, .int .i64 0, .int .i64 0]) (t := 30) ?hr ?_; (case hr => first | (go_simp; done) | (go_simp; rfl)); intro g5 w21_ HSn HBn; clear HBn; replace HS : Hid (St (SL.blk g5 30 #[.int .i64 0, .int .i64 0, .int .i64 0] :: SL.row (Kd.int .i64) 3 (.slice A xs.length c) xs :: SL.blk gM 25 #[.int .i64 id, .int .i64 fr, .slice (some ad) ws.length c2, .slice A3 ns.length c3] :: []) w w21_) := Go.Lib.hid HSn; clear HSn; clear c1_0 c1_1 c1_2 c1_3; obtain ⟨c0_0, c0_1, c0_2⟩ := HS.out.c3 0 _ _ _ _ _ rfl; obtain ⟨c2_0, c2_1, c2_2, c2_3⟩ := HS.out.c4 2 _ _ _ _ _ _ rfl) | ((with_reducible refine gate_store (p := 5) rfl ?_); refine Sl.storeAll_st HS.out 0 g5 30 _ rfl [.int .i64 x.f0, .int .i64 x.f1, .int .i64 x.f2] rfl (by rfl) (by rfl) ?hr ?_; (case hr => have f_ := HS.out.f3 0 _ _ _ _ _ rfl; (try obtain ⟨f0, f1, f2⟩ := f_); first | (go_simp; done) | (go_simp; rfl)); intro w22_ HSn; replace HS : Hid (St (SL.blk g5 30 #[.int .i64 x.f0, .int .i64 x.f1, .int .i64 x.f2] :: SL.row (Kd.int .i64) 3 (.slice A xs.length c) xs :: SL.blk gM 25 #[.int .i64 id, .int .i64 fr, .slice (some ad) ws.length c2, .slice A3 ns.length c3] :: []) w w22_) := Go.Lib.hid HSn; clear HSn; clear c0_0 c0_1 c0_2 c2_0 c2_1 c2_2 c2_3; obtain ⟨c0_0, c0_1, c0_2⟩ := HS.out.c3 0 _ _ _ _ _ rfl; obtain ⟨c2_0, c2_1, c2_2, c2_3⟩ := HS.out.c4 2 _ _ _ _ _ _ rfl) | ((with_reducible refine gate_dst (N := 41) rfl ?_); refine Sl.append_st (Kd.int .i64) (flat_int .i64) HS.out 1 ((.slice A xs.length c)) (xs) 3 rfl (by rfl) (.tmp 37) (.tmp 40) 28 (.int .i64 0) 8 rfl Try.underlying28 (by kernel_rfl) rfl (by decide) (by decide) (x.f0) [.int .i64 x.f0] rfl rfl ?hp ?hb ?_; (case hp => first | rfl | exact k3_mk _ _); (case hb => exact HBD.out); intro v1_ w23_ HSn; obtain ⟨A9_, c9_, hv2_, _⟩ := HSn.rowC 1 rfl; subst hv2_; replace HS : Hid (St (SL.blk g5 30 #[.int .i64 x.f0, .int .i64 x.f1, .int .i64 x.f2] :: SL.row (Kd.int .i64) 3 (.slice A9_ (xs ++ [x.f0]).length c9_) (xs ++ [x.f0]) :: SL.blk gM 25 #[.int .i64 id, .int .i64 fr, .slice (some ad) ws.length c2, .slice A3 ns.length c3] :: []) w w23_) := Go.Lib.hid HSn; clear HSn; clear c0_0 c0_1 c0_2 c2_0 c2_1 c2_2 c2_3; obtain ⟨c0_0, c0_1, c0_2⟩ := HS.out.c3 0 _ _ _ _ _ rfl; obtain ⟨c2_0, c2_1, c2_2, c2_3⟩ := HS.out.c4 2 _ _ _ _ _ _ rfl))
      go_roundw
      case rel => exact ⟨k + 1, A9_, c9_, hlt, by rw [HT.out, List.length_append]; rfl, rfl, by rw [HT.out]; exact HS.out.drop⟩
      case measure => simp [intOf]; omega
    · obtain rfl : k = ws.length := by omega
      clear hk hlt
      obtain ⟨ids, hids⟩ : ∃ ids, ids = ws.map S30.f0 := ⟨_, rfl⟩
      have hsmI : Small ids := by unfold Small; rw [hids, List.length_map]; omega
      have HSi : Hid (St (SL.row (Kd.int .i64) 3 (.slice A ids.length c) ids :: SL.blk gM 25 #[.int .i64 id, .int .i64 fr, .slice A2 ws.length c2, .slice A3 ns.length c3] :: []) w wr) := Go.Lib.hid (by have h9 := HS.out; rw [List.take_length, ← hids] at h9; exact h9)
      replace HS := HSi
      rw [List.take_length, ← hids]
      clear HSi hids
      obtain ⟨c1_0, c1_1, c1_2, c1_3⟩ := HS.out.c4 1 _ _ _ _ _ _ rfl
      go_wp2_with fail
      refine (new_st HS.out id fr A2 c2 ws A3 c3 ns A c ids (fun lx w1 h1 => h1.C HR2.out) hc2 (fun lx w1 h1 => h1.C HR3.out) hc3 (fun lx w1 h1 => rowC_at h1 0 rfl) (by obtain ⟨_, _, hv, hc, _⟩ := HS.out.rowC 0 rfl; injection hv with _ _ q; omega) hsmI (by omega) (by omega) (by omega) H0.out hf1 hf1048).mono ?_
      rintro e w2_ (⟨gt, AT, cT, rfl, hok, hS⟩ | ⟨g, rfl, _, hS⟩)
      rotate_left
      · replace HS := Go.Lib.hid hS
        clear hS
        go_wp2_with (go_at_call 11; refine (awake_st HS.out).mono ?_; rintro e w97_ ⟨rfl, hS9⟩; replace HS := Go.Lib.hid hS9; clear hS9)
        go_ret
        exact ⟨rfl, HS.out.below⟩
      · replace HS := Go.Lib.hid hS
        have hR := allR_is hok (by omega) (by omega)
        have hRL := grw_len (mkR ws ws.length) (-1) (endB ws ws.length) (fr - endB ws ws.length)
        have hML := mkR_len ws ws.length
        have hlr : (allR fr ws).length ≤ 100 := by unfold allR; omega
        have HRr := Go.Lib.hid hR
        have HBDr := Go.Lib.hid (hR.bd (by omega))
        have hne : 0 < (allR fr ws).length := (hR.in_zero (by omega)).lt
        clear hS hR hRL hML hok c1_0 c1_1 c1_2 c1_3
        generalize allR fr ws = rs at *
        obtain ⟨c0_0, c0_1, c0_2⟩ := HS.out.c3 0 _ _ _ _ _ rfl
        obtain ⟨c3_0, c3_1, c3_2, c3_3⟩ := HS.out.c4 3 _ _ _ _ _ _ rfl
        go_wp2_with (first | (go_at_call 13; refine (cursor_st HS.out).mono ?_; rintro e w31_ ⟨gc, rfl, HSn⟩; replace HS : Hid (St (SL.blk gc 100 #[.pointer (some ⟨gt, 0, none⟩), .int .i64 0, .int .i64 0] :: SL.blk gt 97 #[.int .i64 id, .int .i64 fr, .slice AT rs.length cT] :: SL.row k44 44 (.slice AT rs.length cT) rs :: SL.row (Kd.int .i64) 3 (.slice A ids.length c) ids :: SL.blk gM 25 #[.int .i64 id, .int .i64 fr, .slice A2 ws.length c2, .slice A3 ns.length c3] :: []) w w31_) := Go.Lib.hid HSn; clear HSn; clear c0_0 c0_1 c0_2 c3_0 c3_1 c3_2 c3_3; obtain ⟨c0_0, c0_1, c0_2⟩ := HS.out.c3 0 _ _ _ _ _ rfl; obtain ⟨c1_0, c1_1, c1_2⟩ := HS.out.c3 1 _ _ _ _ _ rfl; obtain ⟨c4_0, c4_1, c4_2, c4_3⟩ := HS.out.c4 4 _ _ _ _ _ _ rfl))
        clear c0_0 c0_1 c0_2 c1_0 c1_1 c1_2 c4_0 c4_1 c4_2 c4_3
        go_loopw [67] (fun i wr => ∃ (k : Nat) (t : Int) (j : Nat), k ≤ 2 * fr.toNat ∧ i = .int .i64 k ∧ t = (k : Int).tmod fr ∧ In rs t j ∧ 0 ≤ t ∧ t < fr ∧ St (SL.blk gc 100 #[.pointer (some ⟨gt, 0, none⟩), .int .i64 t, .int .i64 ((j : Nat) : Int)] :: SL.blk gt 97 #[.int .i64 id, .int .i64 fr, .slice AT rs.length cT] :: SL.row k44 44 (.slice AT rs.length cT) rs :: SL.row (Kd.int .i64) 3 (.slice A ids.length c) ids :: SL.blk gM 25 #[.int .i64 id, .int .i64 fr, .slice A2 ws.length c2, .slice A3 ns.length c3] :: []) w wr) (fun i _ => 2 * fr.toNat - (intOf i).toNat)
        case atStart => exact ⟨0, 0, 0, Nat.zero_le _, rfl, by simp, HRr.out.in_zero (by omega), Int.le_refl _, by omega, HS.out⟩
        case round =>
          clear HS
          obtain ⟨k, t, j, hk, rfl, ht, hin, ht0, ht1, hS⟩ := hrel
          have HS := Go.Lib.hid hS
          have HIN := Go.Lib.hid hin
          have HTM := Go.Lib.hid ht
          have hj := hin.lt
          clear hS hin ht
          refine Sl.wpc_round (fn := Try.f3) (R := fun e w' => e = .returned (.bool true) ∧ Below w.heap.size w w') (fun a w h => h) ?_
          intro N_ X_ R_ hnorm hexit hret
          by_cases hlt : k < 2 * fr.toNat
          · have hkk : (k : Int) < 2 * fr := by omega
            have HOW : Hid (countwheelref13_Owner.f KO id fr ws ns t = some ((rd_T44 rs (j : Int)).f0)) := Go.Lib.hid (by rw [owner_is HWS.out KO (by have := HKO.out; omega), if_neg (by omega)]; exact congrArg some (HRr.out.in_own HIN.out))
            have hmod : (k : Int).tmod fr = t := HTM.out.symm
            have hfz : (fr == 0) = false := by rw [beq_eq_false_iff_ne]; omega
            have hfn : (fr = 0) = False := eq_false (by omega)
            have d67 : decide ((k : Int) < 2 * fr) = true := by simpa using hkk
            have E1 : Hid (wrap64 ((k : Int) + 1) = (k : Int) + 1) := Go.Lib.hid (by unfold wrap64; omega)
            have E0 : Hid (IntKind.i64.wrap ((k : Int) + 1) = (k : Int) + 1) := Go.Lib.hid (IntWalk.i64_in _ (by omega))
            have hnb := next_bd (fr := fr) ht0 (by omega)
            have HNB := Go.Lib.hid hnb
            clear hnb
            obtain ⟨c0_0, c0_1, c0_2⟩ := HS.out.c3 0 _ _ _ _ _ rfl
            obtain ⟨c1_0, c1_1, c1_2⟩ := HS.out.c3 1 _ _ _ _ _ rfl
            obtain ⟨c4_0, c4_1, c4_2, c4_3⟩ := HS.out.c4 4 _ _ _ _ _ _ rfl
            go_upto_region 18 with (fail)
            clear c0_0 c0_1 c0_2 c1_0 c1_1 c1_2 c4_0 c4_1 c4_2 c4_3
            replace HS := Go.Lib.hid HS.out.drew
            refine start_ (n := 18) (S := fun w' => w'.cell? ⟨gM, 0, none⟩ = some (.int .i64 id) ∧ w'.cell? ⟨gM, 1, none⟩ = some (.int .i64 fr) ∧ w'.cell? ⟨gM, 2, none⟩ = some (.slice A2 ws.length c2) ∧ w'.cell? ⟨gM, 3, none⟩ = some (.slice A3 ns.length c3)) (ds := []) #[false, false, false, false, false, false, false, false, false, false, false, false, false, false, false, false, false, false] (by kernel_rfl) rfl rfl (HS.out.c4 4 _ _ _ _ _ _ rfl) (fun hHeld => ?_)
            generalize wr.drew = W_ at *
            refine pure_ (i := 0) (N := some 70) (v := ?_) (a' := ?_) #[true, false, false, false, false, false, false, false, false, false, false, false, false, false, false, false, false, false] rfl rfl (by kernel_rfl) (fun _ _ _ h => h) (Or.inl ⟨by rfl, ?_⟩) ?_ ?_
            rotate_left
            · intro w'
              go_simp
              with_reducible rfl
            rotate_left
            · simp only [Act.put, List.setIfInBounds_toArray, List.set_cons_zero, List.set_cons_succ, i64_w, i32_w]
              rfl
            refine pure_ (i := 3) (N := some 73) (v := ?_) (a' := ?_) #[true, false, false, true, false, false, false, false, false, false, false, false, false, false, false, false, false, false] rfl rfl (by kernel_rfl) (fun _ _ _ h => h) (Or.inl ⟨by rfl, ?_⟩) ?_ ?_
            rotate_left
            · intro w'
              go_simp
              with_reducible rfl
            rotate_left
            · simp only [Act.put, List.setIfInBounds_toArray, List.set_cons_zero, List.set_cons_succ, i64_w, i32_w]
              rfl
            refine pure_ (i := 4) (N := some 74) (v := ?_) (a' := ?_) #[true, false, false, true, true, false, false, false, false, false, false, false, false, false, false, false, false, false] rfl rfl (by kernel_rfl) (fun _ _ _ h => h) (Or.inl ⟨by rfl, ?_⟩) ?_ ?_
            rotate_left
            · intro w'
              go_simp
              with_reducible rfl
            rotate_left
            · simp only [Act.put, List.setIfInBounds_toArray, List.set_cons_zero, List.set_cons_succ, i64_w, i32_w]
              rfl
            refine take_ (i := 2) (N := some 72) (v := ?_) (a' := ?_) #[true, false, true, true, true, false, false, false, false, false, false, false, false, false, false, false, false, false] rfl rfl (by kernel_rfl) (fun _ _ _ h => h) (Or.inl ⟨by rfl, ?_⟩) hHeld ?_ ?_
            rotate_left
            · rintro w' ⟨s0, s1, s2, s3⟩
              go_simp
              with_reducible rfl
            rotate_left
            · simp only [Act.put, List.setIfInBounds_toArray, List.set_cons_zero, List.set_cons_succ, i64_w, i32_w]
              rfl
            refine take_ (i := 5) (N := some 75) (v := ?_) (a' := ?_) #[true, false, true, true, true, true, false, false, false, false, false, false, false, false, false, false, false, false] rfl rfl (by kernel_rfl) (fun _ _ _ h => h) (Or.inl ⟨by rfl, ?_⟩) hHeld ?_ ?_
            rotate_left
            · rintro w' ⟨s0, s1, s2, s3⟩
              go_simp
              with_reducible rfl
            rotate_left
            · simp only [Act.put, List.setIfInBounds_toArray, List.set_cons_zero, List.set_cons_succ, i64_w, i32_w]
              rfl
            refine pure_ (i := 6) (N := some 76) (v := ?_) (a' := ?_) #[true, false, true, true, true, true, true, false, false, false, false, false, false, false, false, false, false, false] rfl rfl (by kernel_rfl) (fun _ _ _ h => h) (Or.inl ⟨by rfl, ?_⟩) ?_ ?_
            rotate_left
            · intro w'
              go_simp
              with_reducible rfl
            rotate_left
            · simp only [Act.put, List.setIfInBounds_toArray, List.set_cons_zero, List.set_cons_succ, i64_w, i32_w]
              rfl
            refine one_ (i := 1) (N := some 71) #[true, true, true, true, true, true, true, false, false, false, false, false, false, false, false, false, false, false] rfl rfl (by kernel_rfl) (by decide) (fun K hK => ?_)
            refine goes_ Try.func14 (by kernel_rfl) rfl #[.pointer (some ⟨gc, 0, none⟩)] (by rfl) rfl rfl (by (try simp only [List.map_toArray, List.map_cons, List.map_nil]); first | done | rfl) ?_
            refine (cur_owner HS.out 0 t j rfl ⟨1, 2, AT, cT, rfl, rfl⟩ hj).mono ?_
            rintro e w81_ ⟨rfl, hSn⟩
            have HSa : Hid (St (SL.blk gc 100 #[.pointer (some ⟨gt, 0, none⟩), .int .i64 t, .int .i64 ((j : Nat) : Int)] :: SL.blk gt 97 #[.int .i64 id, .int .i64 fr, .slice AT rs.length cT] :: SL.row k44 44 (.slice AT rs.length cT) rs :: SL.row (Kd.int .i64) 3 (.slice A ids.length c) ids :: SL.blk gM 25 #[.int .i64 id, .int .i64 fr, .slice A2 ws.length c2, .slice A3 ns.length c3] :: []) w w81_) := Go.Lib.hid hSn
            clear hSn
            refine ⟨_, rfl, ?_⟩
            refine hK.out _ _ (HSa.out.c4 4 _ _ _ _ _ _ rfl) (fun hHeld => ?_)
            clear hK K
            refine norm_ (a' := ?_) ?_ ?_
            rotate_left
            · show Act.put _ (some 71) _ = _
              simp only [Act.put, List.setIfInBounds_toArray, List.set_cons_zero, List.set_cons_succ, i64_w, i32_w]
              rfl
            refine one_ (i := 7) (N := some 77) #[true, true, true, true, true, true, true, true, false, false, false, false, false, false, false, false, false, false] rfl rfl (by kernel_rfl) (by decide) (fun K hK => ?_)
            refine goes_ Try.func15 (by kernel_rfl) rfl #[.agg #[.int .i64 id, .int .i64 fr, .slice A2 ws.length c2, .slice A3 ns.length c3], .int .i64 t] (by rfl) rfl rfl (by (try simp only [List.map_toArray, List.map_cons, List.map_nil]); first | done | rfl) ?_
            refine (countwheelref13_Owner.calls KO id fr A2 c2 ws A3 c3 ns t ((rd_T44 rs (j : Int)).f0) _ (HSa.out.C HR2.out) hc2 (HSa.out.C HR3.out) hc3 HOW.out).mono ?_
            rintro e w82_ ⟨rfl, hB⟩
            have HSb := Go.Lib.hid (HSa.out.then_ hB)
            clear hB
            refine ⟨_, rfl, ?_⟩
            refine hK.out _ _ (HSb.out.c4 4 _ _ _ _ _ _ rfl) (fun hHeld => ?_)
            clear hK K
            refine norm_ (a' := ?_) ?_ ?_
            rotate_left
            · show Act.put _ (some 77) _ = _
              simp only [Act.put, List.setIfInBounds_toArray, List.set_cons_zero, List.set_cons_succ, i64_w, i32_w]
              rfl
            refine pure_ (i := 8) (N := some 78) (v := ?_) (a' := ?_) #[true, true, true, true, true, true, true, true, true, false, false, false, false, false, false, false, false, false] rfl rfl (by kernel_rfl) (fun _ _ _ h => h) (Or.inl ⟨by rfl, ?_⟩) ?_ ?_
            rotate_left
            · intro w'
              go_simp
              with_reducible rfl
            rotate_left
            · simp only [Act.put, List.setIfInBounds_toArray, List.set_cons_zero, List.set_cons_succ, i64_w, i32_w]
              rfl
            refine pure_ (i := 9) (N := some 79) (v := ?_) (a' := ?_) #[true, true, true, true, true, true, true, true, true, true, false, false, false, false, false, false, false, false] rfl rfl (by kernel_rfl) (fun _ _ _ h => h) (Or.inl ⟨by rfl, ?_⟩) ?_ ?_
            rotate_left
            · intro w'
              go_simp
              with_reducible rfl
            rotate_left
            · simp only [Act.put, List.setIfInBounds_toArray, List.set_cons_zero, List.set_cons_succ, i64_w, i32_w]
              rfl
            refine pure_ (i := 10) (N := some 80) (v := ?_) (a' := ?_) #[true, true, true, true, true, true, true, true, true, true, true, false, false, false, false, false, false, false] rfl rfl (by kernel_rfl) (fun _ _ _ h => h) (Or.inl ⟨by rfl, ?_⟩) ?_ ?_
            rotate_left
            · intro w'
              go_simp
              with_reducible rfl
            rotate_left
            · simp only [Act.put, List.setIfInBounds_toArray, List.set_cons_zero, List.set_cons_succ, i64_w, i32_w]
              rfl
            refine pure_ (i := 11) (N := some 81) (v := ?_) (a' := ?_) #[true, true, true, true, true, true, true, true, true, true, true, true, false, false, false, false, false, false] rfl rfl (by kernel_rfl) (fun _ _ _ h => h) (Or.inl ⟨by rfl, ?_⟩) ?_ ?_
            rotate_left
            · intro w'
              go_simp
              with_reducible rfl
            rotate_left
            · simp only [Act.put, List.setIfInBounds_toArray, List.set_cons_zero, List.set_cons_succ, i64_w, i32_w]
              rfl
            refine pure_ (i := 14) (N := some 84) (v := ?_) (a' := ?_) #[true, true, true, true, true, true, true, true, true, true, true, true, false, false, true, false, false, false] rfl rfl (by kernel_rfl) (fun _ _ _ h => h) (Or.inl ⟨by rfl, ?_⟩) ?_ ?_
            rotate_left
            · intro w'
              go_simp
              with_reducible rfl
            rotate_left
            · simp only [Act.put, List.setIfInBounds_toArray, List.set_cons_zero, List.set_cons_succ, i64_w, i32_w]
              rfl
            refine one_ (i := 12) (N := some 82) #[true, true, true, true, true, true, true, true, true, true, true, true, true, false, true, false, false, false] rfl rfl (by kernel_rfl) (by decide) (fun K hK => ?_)
            refine goes_ Try.func17 (by kernel_rfl) rfl #[.pointer (some ⟨gc, 0, none⟩)] (by rfl) rfl rfl (by (try simp only [List.map_toArray, List.map_cons, List.map_nil]); first | done | rfl) ?_
            refine (cur_tick HSb.out 0 t j rfl ⟨1, 2, AT, cT, rfl, rfl⟩).mono ?_
            rintro e w' ⟨rfl, rfl⟩
            refine ⟨_, rfl, ?_⟩
            refine hK.out _ _ (HSb.out.c4 4 _ _ _ _ _ _ rfl) (fun hHeld => ?_)
            clear hK K
            refine norm_ (a' := ?_) ?_ ?_
            rotate_left
            · show Act.put _ (some 82) _ = _
              simp only [Act.put, List.setIfInBounds_toArray, List.set_cons_zero, List.set_cons_succ, i64_w, i32_w]
              rfl
            refine one_ (i := 13) (N := some 83) #[true, true, true, true, true, true, true, true, true, true, true, true, true, true, true, false, false, false] rfl rfl (by kernel_rfl) (by decide) (fun K hK => ?_)
            refine goes_ Try.func16 (by kernel_rfl) rfl #[.pointer (some ⟨gt, 0, none⟩), .int .i64 t] (by rfl) rfl rfl (by (try simp only [List.map_toArray, List.map_cons, List.map_nil]); first | done | rfl) ?_
            refine (tab_owner HSb.out ⟨1, 2, AT, cT, rfl, rfl⟩ HRr.out t j HIN.out (by omega) ht0 ht1).mono ?_
            rintro e w83_ ⟨rfl, hSn⟩
            have HSc : Hid (St (SL.blk gc 100 #[.pointer (some ⟨gt, 0, none⟩), .int .i64 t, .int .i64 ((j : Nat) : Int)] :: SL.blk gt 97 #[.int .i64 id, .int .i64 fr, .slice AT rs.length cT] :: SL.row k44 44 (.slice AT rs.length cT) rs :: SL.row (Kd.int .i64) 3 (.slice A ids.length c) ids :: SL.blk gM 25 #[.int .i64 id, .int .i64 fr, .slice A2 ws.length c2, .slice A3 ns.length c3] :: []) w w83_) := Go.Lib.hid hSn
            clear hSn
            refine ⟨_, rfl, ?_⟩
            refine hK.out _ _ (HSc.out.c4 4 _ _ _ _ _ _ rfl) (fun hHeld => ?_)
            clear hK K
            refine norm_ (a' := ?_) ?_ ?_
            rotate_left
            · show Act.put _ (some 83) _ = _
              simp only [Act.put, List.setIfInBounds_toArray, List.set_cons_zero, List.set_cons_succ, i64_w, i32_w]
              rfl
            refine one_ (i := 15) (N := some 85) #[true, true, true, true, true, true, true, true, true, true, true, true, true, true, true, true, false, false] rfl rfl (by kernel_rfl) (by decide) (fun K hK => ?_)
            refine goes_ Try.func14 (by kernel_rfl) rfl #[.pointer (some ⟨gc, 0, none⟩)] (by rfl) rfl rfl (by (try simp only [List.map_toArray, List.map_cons, List.map_nil]); first | done | rfl) ?_
            refine (cur_owner HSc.out 0 t j rfl ⟨1, 2, AT, cT, rfl, rfl⟩ hj).mono ?_
            rintro e w84_ ⟨rfl, hSn⟩
            have HSd : Hid (St (SL.blk gc 100 #[.pointer (some ⟨gt, 0, none⟩), .int .i64 t, .int .i64 ((j : Nat) : Int)] :: SL.blk gt 97 #[.int .i64 id, .int .i64 fr, .slice AT rs.length cT] :: SL.row k44 44 (.slice AT rs.length cT) rs :: SL.row (Kd.int .i64) 3 (.slice A ids.length c) ids :: SL.blk gM 25 #[.int .i64 id, .int .i64 fr, .slice A2 ws.length c2, .slice A3 ns.length c3] :: []) w w84_) := Go.Lib.hid hSn
            clear hSn
            refine ⟨_, rfl, ?_⟩
            refine hK.out _ _ (HSd.out.c4 4 _ _ _ _ _ _ rfl) (fun hHeld => ?_)
            clear hK K
            refine norm_ (a' := ?_) ?_ ?_
            rotate_left
            · show Act.put _ (some 85) _ = _
              simp only [Act.put, List.setIfInBounds_toArray, List.set_cons_zero, List.set_cons_succ, i64_w, i32_w]
              rfl
            refine pure_ (i := 16) (N := some 86) (v := ?_) (a' := ?_) #[true, true, true, true, true, true, true, true, true, true, true, true, true, true, true, true, true, false] rfl rfl (by kernel_rfl) (fun _ _ _ h => h) (Or.inl ⟨by rfl, ?_⟩) ?_ ?_
            rotate_left
            · intro w'
              go_simp
              with_reducible rfl
            rotate_left
            · simp only [Act.put, List.setIfInBounds_toArray, List.set_cons_zero, List.set_cons_succ, i64_w, i32_w]
              rfl
            refine pure_ (i := 17) (N := some 87) (v := ?_) (a' := ?_) #[true, true, true, true, true, true, true, true, true, true, true, true, true, true, true, true, true, true] rfl rfl (by kernel_rfl) (fun _ _ _ h => h) (Or.inl ⟨by rfl, ?_⟩) ?_ ?_
            rotate_left
            · intro w'
              go_simp
              with_reducible rfl
            rotate_left
            · simp only [Act.put, List.setIfInBounds_toArray, List.set_cons_zero, List.set_cons_succ, i64_w, i32_w]
              rfl
            refine done_ (by kernel_rfl) ?_
            replace HS := HSd
            clear HSa HSb HSc HSd HOW
            obtain ⟨c0_0, c0_1, c0_2⟩ := HS.out.c3 0 _ _ _ _ _ rfl
            obtain ⟨c1_0, c1_1, c1_2⟩ := HS.out.c3 1 _ _ _ _ _ rfl
            obtain ⟨c4_0, c4_1, c4_2, c4_3⟩ := HS.out.c4 4 _ _ _ _ _ _ rfl
            go_upto_region 20 with (fail)
            clear c0_0 c0_1 c0_2 c1_0 c1_1 c1_2 c4_0 c4_1 c4_2 c4_3
            replace HS := Go.Lib.hid HS.out.drew
            obtain ⟨adT, rfl⟩ : ∃ adT, AT = some adT := by obtain ⟨_, _, hv, _, hC⟩ := HS.out.rowC 2 rfl; injection hv with q1 _ _; subst q1; obtain ⟨a9, e9, _⟩ := at_run hC j hj; exact ⟨a9, e9⟩
            have HLO : Hid (0 ≤ (rd_T44 rs (j : Int)).f1 ∧ (rd_T44 rs (j : Int)).f1 + (rd_T44 rs (j : Int)).f2 ≤ 4000000) := Go.Lib.hid (by have := HRr.out.low _ (rd_mem rs j hj); omega)
            have HBJ : Hid (0 ≤ (rd_T44 rs (j : Int)).f2) := Go.Lib.hid (HBDr.out _ (rd_mem rs j hj)).1
            have hmod2 : ((k : Int) + 1).tmod fr = nextT fr t := by rw [← mod_next (by omega) hmod ht0 ht1]
            have hz2 : (nextT fr t != 0) = decide (t + 1 < fr) := next_ne ht0
            have e1_ := E1.out
            have e0_ := E0.out
            clear hmod
            refine start_ (n := 9) (S := fun w' => w'.cell? ⟨gM, 0, none⟩ = some (.int .i64 id) ∧ w'.cell? ⟨gM, 1, none⟩ = some (.int .i64 fr) ∧ w'.cell? ⟨gM, 2, none⟩ = some (.slice A2 ws.length c2) ∧ w'.cell? ⟨gM, 3, none⟩ = some (.slice A3 ns.length c3)) (ds := []) #[false, false, false, false, false, false, false, false, false] (by kernel_rfl) rfl rfl (HS.out.c4 4 _ _ _ _ _ _ rfl) (fun hHeld => ?_)
            generalize w84_.drew = W2_ at *
            refine pure_ (i := 0) (N := some 88) (v := ?_) (a' := ?_) #[true, false, false, false, false, false, false, false, false] rfl rfl (by kernel_rfl) (fun _ _ _ h => h) (Or.inl ⟨by rfl, ?_⟩) ?_ ?_
            rotate_left
            · intro w'
              go_simp
              with_reducible rfl
            rotate_left
            · simp only [Act.put, List.setIfInBounds_toArray, List.set_cons_zero, List.set_cons_succ, i64_w, i32_w]
              rfl
            refine pure_ (i := 2) (N := some 90) (v := ?_) (a' := ?_) #[true, false, true, false, false, false, false, false, false] rfl rfl (by kernel_rfl) (fun _ _ _ h => h) (Or.inl ⟨by rfl, ?_⟩) ?_ ?_
            rotate_left
            · intro w'
              go_simp
              with_reducible rfl
            rotate_left
            · simp only [Act.put, List.setIfInBounds_toArray, List.set_cons_zero, List.set_cons_succ, i64_w, i32_w]
              rfl
            refine pure_ (i := 3) (N := some 91) (v := ?_) (a' := ?_) #[true, false, true, true, false, false, false, false, false] rfl rfl (by kernel_rfl) (fun _ _ _ h => h) (Or.inl ⟨by rfl, ?_⟩) ?_ ?_
            rotate_left
            · intro w'
              go_simp
              with_reducible rfl
            rotate_left
            · simp only [Act.put, List.setIfInBounds_toArray, List.set_cons_zero, List.set_cons_succ, i64_w, i32_w]
              rfl
            refine pure_ (i := 4) (N := some 92) (v := ?_) (a' := ?_) #[true, false, true, true, true, false, false, false, false] rfl rfl (by kernel_rfl) (fun _ _ _ h => h) (Or.inl ⟨by rfl, ?_⟩) ?_ ?_
            rotate_left
            · intro w'
              go_simp
              with_reducible rfl
            rotate_left
            · simp only [Act.put, List.setIfInBounds_toArray, List.set_cons_zero, List.set_cons_succ, i64_w, i32_w]
              rfl
            refine take_ (i := 5) (N := some 93) (v := ?_) (a' := ?_) #[true, false, true, true, true, true, false, false, false] rfl rfl (by kernel_rfl) (fun _ _ _ h => h) (Or.inl ⟨by rfl, ?_⟩) hHeld ?_ ?_
            rotate_left
            · rintro w' ⟨s0, s1, s2, s3⟩
              go_simp
              with_reducible rfl
            rotate_left
            · simp only [Act.put, List.setIfInBounds_toArray, List.set_cons_zero, List.set_cons_succ, i64_w, i32_w]
              rfl
            refine pure_ (i := 6) (N := some 94) (v := ?_) (a' := ?_) #[true, false, true, true, true, true, true, false, false] rfl rfl (by kernel_rfl) (fun _ _ _ h => h) (Or.inl ⟨by rfl, ?_⟩) ?_ ?_
            rotate_left
            · intro w'
              go_simp
              with_reducible rfl
            rotate_left
            · simp only [Act.put, List.setIfInBounds_toArray, List.set_cons_zero, List.set_cons_succ, i64_w, i32_w]
              rfl
            refine pure_ (i := 7) (N := some 95) (v := ?_) (a' := ?_) #[true, false, true, true, true, true, true, true, false] rfl rfl (by kernel_rfl) (fun _ _ _ h => h) (Or.inl ⟨by rfl, ?_⟩) ?_ ?_
            rotate_left
            · intro w'
              go_simp
              with_reducible rfl
            rotate_left
            · simp only [Act.put, List.setIfInBounds_toArray, List.set_cons_zero, List.set_cons_succ, i64_w, i32_w]
              rfl
            refine one_ (i := 1) (N := some 89) #[true, true, true, true, true, true, true, true, false] rfl rfl (by kernel_rfl) (by decide) (fun K hK => ?_)
            refine goes_ Try.func18 (by kernel_rfl) rfl #[.pointer (some ⟨gc, 0, none⟩)] (by rfl) rfl rfl (by (try simp only [List.map_toArray, List.map_cons, List.map_nil]); first | done | rfl) ?_
            refine (step_st HS.out 0 t j rfl adT cT (fun X => ⟨1, 2, rfl, rfl⟩) hj (by omega) ht0 (by omega) HLO.out HBJ.out).mono ?_
            rintro e w85_ ⟨rfl, hSn⟩
            have HSe : Hid (St (SL.blk gc 100 #[.pointer (some ⟨gt, 0, none⟩), .int .i64 (nextT fr t), .int .i64 (((nextJ rs fr t j) : Nat) : Int)] :: SL.blk gt 97 #[.int .i64 id, .int .i64 fr, .slice (some adT) rs.length cT] :: SL.row k44 44 (.slice (some adT) rs.length cT) rs :: SL.row (Kd.int .i64) 3 (.slice A ids.length c) ids :: SL.blk gM 25 #[.int .i64 id, .int .i64 fr, .slice A2 ws.length c2, .slice A3 ns.length c3] :: []) w w85_) := Go.Lib.hid hSn
            clear hSn
            refine ⟨_, rfl, ?_⟩
            refine hK.out _ _ (HSe.out.c4 4 _ _ _ _ _ _ rfl) (fun hHeld => ?_)
            clear hK K
            refine norm_ (a' := ?_) ?_ ?_
            rotate_left
            · show Act.put _ (some 89) _ = _
              simp only [Act.put, List.setIfInBounds_toArray, List.set_cons_zero, List.set_cons_succ, i64_w, i32_w]
              rfl
            refine pure_ (i := 8) (N := some 96) (v := ?_) (a' := ?_) #[true, true, true, true, true, true, true, true, true] rfl rfl (by kernel_rfl) (fun _ _ _ h => h) (Or.inl ⟨by rfl, ?_⟩) ?_ ?_
            rotate_left
            · intro w'
              go_simp
              with_reducible rfl
            rotate_left
            · simp only [Act.put, List.setIfInBounds_toArray, List.set_cons_zero, List.set_cons_succ, i64_w, i32_w]
              rfl
            refine done_ (by kernel_rfl) ?_
            have HM2 := Go.Lib.hid hmod2
            clear e0_ e1_ hmod2 hz2
            replace HS := HSe
            clear HSe
            go_wp2_with fail
            (try simp only [Exit.inBlock, Exit.then, Sl.sealed]); refine hnorm.out _ _ ?_; go_roundw
            case rel => exact ⟨k + 1, nextT fr t, nextJ rs fr t j, hlt, rfl, by rw [← HM2.out]; rfl, in_after HRr.out HIN.out (by omega), HNB.out.1, HNB.out.2, HS.out⟩
            case measure => simp [intOf]; omega
          · have hkk : ¬ (k : Int) < 2 * fr := by omega
            have d67 : decide ((k : Int) < 2 * fr) = false := by simpa using hkk
            have hfz : (fr == 0) = false := by rw [beq_eq_false_iff_ne]; omega
            clear hlt hkk
            obtain ⟨c0_0, c0_1, c0_2⟩ := HS.out.c3 0 _ _ _ _ _ rfl
            obtain ⟨c1_0, c1_1, c1_2⟩ := HS.out.c3 1 _ _ _ _ _ rfl
            obtain ⟨c4_0, c4_1, c4_2, c4_3⟩ := HS.out.c4 4 _ _ _ _ _ _ rfl
            go_wp2_with fail
            refine hexit.out _ _ _ ?_
            clear d67 hexit hnorm hret
            go_wp2_with (first | (go_at_call 19; refine (runs_st HS.out ⟨1, 2, AT, cT, rfl, rfl⟩ (by omega)).mono ?_; rintro e w41_ ⟨A3r, c3r, rfl, HSn⟩; replace HS : Hid (St (SL.row k44 44 (.slice A3r rs.length c3r) rs :: SL.blk gc 100 #[.pointer (some ⟨gt, 0, none⟩), .int .i64 t, .int .i64 ((j : Nat) : Int)] :: SL.blk gt 97 #[.int .i64 id, .int .i64 fr, .slice AT rs.length cT] :: SL.row k44 44 (.slice AT rs.length cT) rs :: SL.row (Kd.int .i64) 3 (.slice A ids.length c) ids :: SL.blk gM 25 #[.int .i64 id, .int .i64 fr, .slice A2 ws.length c2, .slice A3 ns.length c3] :: []) w w41_) := Go.Lib.hid HSn; clear HSn; clear c0_0 c0_1 c0_2 c1_0 c1_1 c1_2 c4_0 c4_1 c4_2 c4_3; obtain ⟨c1_0, c1_1, c1_2⟩ := HS.out.c3 1 _ _ _ _ _ rfl; obtain ⟨c2_0, c2_1, c2_2⟩ := HS.out.c3 2 _ _ _ _ _ rfl; obtain ⟨c5_0, c5_1, c5_2, c5_3⟩ := HS.out.c4 5 _ _ _ _ _ _ rfl))
            clear c1_0 c1_1 c1_2 c2_0 c2_1 c2_2 c5_0 c5_1 c5_2 c5_3
            go_loopw [10, 102] (fun s i wr => ∃ k : Nat, k ≤ rs.length ∧ s = .int .i64 (endR rs k) ∧ i = .int .i64 k ∧ St (SL.row k44 44 (.slice A3r rs.length c3r) rs :: SL.blk gc 100 #[.pointer (some ⟨gt, 0, none⟩), .int .i64 t, .int .i64 ((j : Nat) : Int)] :: SL.blk gt 97 #[.int .i64 id, .int .i64 fr, .slice AT rs.length cT] :: SL.row k44 44 (.slice AT rs.length cT) rs :: SL.row (Kd.int .i64) 3 (.slice A ids.length c) ids :: SL.blk gM 25 #[.int .i64 id, .int .i64 fr, .slice A2 ws.length c2, .slice A3 ns.length c3] :: []) w wr) (fun _ i _ => rs.length - (intOf i).toNat)
            case atStart => exact ⟨0, Nat.zero_le _, by unfold endR; rw [if_pos rfl], rfl, HS.out⟩
            case round =>
              clear HS hk
              obtain ⟨k, hk, rfl, rfl, hS⟩ := hrel
              have HS := Go.Lib.hid hS
              clear hS
              by_cases hlt : k < rs.length
              · have hrd := rd_get rs k hlt
                have hst := HRr.out
                have hES : endR rs (k + 1) = endR rs k + (rd_T44 rs (k : Int)).f2 := endR_succ hst hlt
                have hfrom := endR_from hst hlt
                have hpos := hst.pos _ (rd_mem rs k hlt)
                have hlow := hst.low _ (rd_mem rs k hlt)
                obtain ⟨_, _, hv, _, hC⟩ := HS.out.rowC 0 rfl
                injection hv with q1 _ q2
                subst q1
                obtain ⟨ad, rfl, g0, g1, g2⟩ := at_run hC k hlt
                rw [hfrom] at g1
                have HES := Go.Lib.hid hES
                have dpos : decide ((rd_T44 rs (k : Int)).f2 < 1) = false := by simpa using hpos
                have hb0 : 0 ≤ endR rs k := by rw [← hfrom]; exact hlow.1
                have hb1 : endR rs k + (rd_T44 rs (k : Int)).f2 ≤ 200 := by rw [← hfrom]; exact Int.le_trans hlow.2 hf200
                clear hrd hES
                by_cases hk0 : 0 < k
                · have dk : decide (0 < (k : Int)) = true := by simpa using hk0
                  have dkN : decide (0 < k) = true := by simpa using hk0
                  obtain ⟨ad2, e2, p0, _⟩ := at_run hC (k - 1) (by omega)
                  injection e2 with e2
                  subst e2
                  have hne := (hst.step (k - 1) _ _ (rd_get rs (k - 1) (by omega)) (by rw [show k - 1 + 1 = k by omega]; exact rd_get rs k hlt)).2
                  obtain ⟨pv, hpv⟩ : ∃ pv, pv = (rd_T44 rs ((k - 1 : Nat) : Int)).f0 := ⟨_, rfl⟩
                  rw [← hpv] at p0 hne
                  have dne : (pv == (rd_T44 rs (k : Int)).f0) = false := by rw [beq_eq_false_iff_ne]; exact fun h => hne h.symm
                  skip
                  have E0 : Hid (IntKind.i64.wrap ((k : Int) - 1) = (k : Int) - 1) := Go.Lib.hid (IntWalk.i64_in _ (by omega))
                  have E1 : Hid (wrap64 ((k : Int) - 1) = (k : Int) - 1) := Go.Lib.hid (by unfold wrap64; omega)
                  have HPV : Hid (∀ {g : Nat} {w2 : World}, St (SL.blk g 44 #[.int .i64 (rd_T44 rs (k : Int)).f0, .int .i64 (endR rs k), .int .i64 (rd_T44 rs (k : Int)).f2] :: (SL.row k44 44 (.slice (some ad) rs.length c3r) rs :: SL.blk gc 100 #[.pointer (some ⟨gt, 0, none⟩), .int .i64 t, .int .i64 ((j : Nat) : Int)] :: SL.blk gt 97 #[.int .i64 id, .int .i64 fr, .slice AT rs.length cT] :: SL.row k44 44 (.slice AT rs.length cT) rs :: SL.row (Kd.int .i64) 3 (.slice A ids.length c) ids :: SL.blk gM 25 #[.int .i64 id, .int .i64 fr, .slice A2 ws.length c2, .slice A3 ns.length c3] :: [])) w w2 → w2.cell? (ad.add ((k - 1) * 3)) = some (.int .i64 pv)) := Go.Lib.hid fun h2 => by
                    obtain ⟨_, _, hv9, _, hC9⟩ := h2.rowC 1 rfl
                    injection hv9 with r1 _ _
                    rw [← r1] at hC9
                    obtain ⟨ad9, e9, p9, _⟩ := at_run hC9 (k - 1) (by omega)
                    injection e9 with e9
                    rw [e9, hpv]; exact p9
                  have HK0 := Go.Lib.hid hk0
                  clear hC hst hne hpv p0 hfrom hk0 q2 hlow
                  obtain ⟨c1_0, c1_1, c1_2⟩ := HS.out.c3 1 _ _ _ _ _ rfl
                  obtain ⟨c2_0, c2_1, c2_2⟩ := HS.out.c3 2 _ _ _ _ _ rfl
                  obtain ⟨c5_0, c5_1, c5_2, c5_3⟩ := HS.out.c4 5 _ _ _ _ _ _ rfl
                  go_upto_region 28 with (first | ((with_reducible refine gate_dst (N := 13) rfl ?_); refine Sl.box_st HS.out (by rfl) (cs := #[.int .i64 0, .int .i64 0, .int .i64 0]) (t := 44) ?hr ?_; (case hr => first | (go_simp; done) | (go_simp; rfl)); intro g13 w91_ HSn HBn; clear HBn; replace HS : Hid (St (SL.blk g13 44 #[.int .i64 0, .int .i64 0, .int .i64 0] :: SL.row k44 44 (.slice (some ad) rs.length c3r) rs :: SL.blk gc 100 #[.pointer (some ⟨gt, 0, none⟩), .int .i64 t, .int .i64 ((j : Nat) : Int)] :: SL.blk gt 97 #[.int .i64 id, .int .i64 fr, .slice AT rs.length cT] :: SL.row k44 44 (.slice AT rs.length cT) rs :: SL.row (Kd.int .i64) 3 (.slice A ids.length c) ids :: SL.blk gM 25 #[.int .i64 id, .int .i64 fr, .slice A2 ws.length c2, .slice A3 ns.length c3] :: []) w w91_) := Go.Lib.hid HSn; clear HSn; clear c1_0 c1_1 c1_2 c2_0 c2_1 c2_2 c5_0 c5_1 c5_2 c5_3; obtain ⟨c0_0, c0_1, c0_2⟩ := HS.out.c3 0 _ _ _ _ _ rfl; obtain ⟨c2_0, c2_1, c2_2⟩ := HS.out.c3 2 _ _ _ _ _ rfl; obtain ⟨c3_0, c3_1, c3_2⟩ := HS.out.c3 3 _ _ _ _ _ rfl; obtain ⟨c6_0, c6_1, c6_2, c6_3⟩ := HS.out.c4 6 _ _ _ _ _ _ rfl) | ((with_reducible refine gate_store (p := 13) rfl ?_); refine Sl.storeAll_st HS.out 0 g13 44 _ rfl [.int .i64 (rd_T44 rs (k : Int)).f0, .int .i64 (endR rs k), .int .i64 (rd_T44 rs (k : Int)).f2] rfl (by rfl) (by rfl) ?hr ?_; (case hr => have f_ := HS.out.f3 0 _ _ _ _ _ rfl; (try obtain ⟨f0, f1, f2⟩ := f_); first | (go_simp; done) | (go_simp; rfl)); intro w92_ HSn; replace HS : Hid (St (SL.blk g13 44 #[.int .i64 (rd_T44 rs (k : Int)).f0, .int .i64 (endR rs k), .int .i64 (rd_T44 rs (k : Int)).f2] :: SL.row k44 44 (.slice (some ad) rs.length c3r) rs :: SL.blk gc 100 #[.pointer (some ⟨gt, 0, none⟩), .int .i64 t, .int .i64 ((j : Nat) : Int)] :: SL.blk gt 97 #[.int .i64 id, .int .i64 fr, .slice AT rs.length cT] :: SL.row k44 44 (.slice AT rs.length cT) rs :: SL.row (Kd.int .i64) 3 (.slice A ids.length c) ids :: SL.blk gM 25 #[.int .i64 id, .int .i64 fr, .slice A2 ws.length c2, .slice A3 ns.length c3] :: []) w w92_) := Go.Lib.hid HSn; clear HSn; clear c0_0 c0_1 c0_2 c2_0 c2_1 c2_2 c3_0 c3_1 c3_2 c6_0 c6_1 c6_2 c6_3; obtain ⟨c0_0, c0_1, c0_2⟩ := HS.out.c3 0 _ _ _ _ _ rfl; obtain ⟨c2_0, c2_1, c2_2⟩ := HS.out.c3 2 _ _ _ _ _ rfl; obtain ⟨c3_0, c3_1, c3_2⟩ := HS.out.c3 3 _ _ _ _ _ rfl; obtain ⟨c6_0, c6_1, c6_2, c6_3⟩ := HS.out.c4 6 _ _ _ _ _ _ rfl))
                  clear c0_0 c0_1 c0_2 c2_0 c2_1 c2_2 c3_0 c3_1 c3_2 c6_0 c6_1 c6_2 c6_3
                  replace HS := Go.Lib.hid HS.out.drew
                  have hk9 := HK0.out
                  have e2_ : ((k : Int) - 1).toNat = k - 1 := by omega
                  have b0_ : 0 ≤ (k : Int) - 1 := by omega
                  have b1_ : (k : Int) - 1 < ((rs.length : Nat) : Int) := by omega
                  have b2_ : (1 : Int) ≤ k := by omega
                  have e0_ := E0.out
                  have e1_ := E1.out
                  clear hk9
                  refine start_ (n := 24) (S := fun w' => (w'.cell? ⟨g13, 0, none⟩ = some (.int .i64 (rd_T44 rs (k : Int)).f0) ∧ w'.cell? ⟨g13, 1, none⟩ = some (.int .i64 (endR rs k)) ∧ w'.cell? ⟨g13, 2, none⟩ = some (.int .i64 (rd_T44 rs (k : Int)).f2)) ∧ w'.cell? (ad.add ((k - 1) * 3)) = some (.int .i64 pv)) (ds := []) #[false, false, false, false, false, false, false, false, false, false, false, false, false, false, false, false, false, false, false, false, false, false, false, false] (by kernel_rfl) rfl rfl ⟨HS.out.c3 0 _ _ _ _ _ rfl, HPV.out HS.out⟩ (fun hHeld => ?_)
                  generalize w92_.drew = W_ at *
                  refine pure_ (i := 0) (N := some 107) (v := ?_) (a' := ?_) #[true, false, false, false, false, false, false, false, false, false, false, false, false, false, false, false, false, false, false, false, false, false, false, false] rfl rfl (by kernel_rfl) (fun _ _ _ h => h) (Or.inl ⟨by rfl, ?_⟩) ?_ ?_
                  rotate_left
                  · intro w'
                    go_simp
                    with_reducible rfl
                  rotate_left
                  · simp only [Act.put, List.setIfInBounds_toArray, List.set_cons_zero, List.set_cons_succ, i64_w, i32_w]
                    rfl
                  refine pure_ (i := 2) (N := some 109) (v := ?_) (a' := ?_) #[true, false, true, false, false, false, false, false, false, false, false, false, false, false, false, false, false, false, false, false, false, false, false, false] rfl rfl (by kernel_rfl) (fun _ _ _ h => h) (Or.inl ⟨by rfl, ?_⟩) ?_ ?_
                  rotate_left
                  · intro w'
                    go_simp
                    with_reducible rfl
                  rotate_left
                  · simp only [Act.put, List.setIfInBounds_toArray, List.set_cons_zero, List.set_cons_succ, i64_w, i32_w]
                    rfl
                  refine take_ (i := 1) (N := some 108) (v := ?_) (a' := ?_) #[true, true, true, false, false, false, false, false, false, false, false, false, false, false, false, false, false, false, false, false, false, false, false, false] rfl rfl (by kernel_rfl) (fun _ _ _ h => h) (Or.inl ⟨by rfl, ?_⟩) hHeld ?_ ?_
                  rotate_left
                  · rintro w' ⟨⟨s0, s1, s2⟩, s3⟩
                    go_simp
                    with_reducible rfl
                  rotate_left
                  · simp only [Act.put, List.setIfInBounds_toArray, List.set_cons_zero, List.set_cons_succ, i64_w, i32_w]
                    rfl
                  refine pure_ (i := 3) (N := some 110) (v := ?_) (a' := ?_) #[true, true, true, true, false, false, false, false, false, false, false, false, false, false, false, false, false, false, false, false, false, false, false, false] rfl rfl (by kernel_rfl) (fun _ _ _ h => h) (Or.inl ⟨by rfl, ?_⟩) ?_ ?_
                  rotate_left
                  · intro w'
                    go_simp
                    with_reducible rfl
                  rotate_left
                  · simp only [Act.put, List.setIfInBounds_toArray, List.set_cons_zero, List.set_cons_succ, i64_w, i32_w]
                    rfl
                  refine pure_ (i := 4) (N := some 111) (v := ?_) (a' := ?_) #[true, true, true, true, true, false, false, false, false, false, false, false, false, false, false, false, false, false, false, false, false, false, false, false] rfl rfl (by kernel_rfl) (fun _ _ _ h => h) (Or.inl ⟨by rfl, ?_⟩) ?_ ?_
                  rotate_left
                  · intro w'
                    go_simp
                    with_reducible rfl
                  rotate_left
                  · simp only [Act.put, List.setIfInBounds_toArray, List.set_cons_zero, List.set_cons_succ, i64_w, i32_w]
                    rfl
                  refine pure_ (i := 5) (N := some 112) (v := ?_) (a' := ?_) #[true, true, true, true, true, true, false, false, false, false, false, false, false, false, false, false, false, false, false, false, false, false, false, false] rfl rfl (by kernel_rfl) (fun _ _ _ h => h) (Or.inl ⟨by rfl, ?_⟩) ?_ ?_
                  rotate_left
                  · intro w'
                    go_simp
                    with_reducible rfl
                  rotate_left
                  · simp only [Act.put, List.setIfInBounds_toArray, List.set_cons_zero, List.set_cons_succ, i64_w, i32_w]
                    rfl
                  refine take_ (i := 6) (N := some 113) (v := ?_) (a' := ?_) #[true, true, true, true, true, true, true, false, false, false, false, false, false, false, false, false, false, false, false, false, false, false, false, false] rfl rfl (by kernel_rfl) (fun _ _ _ h => h) (Or.inl ⟨by rfl, ?_⟩) hHeld ?_ ?_
                  rotate_left
                  · rintro w' ⟨⟨s0, s1, s2⟩, s3⟩
                    go_simp
                    with_reducible rfl
                  rotate_left
                  · simp only [Act.put, List.setIfInBounds_toArray, List.set_cons_zero, List.set_cons_succ, i64_w, i32_w]
                    rfl
                  refine pure_ (i := 7) (N := some 114) (v := ?_) (a' := ?_) #[true, true, true, true, true, true, true, true, false, false, false, false, false, false, false, false, false, false, false, false, false, false, false, false] rfl rfl (by kernel_rfl) (fun _ _ _ h => h) (Or.inl ⟨by rfl, ?_⟩) ?_ ?_
                  rotate_left
                  · intro w'
                    go_simp
                    with_reducible rfl
                  rotate_left
                  · simp only [Act.put, List.setIfInBounds_toArray, List.set_cons_zero, List.set_cons_succ, i64_w, i32_w]
                    rfl
                  refine pure_ (i := 8) (N := some 115) (v := ?_) (a' := ?_) #[true, true, true, true, true, true, true, true, true, false, false, false, false, false, false, false, false, false, false, false, false, false, false, false] rfl rfl (by kernel_rfl) (fun _ _ _ h => h) (Or.inl ⟨by rfl, ?_⟩) ?_ ?_
                  rotate_left
                  · intro w'
                    go_simp
                    with_reducible rfl
                  rotate_left
                  · simp only [Act.put, List.setIfInBounds_toArray, List.set_cons_zero, List.set_cons_succ, i64_w, i32_w]
                    rfl
                  refine pure_ (i := 9) (N := some 116) (v := ?_) (a' := ?_) #[true, true, true, true, true, true, true, true, true, true, false, false, false, false, false, false, false, false, false, false, false, false, false, false] rfl rfl (by kernel_rfl) (fun _ _ _ h => h) (Or.inl ⟨by rfl, ?_⟩) ?_ ?_
                  rotate_left
                  · intro w'
                    go_simp
                    with_reducible rfl
                  rotate_left
                  · simp only [Act.put, List.setIfInBounds_toArray, List.set_cons_zero, List.set_cons_succ, i64_w, i32_w]
                    rfl
                  refine pure_ (i := 10) (N := some 117) (v := ?_) (a' := ?_) #[true, true, true, true, true, true, true, true, true, true, true, false, false, false, false, false, false, false, false, false, false, false, false, false] rfl rfl (by kernel_rfl) (fun _ _ _ h => h) (Or.inl ⟨by rfl, ?_⟩) ?_ ?_
                  rotate_left
                  · intro w'
                    go_simp
                    with_reducible rfl
                  rotate_left
                  · simp only [Act.put, List.setIfInBounds_toArray, List.set_cons_zero, List.set_cons_succ, i64_w, i32_w]
                    rfl
                  refine pure_ (i := 11) (N := some 118) (v := ?_) (a' := ?_) #[true, true, true, true, true, true, true, true, true, true, true, true, false, false, false, false, false, false, false, false, false, false, false, false] rfl rfl (by kernel_rfl) (fun _ _ _ h => h) (Or.inl ⟨by rfl, ?_⟩) ?_ ?_
                  rotate_left
                  · intro w'
                    go_simp
                    with_reducible rfl
                  rotate_left
                  · simp only [Act.put, List.setIfInBounds_toArray, List.set_cons_zero, List.set_cons_succ, i64_w, i32_w]
                    rfl
                  refine pure_ (i := 12) (N := some 119) (v := ?_) (a' := ?_) #[true, true, true, true, true, true, true, true, true, true, true, true, true, false, false, false, false, false, false, false, false, false, false, false] rfl rfl (by kernel_rfl) (fun _ _ _ h => h) (Or.inl ⟨by rfl, ?_⟩) ?_ ?_
                  rotate_left
                  · intro w'
                    go_simp
                    with_reducible rfl
                  rotate_left
                  · simp only [Act.put, List.setIfInBounds_toArray, List.set_cons_zero, List.set_cons_succ, i64_w, i32_w]
                    rfl
                  refine pure_ (i := 13) (N := some 120) (v := ?_) (a' := ?_) #[true, true, true, true, true, true, true, true, true, true, true, true, true, true, false, false, false, false, false, false, false, false, false, false] rfl rfl (by kernel_rfl) (fun _ _ _ h => h) (Or.inl ⟨by rfl, ?_⟩) ?_ ?_
                  rotate_left
                  · intro w'
                    go_simp
                    with_reducible rfl
                  rotate_left
                  · simp only [Act.put, List.setIfInBounds_toArray, List.set_cons_zero, List.set_cons_succ, i64_w, i32_w]
                    rfl
                  refine pure_ (i := 14) (N := some 121) (v := ?_) (a' := ?_) #[true, true, true, true, true, true, true, true, true, true, true, true, true, true, true, false, false, false, false, false, false, false, false, false] rfl rfl (by kernel_rfl) (fun _ _ _ h => h) (Or.inl ⟨by rfl, ?_⟩) ?_ ?_
                  rotate_left
                  · intro w'
                    go_simp
                    with_reducible rfl
                  rotate_left
                  · simp only [Act.put, List.setIfInBounds_toArray, List.set_cons_zero, List.set_cons_succ, i64_w, i32_w]
                    rfl
                  refine pure_ (i := 15) (N := some 122) (v := ?_) (a' := ?_) #[true, true, true, true, true, true, true, true, true, true, true, true, true, true, true, true, false, false, false, false, false, false, false, false] rfl rfl (by kernel_rfl) (fun _ _ _ h => h) (Or.inl ⟨by rfl, ?_⟩) ?_ ?_
                  rotate_left
                  · intro w'
                    go_simp
                    with_reducible rfl
                  rotate_left
                  · simp only [Act.put, List.setIfInBounds_toArray, List.set_cons_zero, List.set_cons_succ, i64_w, i32_w]
                    rfl
                  refine pure_ (i := 16) (N := some 123) (v := ?_) (a' := ?_) #[true, true, true, true, true, true, true, true, true, true, true, true, true, true, true, true, true, false, false, false, false, false, false, false] rfl rfl (by kernel_rfl) (fun _ _ _ h => h) (Or.inl ⟨by rfl, ?_⟩) ?_ ?_
                  rotate_left
                  · intro w'
                    go_simp
                    with_reducible rfl
                  rotate_left
                  · simp only [Act.put, List.setIfInBounds_toArray, List.set_cons_zero, List.set_cons_succ, i64_w, i32_w]
                    rfl
                  refine pure_ (i := 17) (N := some 124) (v := ?_) (a' := ?_) #[true, true, true, true, true, true, true, true, true, true, true, true, true, true, true, true, true, true, false, false, false, false, false, false] rfl rfl (by kernel_rfl) (fun _ _ _ h => h) (Or.inl ⟨by rfl, ?_⟩) ?_ ?_
                  rotate_left
                  · intro w'
                    go_simp
                    with_reducible rfl
                  rotate_left
                  · simp only [Act.put, List.setIfInBounds_toArray, List.set_cons_zero, List.set_cons_succ, i64_w, i32_w]
                    rfl
                  refine pure_ (i := 19) (N := some 126) (v := ?_) (a' := ?_) #[true, true, true, true, true, true, true, true, true, true, true, true, true, true, true, true, true, true, false, true, false, false, false, false] rfl rfl (by kernel_rfl) (fun _ _ _ h => h) (Or.inl ⟨by rfl, ?_⟩) ?_ ?_
                  rotate_left
                  · intro w'
                    go_simp
                    with_reducible rfl
                  rotate_left
                  · simp only [Act.put, List.setIfInBounds_toArray, List.set_cons_zero, List.set_cons_succ, i64_w, i32_w]
                    rfl
                  refine take_ (i := 18) (N := some 125) (v := ?_) (a' := ?_) #[true, true, true, true, true, true, true, true, true, true, true, true, true, true, true, true, true, true, true, true, false, false, false, false] rfl rfl (by kernel_rfl) (fun _ _ _ h => h) (Or.inl ⟨by rfl, ?_⟩) hHeld ?_ ?_
                  rotate_left
                  · rintro w' ⟨⟨s0, s1, s2⟩, s3⟩
                    go_simp
                    with_reducible rfl
                  rotate_left
                  · simp only [Act.put, List.setIfInBounds_toArray, List.set_cons_zero, List.set_cons_succ, i64_w, i32_w]
                    rfl
                  refine take_ (i := 20) (N := some 127) (v := ?_) (a' := ?_) #[true, true, true, true, true, true, true, true, true, true, true, true, true, true, true, true, true, true, true, true, true, false, false, false] rfl rfl (by kernel_rfl) (fun _ _ _ h => h) (Or.inl ⟨by rfl, ?_⟩) hHeld ?_ ?_
                  rotate_left
                  · rintro w' ⟨⟨s0, s1, s2⟩, s3⟩
                    go_simp
                    with_reducible rfl
                  rotate_left
                  · simp only [Act.put, List.setIfInBounds_toArray, List.set_cons_zero, List.set_cons_succ, i64_w, i32_w]
                    rfl
                  refine pure_ (i := 21) (N := some 128) (v := ?_) (a' := ?_) #[true, true, true, true, true, true, true, true, true, true, true, true, true, true, true, true, true, true, true, true, true, true, false, false] rfl rfl (by kernel_rfl) (fun _ _ _ h => h) (Or.inl ⟨by rfl, ?_⟩) ?_ ?_
                  rotate_left
                  · intro w'
                    go_simp
                    with_reducible rfl
                  rotate_left
                  · simp only [Act.put, List.setIfInBounds_toArray, List.set_cons_zero, List.set_cons_succ, i64_w, i32_w]
                    rfl
                  refine pure_ (i := 22) (N := some 129) (v := ?_) (a' := ?_) #[true, true, true, true, true, true, true, true, true, true, true, true, true, true, true, true, true, true, true, true, true, true, true, false] rfl rfl (by kernel_rfl) (fun _ _ _ h => h) (Or.inl ⟨by rfl, ?_⟩) ?_ ?_
                  rotate_left
                  · intro w'
                    go_simp
                    with_reducible rfl
                  rotate_left
                  · simp only [Act.put, List.setIfInBounds_toArray, List.set_cons_zero, List.set_cons_succ, i64_w, i32_w]
                    rfl
                  refine pure_ (i := 23) (N := some 130) (v := ?_) (a' := ?_) #[true, true, true, true, true, true, true, true, true, true, true, true, true, true, true, true, true, true, true, true, true, true, true, true] rfl rfl (by kernel_rfl) (fun _ _ _ h => h) (Or.inl ⟨by rfl, ?_⟩) ?_ ?_
                  rotate_left
                  · intro w'
                    go_simp
                    with_reducible rfl
                  rotate_left
                  · simp only [Act.put, List.setIfInBounds_toArray, List.set_cons_zero, List.set_cons_succ, i64_w, i32_w]
                    rfl
                  refine done_ (by kernel_rfl) ?_
                  clear e0_ e1_ e2_
                  obtain ⟨c0_0, c0_1, c0_2⟩ := HS.out.c3 0 _ _ _ _ _ rfl
                  obtain ⟨c2_0, c2_1, c2_2⟩ := HS.out.c3 2 _ _ _ _ _ rfl
                  obtain ⟨c3_0, c3_1, c3_2⟩ := HS.out.c3 3 _ _ _ _ _ rfl
                  obtain ⟨c6_0, c6_1, c6_2, c6_3⟩ := HS.out.c4 6 _ _ _ _ _ _ rfl
                  go_wp2_with fail
                  go_roundw
                  case rel => exact ⟨k + 1, hlt, by rw [HES.out], rfl, HS.out.drop⟩
                  case measure => simp [intOf]; omega
                · have dk : decide (0 < (k : Int)) = false := by simpa using hk0
                  have dkN : decide (0 < k) = false := by simpa using hk0
                  clear hC hst hfrom q2 hlow
                  obtain ⟨c1_0, c1_1, c1_2⟩ := HS.out.c3 1 _ _ _ _ _ rfl
                  obtain ⟨c2_0, c2_1, c2_2⟩ := HS.out.c3 2 _ _ _ _ _ rfl
                  obtain ⟨c5_0, c5_1, c5_2, c5_3⟩ := HS.out.c4 5 _ _ _ _ _ _ rfl
                  go_upto_region 28 with (first | ((with_reducible refine gate_dst (N := 13) rfl ?_); refine Sl.box_st HS.out (by rfl) (cs := #[.int .i64 0, .int .i64 0, .int .i64 0]) (t := 44) ?hr ?_; (case hr => first | (go_simp; done) | (go_simp; rfl)); intro g13 w91_ HSn HBn; clear HBn; replace HS : Hid (St (SL.blk g13 44 #[.int .i64 0, .int .i64 0, .int .i64 0] :: SL.row k44 44 (.slice (some ad) rs.length c3r) rs :: SL.blk gc 100 #[.pointer (some ⟨gt, 0, none⟩), .int .i64 t, .int .i64 ((j : Nat) : Int)] :: SL.blk gt 97 #[.int .i64 id, .int .i64 fr, .slice AT rs.length cT] :: SL.row k44 44 (.slice AT rs.length cT) rs :: SL.row (Kd.int .i64) 3 (.slice A ids.length c) ids :: SL.blk gM 25 #[.int .i64 id, .int .i64 fr, .slice A2 ws.length c2, .slice A3 ns.length c3] :: []) w w91_) := Go.Lib.hid HSn; clear HSn; clear c1_0 c1_1 c1_2 c2_0 c2_1 c2_2 c5_0 c5_1 c5_2 c5_3; obtain ⟨c0_0, c0_1, c0_2⟩ := HS.out.c3 0 _ _ _ _ _ rfl; obtain ⟨c2_0, c2_1, c2_2⟩ := HS.out.c3 2 _ _ _ _ _ rfl; obtain ⟨c3_0, c3_1, c3_2⟩ := HS.out.c3 3 _ _ _ _ _ rfl; obtain ⟨c6_0, c6_1, c6_2, c6_3⟩ := HS.out.c4 6 _ _ _ _ _ _ rfl) | ((with_reducible refine gate_store (p := 13) rfl ?_); refine Sl.storeAll_st HS.out 0 g13 44 _ rfl [.int .i64 (rd_T44 rs (k : Int)).f0, .int .i64 (endR rs k), .int .i64 (rd_T44 rs (k : Int)).f2] rfl (by rfl) (by rfl) ?hr ?_; (case hr => have f_ := HS.out.f3 0 _ _ _ _ _ rfl; (try obtain ⟨f0, f1, f2⟩ := f_); first | (go_simp; done) | (go_simp; rfl)); intro w92_ HSn; replace HS : Hid (St (SL.blk g13 44 #[.int .i64 (rd_T44 rs (k : Int)).f0, .int .i64 (endR rs k), .int .i64 (rd_T44 rs (k : Int)).f2] :: SL.row k44 44 (.slice (some ad) rs.length c3r) rs :: SL.blk gc 100 #[.pointer (some ⟨gt, 0, none⟩), .int .i64 t, .int .i64 ((j : Nat) : Int)] :: SL.blk gt 97 #[.int .i64 id, .int .i64 fr, .slice AT rs.length cT] :: SL.row k44 44 (.slice AT rs.length cT) rs :: SL.row (Kd.int .i64) 3 (.slice A ids.length c) ids :: SL.blk gM 25 #[.int .i64 id, .int .i64 fr, .slice A2 ws.length c2, .slice A3 ns.length c3] :: []) w w92_) := Go.Lib.hid HSn; clear HSn; clear c0_0 c0_1 c0_2 c2_0 c2_1 c2_2 c3_0 c3_1 c3_2 c6_0 c6_1 c6_2 c6_3; obtain ⟨c0_0, c0_1, c0_2⟩ := HS.out.c3 0 _ _ _ _ _ rfl; obtain ⟨c2_0, c2_1, c2_2⟩ := HS.out.c3 2 _ _ _ _ _ rfl; obtain ⟨c3_0, c3_1, c3_2⟩ := HS.out.c3 3 _ _ _ _ _ rfl; obtain ⟨c6_0, c6_1, c6_2, c6_3⟩ := HS.out.c4 6 _ _ _ _ _ _ rfl))
                  clear c0_0 c0_1 c0_2 c2_0 c2_1 c2_2 c3_0 c3_1 c3_2 c6_0 c6_1 c6_2 c6_3
                  replace HS := Go.Lib.hid HS.out.drew
                  refine start_ (n := 24) (S := fun w' => (w'.cell? ⟨g13, 0, none⟩ = some (.int .i64 (rd_T44 rs (k : Int)).f0) ∧ w'.cell? ⟨g13, 1, none⟩ = some (.int .i64 (endR rs k)) ∧ w'.cell? ⟨g13, 2, none⟩ = some (.int .i64 (rd_T44 rs (k : Int)).f2))) (ds := []) #[false, false, false, false, false, false, false, false, false, false, false, false, false, false, false, false, false, false, false, false, false, false, false, false] (by kernel_rfl) rfl rfl (HS.out.c3 0 _ _ _ _ _ rfl) (fun hHeld => ?_)
                  generalize w92_.drew = W_ at *
                  refine pure_ (i := 0) (N := some 107) (v := ?_) (a' := ?_) #[true, false, false, false, false, false, false, false, false, false, false, false, false, false, false, false, false, false, false, false, false, false, false, false] rfl rfl (by kernel_rfl) (fun _ _ _ h => h) (Or.inl ⟨by rfl, ?_⟩) ?_ ?_
                  rotate_left
                  · intro w'
                    go_simp
                    with_reducible rfl
                  rotate_left
                  · simp only [Act.put, List.setIfInBounds_toArray, List.set_cons_zero, List.set_cons_succ, i64_w, i32_w]
                    rfl
                  refine pure_ (i := 2) (N := some 109) (v := ?_) (a' := ?_) #[true, false, true, false, false, false, false, false, false, false, false, false, false, false, false, false, false, false, false, false, false, false, false, false] rfl rfl (by kernel_rfl) (fun _ _ _ h => h) (Or.inl ⟨by rfl, ?_⟩) ?_ ?_
                  rotate_left
                  · intro w'
                    go_simp
                    with_reducible rfl
                  rotate_left
                  · simp only [Act.put, List.setIfInBounds_toArray, List.set_cons_zero, List.set_cons_succ, i64_w, i32_w]
                    rfl
                  refine take_ (i := 1) (N := some 108) (v := ?_) (a' := ?_) #[true, true, true, false, false, false, false, false, false, false, false, false, false, false, false, false, false, false, false, false, false, false, false, false] rfl rfl (by kernel_rfl) (fun _ _ _ h => h) (Or.inl ⟨by rfl, ?_⟩) hHeld ?_ ?_
                  rotate_left
                  · rintro w' ⟨s0, s1, s2⟩
                    go_simp
                    with_reducible rfl
                  rotate_left
                  · simp only [Act.put, List.setIfInBounds_toArray, List.set_cons_zero, List.set_cons_succ, i64_w, i32_w]
                    rfl
                  refine pure_ (i := 3) (N := some 110) (v := ?_) (a' := ?_) #[true, true, true, true, false, false, false, false, false, false, false, false, false, false, false, false, false, false, false, false, false, false, false, false] rfl rfl (by kernel_rfl) (fun _ _ _ h => h) (Or.inl ⟨by rfl, ?_⟩) ?_ ?_
                  rotate_left
                  · intro w'
                    go_simp
                    with_reducible rfl
                  rotate_left
                  · simp only [Act.put, List.setIfInBounds_toArray, List.set_cons_zero, List.set_cons_succ, i64_w, i32_w]
                    rfl
                  refine pure_ (i := 4) (N := some 111) (v := ?_) (a' := ?_) #[true, true, true, true, true, false, false, false, false, false, false, false, false, false, false, false, false, false, false, false, false, false, false, false] rfl rfl (by kernel_rfl) (fun _ _ _ h => h) (Or.inl ⟨by rfl, ?_⟩) ?_ ?_
                  rotate_left
                  · intro w'
                    go_simp
                    with_reducible rfl
                  rotate_left
                  · simp only [Act.put, List.setIfInBounds_toArray, List.set_cons_zero, List.set_cons_succ, i64_w, i32_w]
                    rfl
                  refine pure_ (i := 5) (N := some 112) (v := ?_) (a' := ?_) #[true, true, true, true, true, true, false, false, false, false, false, false, false, false, false, false, false, false, false, false, false, false, false, false] rfl rfl (by kernel_rfl) (fun _ _ _ h => h) (Or.inl ⟨by rfl, ?_⟩) ?_ ?_
                  rotate_left
                  · intro w'
                    go_simp
                    with_reducible rfl
                  rotate_left
                  · simp only [Act.put, List.setIfInBounds_toArray, List.set_cons_zero, List.set_cons_succ, i64_w, i32_w]
                    rfl
                  refine take_ (i := 6) (N := some 113) (v := ?_) (a' := ?_) #[true, true, true, true, true, true, true, false, false, false, false, false, false, false, false, false, false, false, false, false, false, false, false, false] rfl rfl (by kernel_rfl) (fun _ _ _ h => h) (Or.inl ⟨by rfl, ?_⟩) hHeld ?_ ?_
                  rotate_left
                  · rintro w' ⟨s0, s1, s2⟩
                    go_simp
                    with_reducible rfl
                  rotate_left
                  · simp only [Act.put, List.setIfInBounds_toArray, List.set_cons_zero, List.set_cons_succ, i64_w, i32_w]
                    rfl
                  refine pure_ (i := 7) (N := some 114) (v := ?_) (a' := ?_) #[true, true, true, true, true, true, true, true, false, false, false, false, false, false, false, false, false, false, false, false, false, false, false, false] rfl rfl (by kernel_rfl) (fun _ _ _ h => h) (Or.inl ⟨by rfl, ?_⟩) ?_ ?_
                  rotate_left
                  · intro w'
                    go_simp
                    with_reducible rfl
                  rotate_left
                  · simp only [Act.put, List.setIfInBounds_toArray, List.set_cons_zero, List.set_cons_succ, i64_w, i32_w]
                    rfl
                  refine pure_ (i := 8) (N := some 115) (v := ?_) (a' := ?_) #[true, true, true, true, true, true, true, true, true, false, false, false, false, false, false, false, false, false, false, false, false, false, false, false] rfl rfl (by kernel_rfl) (fun _ _ _ h => h) (Or.inl ⟨by rfl, ?_⟩) ?_ ?_
                  rotate_left
                  · intro w'
                    go_simp
                    with_reducible rfl
                  rotate_left
                  · simp only [Act.put, List.setIfInBounds_toArray, List.set_cons_zero, List.set_cons_succ, i64_w, i32_w]
                    rfl
                  refine pure_ (i := 9) (N := some 116) (v := ?_) (a' := ?_) #[true, true, true, true, true, true, true, true, true, true, false, false, false, false, false, false, false, false, false, false, false, false, false, false] rfl rfl (by kernel_rfl) (fun _ _ _ h => h) (Or.inl ⟨by rfl, ?_⟩) ?_ ?_
                  rotate_left
                  · intro w'
                    go_simp
                    with_reducible rfl
                  rotate_left
                  · simp only [Act.put, List.setIfInBounds_toArray, List.set_cons_zero, List.set_cons_succ, i64_w, i32_w]
                    rfl
                  refine pure_ (i := 10) (N := some 117) (v := ?_) (a' := ?_) #[true, true, true, true, true, true, true, true, true, true, true, false, false, false, false, false, false, false, false, false, false, false, false, false] rfl rfl (by kernel_rfl) (fun _ _ _ h => h) (Or.inl ⟨by rfl, ?_⟩) ?_ ?_
                  rotate_left
                  · intro w'
                    go_simp
                    with_reducible rfl
                  rotate_left
                  · simp only [Act.put, List.setIfInBounds_toArray, List.set_cons_zero, List.set_cons_succ, i64_w, i32_w]
                    rfl
                  refine pure_ (i := 11) (N := some 118) (v := ?_) (a' := ?_) #[true, true, true, true, true, true, true, true, true, true, true, true, false, false, false, false, false, false, false, false, false, false, false, false] rfl rfl (by kernel_rfl) (fun _ _ _ h => h) (Or.inl ⟨by rfl, ?_⟩) ?_ ?_
                  rotate_left
                  · intro w'
                    go_simp
                    with_reducible rfl
                  rotate_left
                  · simp only [Act.put, List.setIfInBounds_toArray, List.set_cons_zero, List.set_cons_succ, i64_w, i32_w]
                    rfl
                  refine pure_ (i := 12) (N := some 119) (v := ?_) (a' := ?_) #[true, true, true, true, true, true, true, true, true, true, true, true, true, false, false, false, false, false, false, false, false, false, false, false] rfl rfl (by kernel_rfl) (fun _ _ _ h => h) (Or.inl ⟨by rfl, ?_⟩) ?_ ?_
                  rotate_left
                  · intro w'
                    go_simp
                    with_reducible rfl
                  rotate_left
                  · simp only [Act.put, List.setIfInBounds_toArray, List.set_cons_zero, List.set_cons_succ, i64_w, i32_w]
                    rfl
                  refine pure_ (i := 13) (N := some 120) (v := undef) (a' := ?_) #[true, true, true, true, true, true, true, true, true, true, true, true, true, true, false, false, false, false, false, false, false, false, false, false] rfl rfl (by kernel_rfl) (fun _ _ _ h => h) (Or.inr ⟨by rfl, rfl⟩) ?_ ?_
                  rotate_left
                  · show _ = _
                    simp only [Act.put, List.setIfInBounds_toArray, List.set_cons_zero, List.set_cons_succ, i64_w, i32_w]
                    rfl
                  refine pure_ (i := 14) (N := some 121) (v := undef) (a' := ?_) #[true, true, true, true, true, true, true, true, true, true, true, true, true, true, true, false, false, false, false, false, false, false, false, false] rfl rfl (by kernel_rfl) (fun _ _ _ h => h) (Or.inr ⟨by rfl, rfl⟩) ?_ ?_
                  rotate_left
                  · show _ = _
                    simp only [Act.put, List.setIfInBounds_toArray, List.set_cons_zero, List.set_cons_succ, i64_w, i32_w]
                    rfl
                  refine pure_ (i := 15) (N := some 122) (v := undef) (a' := ?_) #[true, true, true, true, true, true, true, true, true, true, true, true, true, true, true, true, false, false, false, false, false, false, false, false] rfl rfl (by kernel_rfl) (fun _ _ _ h => h) (Or.inr ⟨by rfl, rfl⟩) ?_ ?_
                  rotate_left
                  · show _ = _
                    simp only [Act.put, List.setIfInBounds_toArray, List.set_cons_zero, List.set_cons_succ, i64_w, i32_w]
                    rfl
                  refine pure_ (i := 16) (N := some 123) (v := undef) (a' := ?_) #[true, true, true, true, true, true, true, true, true, true, true, true, true, true, true, true, true, false, false, false, false, false, false, false] rfl rfl (by kernel_rfl) (fun _ _ _ h => h) (Or.inr ⟨by rfl, rfl⟩) ?_ ?_
                  rotate_left
                  · show _ = _
                    simp only [Act.put, List.setIfInBounds_toArray, List.set_cons_zero, List.set_cons_succ, i64_w, i32_w]
                    rfl
                  refine pure_ (i := 17) (N := some 124) (v := undef) (a' := ?_) #[true, true, true, true, true, true, true, true, true, true, true, true, true, true, true, true, true, true, false, false, false, false, false, false] rfl rfl (by kernel_rfl) (fun _ _ _ h => h) (Or.inr ⟨by rfl, rfl⟩) ?_ ?_
                  rotate_left
                  · show _ = _
                    simp only [Act.put, List.setIfInBounds_toArray, List.set_cons_zero, List.set_cons_succ, i64_w, i32_w]
                    rfl
                  refine pure_ (i := 18) (N := some 125) (v := undef) (a' := ?_) #[true, true, true, true, true, true, true, true, true, true, true, true, true, true, true, true, true, true, true, false, false, false, false, false] rfl rfl (by kernel_rfl) (fun _ _ _ h => h) (Or.inr ⟨by rfl, rfl⟩) ?_ ?_
                  rotate_left
                  · show _ = _
                    simp only [Act.put, List.setIfInBounds_toArray, List.set_cons_zero, List.set_cons_succ, i64_w, i32_w]
                    rfl
                  refine pure_ (i := 19) (N := some 126) (v := undef) (a' := ?_) #[true, true, true, true, true, true, true, true, true, true, true, true, true, true, true, true, true, true, true, true, false, false, false, false] rfl rfl (by kernel_rfl) (fun _ _ _ h => h) (Or.inr ⟨by rfl, rfl⟩) ?_ ?_
                  rotate_left
                  · show _ = _
                    simp only [Act.put, List.setIfInBounds_toArray, List.set_cons_zero, List.set_cons_succ, i64_w, i32_w]
                    rfl
                  refine pure_ (i := 20) (N := some 127) (v := undef) (a' := ?_) #[true, true, true, true, true, true, true, true, true, true, true, true, true, true, true, true, true, true, true, true, true, false, false, false] rfl rfl (by kernel_rfl) (fun _ _ _ h => h) (Or.inr ⟨by rfl, rfl⟩) ?_ ?_
                  rotate_left
                  · show _ = _
                    simp only [Act.put, List.setIfInBounds_toArray, List.set_cons_zero, List.set_cons_succ, i64_w, i32_w]
                    rfl
                  refine pure_ (i := 21) (N := some 128) (v := undef) (a' := ?_) #[true, true, true, true, true, true, true, true, true, true, true, true, true, true, true, true, true, true, true, true, true, true, false, false] rfl rfl (by kernel_rfl) (fun _ _ _ h => h) (Or.inr ⟨by rfl, rfl⟩) ?_ ?_
                  rotate_left
                  · show _ = _
                    simp only [Act.put, List.setIfInBounds_toArray, List.set_cons_zero, List.set_cons_succ, i64_w, i32_w]
                    rfl
                  refine pure_ (i := 22) (N := some 129) (v := ?_) (a' := ?_) #[true, true, true, true, true, true, true, true, true, true, true, true, true, true, true, true, true, true, true, true, true, true, true, false] rfl rfl (by kernel_rfl) (fun _ _ _ h => h) (Or.inl ⟨by rfl, ?_⟩) ?_ ?_
                  rotate_left
                  · intro w'
                    go_simp
                    with_reducible rfl
                  rotate_left
                  · simp only [Act.put, List.setIfInBounds_toArray, List.set_cons_zero, List.set_cons_succ, i64_w, i32_w]
                    rfl
                  refine pure_ (i := 23) (N := some 130) (v := ?_) (a' := ?_) #[true, true, true, true, true, true, true, true, true, true, true, true, true, true, true, true, true, true, true, true, true, true, true, true] rfl rfl (by kernel_rfl) (fun _ _ _ h => h) (Or.inl ⟨by rfl, ?_⟩) ?_ ?_
                  rotate_left
                  · intro w'
                    go_simp
                    with_reducible rfl
                  rotate_left
                  · simp only [Act.put, List.setIfInBounds_toArray, List.set_cons_zero, List.set_cons_succ, i64_w, i32_w]
                    rfl
                  refine done_ (by kernel_rfl) ?_
                  obtain ⟨c0_0, c0_1, c0_2⟩ := HS.out.c3 0 _ _ _ _ _ rfl
                  obtain ⟨c2_0, c2_1, c2_2⟩ := HS.out.c3 2 _ _ _ _ _ rfl
                  obtain ⟨c3_0, c3_1, c3_2⟩ := HS.out.c3 3 _ _ _ _ _ rfl
                  obtain ⟨c6_0, c6_1, c6_2, c6_3⟩ := HS.out.c4 6 _ _ _ _ _ _ rfl
                  go_wp2_with fail
                  go_roundw
                  case rel => exact ⟨k + 1, hlt, by rw [HES.out], rfl, HS.out.drop⟩
                  case measure => simp [intOf]; omega
              · obtain rfl : k = rs.length := by omega
                have hend : endR rs rs.length = fr := endR_last HRr.out (by omega)
                have HEN := Go.Lib.hid hend
                rw [hend]
                clear hk hlt hend
                obtain ⟨c1_0, c1_1, c1_2⟩ := HS.out.c3 1 _ _ _ _ _ rfl
                obtain ⟨c2_0, c2_1, c2_2⟩ := HS.out.c3 2 _ _ _ _ _ rfl
                obtain ⟨c5_0, c5_1, c5_2, c5_3⟩ := HS.out.c4 5 _ _ _ _ _ _ rfl
                go_wp2_with (go_at_call 11; refine (awake_st HS.out).mono ?_; rintro e w97_ ⟨rfl, hS9⟩; replace HS := Go.Lib.hid hS9; clear hS9)
                go_ret
                exact ⟨rfl, HS.out.below⟩
end Go.Proofs.Ytnpjbdaaoknkbaa.Tab
