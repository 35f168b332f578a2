/- What is wrong with a module. -/
import Derived.Test.YtnniejaknnpcjaaYFin2
import Derived.Test.YtnniejaknnpcjaaYQ2
import Derived.Test.YtnniejaknnpcjaaYHyp9
import Derived.Test.YtnniejaknnpcjaaYSlq
import Derived.Deep.QuietTactic
import Derived.BigQuiet
import Derived.IntWalk
namespace Go.Proofs.Ytnniejaknnpcjaa.Fin
open Go.RowKit Go.Proofs.YtnniejaknnpcjaaW.PrintWords Go.Proofs.YtnniejaknnpcjaaW.PrintLast Go.Proofs.YtnniejaknnpcjaaW.PrintMore Go.Proofs.Ytnniejaknnpcjaa.Mine Go.Proofs.Ytnniejaknnpcjaa.PHyperNumbers
open Go.Proofs.Ytnniejaknnpcjaa.Sl (SL Stp Chg St No)
set_option linter.unusedVariables false
set_option linter.unusedSimpArgs false
attribute [local go_sem] max2_int min2_int max_two min_two max_three min_three max_four min_four
/-- Actions name what there is, and rise. -/
def ARise (ps : List S84) (ss : List S46) (av : List S125) (k : Nat) : Prop :=
 (∀ j : Nat, j < k → (av.getD j z125).f0 ∈ ss.map S46.f0 ∧ (av.getD j z125).f1 ∈ ps.map S84.f0 ∧ ((av.getD j z125).f2 = 1 ∨ (av.getD j z125).f2 = 2)) ∧
 ∀ j : Nat, j + 1 < k → (av.getD j z125).f0 < (av.getD (j + 1) z125).f0 ∨ (av.getD j z125).f0 = (av.getD (j + 1) z125).f0 ∧ (av.getD j z125).f1 < (av.getD (j + 1) z125).f1
theorem arise_step {ps : List S84} {ss : List S46} {av : List S125} {k : Nat} (h : ARise ps ss av k) (h3 : (av.getD k z125).f0 ∈ ss.map S46.f0 ∧ (av.getD k z125).f1 ∈ ps.map S84.f0 ∧ ((av.getD k z125).f2 = 1 ∨ (av.getD k z125).f2 = 2))
  (h2 : 0 < k → (av.getD (k - 1) z125).f0 < (av.getD k z125).f0 ∨ (av.getD (k - 1) z125).f0 = (av.getD k z125).f0 ∧ (av.getD (k - 1) z125).f1 < (av.getD k z125).f1) : ARise ps ss av (k + 1) := by
 refine ⟨fun j hj => ?_, fun j hj => ?_⟩
 ·by_cases e : j < k
  ·exact h.1 j e
  ·obtain rfl : j = k := by omega
   exact h3
 ·by_cases e : j + 1 < k
  ·exact h.2 j e
  ·obtain rfl : k = j + 1 := by omega
   exact h2 (by omega)
/-- A module that may be run. -/
structure ModOk (fi : Int) (ps : List S84) (ss : List S46) (qs : List S95) (av : List S125) : Prop where
 first : fi ∈ ss.map S46.f0
 two : TwoOk ps ss
 pairs : PairsOk qs (ss.map S46.f0)
 acts : ARise ps ss av av.length
theorem less11 (a b c d e f : Int) : countwheelref11_Less.f a b c d e f = some (decide (a < d ∨ a = d ∧ b < e)) := by
 unfold countwheelref11_Less.f
 split
 ·congr 1; symm; rw [decide_eq_true_eq]; omega
 ·split
  ·congr 1; rw [decide_eq_decide]; omega
  ·congr 1; symm; rw [decide_eq_false_iff_not]; omega
set_option maxHeartbeats 12800000 in
set_option maxRecDepth 100000 in
theorem wrong_told (w : World) (ep fi : Int) (A2 : Option Addr) (c2 : Nat) (ps : List S84) (A3 : Option Addr) (c3 : Nat) (ss : List S46) (A4 : Option Addr) (c4 : Nat) (qs : List S95) (A5 : Option Addr) (c5 : Nat) (av : List S125) (hr2 : Kd.C k84 w A2 ps.length ps) (hc2 : ps.length ≤ c2) (hr3 : Kd.C k46 w A3 ss.length ss) (hc3 : ss.length ≤ c3) (hr4 : Kd.C k95 w A4 qs.length qs) (hc4 : qs.length ≤ c4) (hr5 : Kd.C k125 w A5 av.length av) (hc5 : av.length ≤ c5) (hl : NotLarge ps ss qs av) (hnm : ∀ p ∈ ps, p.f1.size ≤ 9223372036854775807) :
  Calls Try.prog 47 #[.agg #[.int .u64 ep, .int .i64 fi, .slice A2 ps.length c2, .slice A3 ss.length c3, .slice A4 qs.length c4, .slice A5 av.length c5]] w (Told (ModOk fi ps ss qs av) w) := by
 have hps := hl.hps
 have hss := hl.hss
 have hqs := hl.hqs
 have hav := hl.hav
 obtain ⟨KS, hKS⟩ : ∃ KS, KS = ss.length + 1 := ⟨_, rfl⟩
 obtain ⟨KP, hKP⟩ : ∃ KP, KP = ps.length + 1 := ⟨_, rfl⟩
 have HSC := Go.Lib.hid (scheds_is (ep := ep) (fi := fi) (ps := ps) (ss := ss) (qs := qs) (av := av) (by omega) KS (by omega))
 have HPS := Go.Lib.hid (parts_is (ep := ep) (fi := fi) (ps := ps) (ss := ss) (qs := qs) (av := av) (by omega) KP (by omega))
 obtain ⟨KI, hKI⟩ : ∃ KI, KI = (ss.map S46.f0).length + 1 := ⟨_, rfl⟩
 obtain ⟨KJ, hKJ⟩ : ∃ KJ, KJ = (ps.map S84.f0).length + 1 := ⟨_, rfl⟩
 obtain ⟨KC, hKC⟩ : ∃ KC, KC = 2 * qs.length + (ss.map S46.f0).length + 3 := ⟨_, rfl⟩
 have HIL : Hid (Small (ss.map S46.f0)) := Go.Lib.hid (by unfold Small; rw [List.length_map]; omega)
 have HJL : Hid (Small (ps.map S84.f0)) := Go.Lib.hid (by unfold Small; rw [List.length_map]; omega)
 have HKI := Go.Lib.hid (Nat.le_of_eq hKI.symm)
 have HKJ := Go.Lib.hid (Nat.le_of_eq hKJ.symm)
 have HKC := Go.Lib.hid (Nat.le_of_eq hKC.symm)
 have HL := Go.Lib.hid hl
 have HNM := Go.Lib.hid hnm
 have HR2 := Go.Lib.hid hr2
 have HR3 := Go.Lib.hid hr3
 have HR4 := Go.Lib.hid hr4
 have HR5 := Go.Lib.hid hr5
 have HS := Go.Lib.hid (St.start w)
 clear hl hnm hr2 hr3 hr4 hr5 hKS hKP hKI hKJ hKC
 obtain ⟨bi, hbi⟩ : ∃ bi, bi = decide (fi ∈ ss.map S46.f0) := ⟨_, rfl⟩
 have HIN : Hid (countwheelref15_In.f KI (ss.map S46.f0) fi = some bi) := Go.Lib.hid (by rw [in_is _ _ HIL.out KI HKI.out, hbi])
 have HBI := Go.Lib.hid hbi
 clear hbi
 go_enter Try.func47, Try.ntmps47
 go_upto_region 1 with (first | ((with_reducible refine gate_dst (N := 1) rfl ?_); refine Sl.box_st HS.out (by rfl) (cs := #[.int .u64 ep, .int .i64 fi, .slice A2 ps.length c2, .slice A3 ss.length c3, .slice A4 qs.length c4, .slice A5 av.length c5]) (t := 28) ?hr ?_; (case hr => first | (go_simp; done) | (go_simp; rfl)); intro gM w1_ HSn HBn; clear HBn; replace HS : Hid (St (SL.blk gM 28 #[.int .u64 ep, .int .i64 fi, .slice A2 ps.length c2, .slice A3 ss.length c3, .slice A4 qs.length c4, .slice A5 av.length c5] :: []) w w1_) := Go.Lib.hid HSn; clear HSn; obtain ⟨c0_0, c0_1, c0_2, c0_3, c0_4, c0_5⟩ := HS.out.c6 0 _ _ _ _ _ _ _ _ rfl) | ((with_reducible refine gate_dst (N := 2) rfl ?_); refine Sl.box_st HS.out (by rfl) (cs := #[.int .i64 0, .int .i64 0, .int .i64 0]) (t := 80) ?hr ?_; (case hr => first | (go_simp; done) | (go_simp; rfl)); intro gF w2_ HSn HBn; clear HBn; replace HS : Hid (St (SL.blk gF 80 #[.int .i64 0, .int .i64 0, .int .i64 0] :: SL.blk gM 28 #[.int .u64 ep, .int .i64 fi, .slice A2 ps.length c2, .slice A3 ss.length c3, .slice A4 qs.length c4, .slice A5 av.length c5] :: []) w w2_) := Go.Lib.hid HSn; clear HSn; clear c0_0 c0_1 c0_2 c0_3 c0_4 c0_5; obtain ⟨c0_0, c0_1, c0_2⟩ := HS.out.c3 0 _ _ _ _ _ rfl; obtain ⟨c1_0, c1_1, c1_2, c1_3, c1_4, c1_5⟩ := HS.out.c6 1 _ _ _ _ _ _ _ _ rfl))
 clear c0_0 c0_1 c0_2 c1_0 c1_1 c1_2 c1_3 c1_4 c1_5
 replace HS := Go.Lib.hid HS.out.drew
 refine start_ (n := 6) (S := fun w' => w'.cell? ⟨gM, 0, none⟩ = some (.int .u64 ep) ∧ w'.cell? ⟨gM, 1, none⟩ = some (.int .i64 fi) ∧ w'.cell? ⟨gM, 2, none⟩ = some (.slice A2 ps.length c2) ∧ w'.cell? ⟨gM, 3, none⟩ = some (.slice A3 ss.length c3) ∧ w'.cell? ⟨gM, 4, none⟩ = some (.slice A4 qs.length c4) ∧ w'.cell? ⟨gM, 5, none⟩ = some (.slice A5 av.length c5)) (ds := []) #[false, false, false, false, false, false] (by kernel_rfl) rfl rfl (HS.out.c6 1 _ _ _ _ _ _ _ _ rfl) (fun hHeld => ?_)
 generalize w2_.drew = W_ at *
 refine pure_ (i := 2) (N := some 10) (v := ?_) (a' := ?_) #[false, false, true, false, false, false] rfl rfl (by kernel_rfl) (fun _ _ _ h => h) (Or.inl ⟨by rfl, ?_⟩) ?_ ?_
 rotate_left
 ·intro w'
  go_simp
  with_reducible rfl
 rotate_left
 ·simp only [Act.put, List.setIfInBounds_toArray, List.set_cons_zero, List.set_cons_succ, i64_w, i32_w]
  rfl
 refine take_ (i := 0) (N := some 8) (v := ?_) (a' := ?_) #[true, false, true, false, false, false] rfl rfl (by kernel_rfl) (fun _ _ _ h => h) (Or.inl ⟨by rfl, ?_⟩) hHeld ?_ ?_
 rotate_left
 ·rintro w' ⟨s0, s1, s2, s3, s4, s5⟩
  go_simp
  with_reducible rfl
 rotate_left
 ·simp only [Act.put, List.setIfInBounds_toArray, List.set_cons_zero, List.set_cons_succ, i64_w, i32_w]
  rfl
 refine take_ (i := 3) (N := some 11) (v := ?_) (a' := ?_) #[true, false, true, true, false, false] rfl rfl (by kernel_rfl) (fun _ _ _ h => h) (Or.inl ⟨by rfl, ?_⟩) hHeld ?_ ?_
 rotate_left
 ·rintro w' ⟨s0, s1, s2, s3, s4, s5⟩
  go_simp
  with_reducible rfl
 rotate_left
 ·simp only [Act.put, List.setIfInBounds_toArray, List.set_cons_zero, List.set_cons_succ, i64_w, i32_w]
  rfl
 refine one_ (i := 1) (N := some 9) #[true, true, true, true, false, false] rfl rfl (by kernel_rfl) (by decide) (fun K hK => ?_)
 refine goes_ Try.func36 (by kernel_rfl) rfl #[.agg #[.int .u64 ep, .int .i64 fi, .slice A2 ps.length c2, .slice A3 ss.length c3, .slice A4 qs.length c4, .slice A5 av.length c5]] (by rfl) rfl rfl (by (try simp only [List.map_toArray, List.map_cons, List.map_nil]); first | done | rfl) ?_
 refine (countwheelref16_Scheds.calls KS ep fi A2 c2 ps A3 c3 ss A4 c4 qs A5 c5 av (ss.map S46.f0) _ (HS.out.C HR2.out) hc2 (HS.out.C HR3.out) hc3 (HS.out.C HR4.out) hc4 (HS.out.C HR5.out) hc5 HSC.out).mono ?_
 rintro e w92 ⟨v6, rfl, hR6, hB6⟩
 have HSn := HS.out.row hR6 hB6
 obtain ⟨A6, c6, hv6, hcc6, hC6⟩ := HSn.rowC 0 rfl
 subst hv6
 have HC6 := Go.Lib.hid hC6
 clear hC6 hR6 hB6
 refine ⟨_, rfl, ?_⟩
 refine hK.out _ _ (HSn.c6 2 _ _ _ _ _ _ _ _ rfl) (fun hHeld => ?_)
 clear hK K
 refine norm_ (a' := ?_) ?_ ?_
 rotate_left
 ·show Act.put _ (some 9) _ = _
  simp only [Act.put, List.setIfInBounds_toArray, List.set_cons_zero, List.set_cons_succ, i64_w, i32_w]
  rfl
 refine one_ (i := 4) (N := some 12) #[true, true, true, true, true, false] rfl rfl (by kernel_rfl) (by decide) (fun K hK => ?_)
 refine goes_ Try.func50 (by kernel_rfl) rfl #[.slice A6 (ss.map S46.f0).length c6, .int .i64 fi] (by rfl) rfl rfl (by (try simp only [List.map_toArray, List.map_cons, List.map_nil]); first | done | rfl) ?_
 refine (countwheelref15_In.calls KI A6 c6 (ss.map S46.f0) fi bi _ HC6.out hcc6 HIN.out).mono ?_
 rintro e w93 ⟨rfl, hD6⟩
 have HSm := HSn.drawn hD6
 refine ⟨_, rfl, ?_⟩
 refine hK.out _ _ (HSm.c6 2 _ _ _ _ _ _ _ _ rfl) (fun hHeld => ?_)
 clear hK K
 refine norm_ (a' := ?_) ?_ ?_
 rotate_left
 ·show Act.put _ (some 12) _ = _
  simp only [Act.put, List.setIfInBounds_toArray, List.set_cons_zero, List.set_cons_succ, i64_w, i32_w]
  rfl
 refine pure_ (i := 5) (N := some 13) (v := ?_) (a' := ?_) #[true, true, true, true, true, true] rfl rfl (by kernel_rfl) (fun _ _ _ h => h) (Or.inl ⟨by rfl, ?_⟩) ?_ ?_
 rotate_left
 ·intro w'
  go_simp
  with_reducible rfl
 rotate_left
 ·simp only [Act.put, List.setIfInBounds_toArray, List.set_cons_zero, List.set_cons_succ, i64_w, i32_w]
  rfl
 refine done_ (by kernel_rfl) ?_
 replace HS := Go.Lib.hid HSm.drop
 clear HSm HSn HC6
 obtain ⟨c0_0, c0_1, c0_2⟩ := HS.out.c3 0 _ _ _ _ _ rfl
 obtain ⟨c1_0, c1_1, c1_2, c1_3, c1_4, c1_5⟩ := HS.out.c6 1 _ _ _ _ _ _ _ _ rfl
 cases bi
 ·skip
  clear c0_0 c0_1 c0_2 c1_0 c1_1 c1_2 c1_3 c1_4 c1_5
  obtain ⟨c0_0, c0_1, c0_2⟩ := HS.out.c3 0 _ _ _ _ _ rfl
  obtain ⟨c1_0, c1_1, c1_2, c1_3, c1_4, c1_5⟩ := HS.out.c6 1 _ _ _ _ _ _ _ _ rfl
  go_wp2_with (first | (go_at_call 77; refine (countwheelref16_bad.calls (10 : Int) (1 : Int) (0 : Int) (10 : Int) (1 : Int) (0 : Int) _ rfl).mono ?_; rintro e w71_ ⟨rfl, hB⟩; replace HS := Go.Lib.hid (HS.out.then_ hB); clear hB; clear c0_0 c0_1 c0_2 c1_0 c1_1 c1_2 c1_3 c1_4 c1_5; obtain ⟨c0_0, c0_1, c0_2⟩ := HS.out.c3 0 _ _ _ _ _ rfl; obtain ⟨c1_0, c1_1, c1_2, c1_3, c1_4, c1_5⟩ := HS.out.c6 1 _ _ _ _ _ _ _ _ rfl) | ((with_reducible refine gate_store (p := 2) rfl ?_); refine Sl.storeAll_st HS.out 0 gF 80 _ rfl [.int .i64 10, .int .i64 1, .int .i64 0] rfl (by rfl) (by rfl) ?hr ?_; (case hr => have f_ := HS.out.f3 0 _ _ _ _ _ rfl; (try obtain ⟨f0, f1, f2⟩ := f_); first | (go_simp; done) | (go_simp; rfl)); intro w71_ HSn; replace HS : Hid (St (SL.blk gF 80 #[.int .i64 10, .int .i64 1, .int .i64 0] :: SL.blk gM 28 #[.int .u64 ep, .int .i64 fi, .slice A2 ps.length c2, .slice A3 ss.length c3, .slice A4 qs.length c4, .slice A5 av.length c5] :: []) w w71_) := Go.Lib.hid HSn; clear HSn; clear c0_0 c0_1 c0_2 c1_0 c1_1 c1_2 c1_3 c1_4 c1_5; obtain ⟨c0_0, c0_1, c0_2⟩ := HS.out.c3 0 _ _ _ _ _ rfl; obtain ⟨c1_0, c1_1, c1_2, c1_3, c1_4, c1_5⟩ := HS.out.c6 1 _ _ _ _ _ _ _ _ rfl))
  (try simp only [Exit.inBlock, Exit.then]); refine bodyPost_ret (v := .agg #[.int .i64 10, .int .i64 1, .int .i64 0]) (results_cell_row (by rfl) _ _ gF 80 _ (0, 0) _ (by rfl) (HS.out.heap 0 _ _ _ rfl) Try.underlying80 rfl infoF) rfl ⟨_, _, _, rfl, fun h => by omega, HS.out.below⟩
 ·have HFI : Hid (fi ∈ ss.map S46.f0) := Go.Lib.hid (by have := HBI.out; simpa using this)
  go_upto_region 4 with (first | (go_at_call 78; refine (two_told _ ep fi A2 c2 ps A3 c3 ss A4 c4 qs A5 c5 av (HS.out.C HR2.out) hc2 (HS.out.C HR3.out) hc3 (HS.out.C HR4.out) hc4 (HS.out.C HR5.out) hc5 HL.out HNM.out).mono ?_; rintro e w20_ ⟨x, y, z, rfl, htw, hB⟩; have HTW := Go.Lib.hid htw; replace HS := Go.Lib.hid (HS.out.then_ hB); clear hB htw; clear c0_0 c0_1 c0_2 c1_0 c1_1 c1_2 c1_3 c1_4 c1_5; obtain ⟨c0_0, c0_1, c0_2⟩ := HS.out.c3 0 _ _ _ _ _ rfl; obtain ⟨c1_0, c1_1, c1_2, c1_3, c1_4, c1_5⟩ := HS.out.c6 1 _ _ _ _ _ _ _ _ rfl) | ((with_reducible refine gate_dst (N := 3) rfl ?_); refine Sl.box_st HS.out (by rfl) (cs := #[.int .i64 0, .int .i64 0, .int .i64 0]) (t := 80) ?hr ?_; (case hr => first | (go_simp; done) | (go_simp; rfl)); intro g3 w21_ HSn HBn; clear HBn; replace HS : Hid (St (SL.blk g3 80 #[.int .i64 0, .int .i64 0, .int .i64 0] :: SL.blk gF 80 #[.int .i64 0, .int .i64 0, .int .i64 0] :: SL.blk gM 28 #[.int .u64 ep, .int .i64 fi, .slice A2 ps.length c2, .slice A3 ss.length c3, .slice A4 qs.length c4, .slice A5 av.length c5] :: []) w w21_) := Go.Lib.hid HSn; clear HSn; clear c0_0 c0_1 c0_2 c1_0 c1_1 c1_2 c1_3 c1_4 c1_5; obtain ⟨c0_0, c0_1, c0_2⟩ := HS.out.c3 0 _ _ _ _ _ rfl; obtain ⟨c1_0, c1_1, c1_2⟩ := HS.out.c3 1 _ _ _ _ _ rfl; obtain ⟨c2_0, c2_1, c2_2, c2_3, c2_4, c2_5⟩ := HS.out.c6 2 _ _ _ _ _ _ _ _ rfl) | ((with_reducible refine gate_store (p := 3) rfl ?_); refine Sl.storeAll_st HS.out 0 g3 80 _ rfl [.int .i64 x, .int .i64 y, .int .i64 z] rfl (by rfl) (by rfl) ?hr ?_; (case hr => have f_ := HS.out.f3 0 _ _ _ _ _ rfl; (try obtain ⟨f0, f1, f2⟩ := f_); first | (go_simp; done) | (go_simp; rfl)); intro w22_ HSn; replace HS : Hid (St (SL.blk g3 80 #[.int .i64 x, .int .i64 y, .int .i64 z] :: SL.blk gF 80 #[.int .i64 0, .int .i64 0, .int .i64 0] :: SL.blk gM 28 #[.int .u64 ep, .int .i64 fi, .slice A2 ps.length c2, .slice A3 ss.length c3, .slice A4 qs.length c4, .slice A5 av.length c5] :: []) w w22_) := Go.Lib.hid HSn; clear HSn; clear c0_0 c0_1 c0_2 c1_0 c1_1 c1_2 c2_0 c2_1 c2_2 c2_3 c2_4 c2_5; obtain ⟨c0_0, c0_1, c0_2⟩ := HS.out.c3 0 _ _ _ _ _ rfl; obtain ⟨c1_0, c1_1, c1_2⟩ := HS.out.c3 1 _ _ _ _ _ rfl; obtain ⟨c2_0, c2_1, c2_2, c2_3, c2_4, c2_5⟩ := HS.out.c6 2 _ _ _ _ _ _ _ _ rfl))
  by_cases hx : x = 0
  ·have d0 : (x != 0) = false := by rw [bne_eq_false_iff_eq]; exact hx
   have HTO := Go.Lib.hid (HTW.out hx)
   clear hx
   have hcs := check15_is qs (ss.map S46.f0) HR4.out.2.1 HIL.out KC HKC.out
   obtain ⟨q1, q2, hq, hqo⟩ := hcs
   have HQ := Go.Lib.hid hq
   have HQO := Go.Lib.hid hqo
   clear hq hqo
   go_upto_region 6 with (fail)
   clear c0_0 c0_1 c0_2 c1_0 c1_1 c1_2 c2_0 c2_1 c2_2 c2_3 c2_4 c2_5
   replace HS := Go.Lib.hid HS.out.drop.drew
   refine start_ (n := 10) (S := fun w' => w'.cell? ⟨gM, 0, none⟩ = some (.int .u64 ep) ∧ w'.cell? ⟨gM, 1, none⟩ = some (.int .i64 fi) ∧ w'.cell? ⟨gM, 2, none⟩ = some (.slice A2 ps.length c2) ∧ w'.cell? ⟨gM, 3, none⟩ = some (.slice A3 ss.length c3) ∧ w'.cell? ⟨gM, 4, none⟩ = some (.slice A4 qs.length c4) ∧ w'.cell? ⟨gM, 5, none⟩ = some (.slice A5 av.length c5)) (ds := []) #[false, false, false, false, false, false, false, false, false, false] (by kernel_rfl) rfl rfl (HS.out.c6 1 _ _ _ _ _ _ _ _ rfl) (fun hHeld => ?_)
   generalize w22_.drew = W_ at *
   refine pure_ (i := 0) (N := some 22) (v := ?_) (a' := ?_) #[true, false, false, false, false, false, false, false, false, false] rfl rfl (by kernel_rfl) (fun _ _ _ h => h) (Or.inl ⟨by rfl, ?_⟩) ?_ ?_
   rotate_left
   ·intro w'
    go_simp
    with_reducible rfl
   rotate_left
   ·simp only [Act.put, List.setIfInBounds_toArray, List.set_cons_zero, List.set_cons_succ, i64_w, i32_w]
    rfl
   refine take_ (i := 1) (N := some 23) (v := ?_) (a' := ?_) #[true, true, false, false, false, false, false, false, false, false] rfl rfl (by kernel_rfl) (fun _ _ _ h => h) (Or.inl ⟨by rfl, ?_⟩) hHeld ?_ ?_
   rotate_left
   ·rintro w' ⟨s0, s1, s2, s3, s4, s5⟩
    go_simp
    with_reducible rfl
   rotate_left
   ·simp only [Act.put, List.setIfInBounds_toArray, List.set_cons_zero, List.set_cons_succ, i64_w, i32_w]
    rfl
   refine take_ (i := 2) (N := some 24) (v := ?_) (a' := ?_) #[true, true, true, false, false, false, false, false, false, false] rfl rfl (by kernel_rfl) (fun _ _ _ h => h) (Or.inl ⟨by rfl, ?_⟩) hHeld ?_ ?_
   rotate_left
   ·rintro w' ⟨s0, s1, s2, s3, s4, s5⟩
    go_simp
    with_reducible rfl
   rotate_left
   ·simp only [Act.put, List.setIfInBounds_toArray, List.set_cons_zero, List.set_cons_succ, i64_w, i32_w]
    rfl
   refine one_ (i := 3) (N := some 25) #[true, true, true, true, false, false, false, false, false, false] rfl rfl (by kernel_rfl) (by decide) (fun K hK => ?_)
   refine goes_ Try.func36 (by kernel_rfl) rfl #[.agg #[.int .u64 ep, .int .i64 fi, .slice A2 ps.length c2, .slice A3 ss.length c3, .slice A4 qs.length c4, .slice A5 av.length c5]] (by rfl) rfl rfl (by (try simp only [List.map_toArray, List.map_cons, List.map_nil]); first | done | rfl) ?_
   refine (countwheelref16_Scheds.calls KS ep fi A2 c2 ps A3 c3 ss A4 c4 qs A5 c5 av (ss.map S46.f0) _ (HS.out.C HR2.out) hc2 (HS.out.C HR3.out) hc3 (HS.out.C HR4.out) hc4 (HS.out.C HR5.out) hc5 HSC.out).mono ?_
   rintro e w92 ⟨v6, rfl, hR6, hB6⟩
   have HSn := HS.out.row hR6 hB6
   obtain ⟨A6, c6, hv6, hcc6, hC6⟩ := HSn.rowC 0 rfl
   subst hv6
   have HC6 := Go.Lib.hid hC6
   clear hC6 hR6 hB6
   refine ⟨_, rfl, ?_⟩
   refine hK.out _ _ (HSn.c6 2 _ _ _ _ _ _ _ _ rfl) (fun hHeld => ?_)
   clear hK K
   refine norm_ (a' := ?_) ?_ ?_
   rotate_left
   ·show Act.put _ (some 25) _ = _
    simp only [Act.put, List.setIfInBounds_toArray, List.set_cons_zero, List.set_cons_succ, i64_w, i32_w]
    rfl
   refine one_ (i := 4) (N := some 26) #[true, true, true, true, true, false, false, false, false, false] rfl rfl (by kernel_rfl) (by decide) (fun K hK => ?_)
   refine goes_ Try.func79 (by kernel_rfl) rfl #[.slice A4 qs.length c4, .slice A6 (ss.map S46.f0).length c6] (by rfl) rfl rfl (by (try simp only [List.map_toArray, List.map_cons, List.map_nil]); first | done | rfl) ?_
   refine (countwheelref15_Check.calls KC A4 c4 qs A6 c6 (ss.map S46.f0) q1 q2 _ (HSn.C HR4.out) hc4 HC6.out hcc6 HQ.out).mono ?_
   rintro e w93 ⟨rfl, hB6⟩
   have HSm := HSn.then_ hB6
   refine ⟨_, rfl, ?_⟩
   refine hK.out _ _ (HSm.c6 2 _ _ _ _ _ _ _ _ rfl) (fun hHeld => ?_)
   clear hK K
   refine norm_ (a' := ?_) ?_ ?_
   rotate_left
   ·show Act.put _ (some 26) _ = _
    simp only [Act.put, List.setIfInBounds_toArray, List.set_cons_zero, List.set_cons_succ, i64_w, i32_w]
    rfl
   refine pure_ (i := 5) (N := some 21) (v := ?_) (a' := ?_) #[true, true, true, true, true, true, false, false, false, false] rfl rfl (by kernel_rfl) (fun _ _ _ h => h) (Or.inl ⟨by rfl, ?_⟩) ?_ ?_
   rotate_left
   ·intro w'
    go_simp
    with_reducible rfl
   rotate_left
   ·simp only [Act.put, List.setIfInBounds_toArray, List.set_cons_zero, List.set_cons_succ, i64_w, i32_w]
    rfl
   refine pure_ (i := 6) (N := some 27) (v := ?_) (a' := ?_) #[true, true, true, true, true, true, true, false, false, false] rfl rfl (by kernel_rfl) (fun _ _ _ h => h) (Or.inl ⟨by rfl, ?_⟩) ?_ ?_
   rotate_left
   ·intro w'
    go_simp
    with_reducible rfl
   rotate_left
   ·simp only [Act.put, List.setIfInBounds_toArray, List.set_cons_zero, List.set_cons_succ, i64_w, i32_w]
    rfl
   refine pure_ (i := 7) (N := some 28) (v := ?_) (a' := ?_) #[true, true, true, true, true, true, true, true, false, false] rfl rfl (by kernel_rfl) (fun _ _ _ h => h) (Or.inl ⟨by rfl, ?_⟩) ?_ ?_
   rotate_left
   ·intro w'
    go_simp
    with_reducible rfl
   rotate_left
   ·simp only [Act.put, List.setIfInBounds_toArray, List.set_cons_zero, List.set_cons_succ, i64_w, i32_w]
    rfl
   refine pure_ (i := 8) (N := some 4) (v := ?_) (a' := ?_) #[true, true, true, true, true, true, true, true, true, false] rfl rfl (by kernel_rfl) (fun _ _ _ h => h) (Or.inl ⟨by rfl, ?_⟩) ?_ ?_
   rotate_left
   ·intro w'
    go_simp
    with_reducible rfl
   rotate_left
   ·simp only [Act.put, List.setIfInBounds_toArray, List.set_cons_zero, List.set_cons_succ, i64_w, i32_w]
    rfl
   refine pure_ (i := 9) (N := some 5) (v := ?_) (a' := ?_) #[true, true, true, true, true, true, true, true, true, true] rfl rfl (by kernel_rfl) (fun _ _ _ h => h) (Or.inl ⟨by rfl, ?_⟩) ?_ ?_
   rotate_left
   ·intro w'
    go_simp
    with_reducible rfl
   rotate_left
   ·simp only [Act.put, List.setIfInBounds_toArray, List.set_cons_zero, List.set_cons_succ, i64_w, i32_w]
    rfl
   refine done_ (by kernel_rfl) ?_
   replace HS := Go.Lib.hid HSm.drop
   clear HSm HSn HC6
   obtain ⟨c0_0, c0_1, c0_2⟩ := HS.out.c3 0 _ _ _ _ _ rfl
   obtain ⟨c1_0, c1_1, c1_2, c1_3, c1_4, c1_5⟩ := HS.out.c6 1 _ _ _ _ _ _ _ _ rfl
   by_cases hq0 : q2 = 0
   ·have dq : (q2 != 0) = false := by rw [bne_eq_false_iff_eq]; exact hq0
    have HQ0 := Go.Lib.hid hq0
    clear hq0
    by_cases h240 : (240 : Int) < qs.length
    ·have dm : decide ((240 : Int) < (qs.length : Int)) = true := by simpa using h240
     clear h240 c0_0 c0_1 c0_2 c1_0 c1_1 c1_2 c1_3 c1_4 c1_5
     obtain ⟨c0_0, c0_1, c0_2⟩ := HS.out.c3 0 _ _ _ _ _ rfl
     obtain ⟨c1_0, c1_1, c1_2, c1_3, c1_4, c1_5⟩ := HS.out.c6 1 _ _ _ _ _ _ _ _ rfl
     go_wp2_with (first | (go_at_call 77; refine (countwheelref16_bad.calls (8 : Int) (4 : Int) (0 : Int) (8 : Int) (4 : Int) (0 : Int) _ rfl).mono ?_; rintro e w71_ ⟨rfl, hB⟩; replace HS := Go.Lib.hid (HS.out.then_ hB); clear hB; clear c0_0 c0_1 c0_2 c1_0 c1_1 c1_2 c1_3 c1_4 c1_5; obtain ⟨c0_0, c0_1, c0_2⟩ := HS.out.c3 0 _ _ _ _ _ rfl; obtain ⟨c1_0, c1_1, c1_2, c1_3, c1_4, c1_5⟩ := HS.out.c6 1 _ _ _ _ _ _ _ _ rfl) | ((with_reducible refine gate_store (p := 2) rfl ?_); refine Sl.storeAll_st HS.out 0 gF 80 _ rfl [.int .i64 8, .int .i64 4, .int .i64 0] rfl (by rfl) (by rfl) ?hr ?_; (case hr => have f_ := HS.out.f3 0 _ _ _ _ _ rfl; (try obtain ⟨f0, f1, f2⟩ := f_); first | (go_simp; done) | (go_simp; rfl)); intro w71_ HSn; replace HS : Hid (St (SL.blk gF 80 #[.int .i64 8, .int .i64 4, .int .i64 0] :: SL.blk gM 28 #[.int .u64 ep, .int .i64 fi, .slice A2 ps.length c2, .slice A3 ss.length c3, .slice A4 qs.length c4, .slice A5 av.length c5] :: []) w w71_) := Go.Lib.hid HSn; clear HSn; clear c0_0 c0_1 c0_2 c1_0 c1_1 c1_2 c1_3 c1_4 c1_5; obtain ⟨c0_0, c0_1, c0_2⟩ := HS.out.c3 0 _ _ _ _ _ rfl; obtain ⟨c1_0, c1_1, c1_2, c1_3, c1_4, c1_5⟩ := HS.out.c6 1 _ _ _ _ _ _ _ _ rfl))
     (try simp only [Exit.inBlock, Exit.then]); refine bodyPost_ret (v := .agg #[.int .i64 8, .int .i64 4, .int .i64 0]) (results_cell_row (by rfl) _ _ gF 80 _ (0, 0) _ (by rfl) (HS.out.heap 0 _ _ _ rfl) Try.underlying80 rfl infoF) rfl ⟨_, _, _, rfl, fun h => by omega, HS.out.below⟩
    ·have dm : decide ((240 : Int) < (qs.length : Int)) = false := by simpa using h240
     clear h240
     go_wp2_with fail
     clear d0 dq dm c0_0 c0_1 c0_2 c1_0 c1_1 c1_2 c1_3 c1_4 c1_5
     simp only [List.length_map]
     go_loopw [6] (fun i wr => ∃ k : Nat, k ≤ av.length ∧ i = .int .i64 k ∧ ARise ps ss av k ∧ St [SL.blk gF 80 #[.int .i64 0, .int .i64 0, .int .i64 0], SL.blk gM 28 #[.int .u64 ep, .int .i64 fi, .slice A2 ps.length c2, .slice A3 ss.length c3, .slice A4 qs.length c4, .slice A5 av.length c5]] w wr) (fun i _ => av.length - (intOf i).toNat)
     case atStart => exact ⟨0, Nat.zero_le _, rfl, ⟨fun j hj => by omega, fun j hj => by omega⟩, HS.out⟩
     case round =>
      clear HS
      obtain ⟨k, hk, rfl, har, hS⟩ := hrel
      refine Sl.wpc_round (fn := Try.f47) (R := Told (ModOk fi ps ss qs av) w) (fun a w h => h) ?_
      intro N_ X_ R_ hnorm hexit hret
      have HS := Go.Lib.hid hS
      have HAR := Go.Lib.hid har
      clear hS har
      obtain ⟨c0_0, c0_1, c0_2⟩ := HS.out.c3 0 _ _ _ _ _ rfl
      obtain ⟨c1_0, c1_1, c1_2, c1_3, c1_4, c1_5⟩ := HS.out.c6 1 _ _ _ _ _ _ _ _ rfl
      by_cases hlt : k < av.length
      ·obtain ⟨ad, rfl, g0, g1, g2⟩ := at_T125 HR5.out (k : Int) (by omega) (by omega)
       rw [Int.toNat_natCast] at g0 g1 g2
       replace g0 := HS.out.old g0
       replace g1 := HS.out.old g1
       replace g2 := HS.out.old g2
       obtain ⟨v, hve⟩ : ∃ v, v = rd_T125 av (k : Int) := ⟨_, rfl⟩
       rw [← hve] at g0 g1 g2
       have HVE := Go.Lib.hid hve
       clear hve
       go_upto_region 15 with (first | ((with_reducible refine gate_dst (N := 7) rfl ?_); refine Sl.box_st HS.out (by rfl) (cs := #[.int .i64 0, .int .i64 0, .int .i64 0]) (t := 125) ?hr ?_; (case hr => first | (go_simp; done) | (go_simp; rfl)); intro g7 w21_ HSn HBn; clear HBn; replace HS : Hid (St (SL.blk g7 125 #[.int .i64 0, .int .i64 0, .int .i64 0] :: SL.blk gF 80 #[.int .i64 0, .int .i64 0, .int .i64 0] :: SL.blk gM 28 #[.int .u64 ep, .int .i64 fi, .slice A2 ps.length c2, .slice A3 ss.length c3, .slice A4 qs.length c4, .slice (some ad) av.length c5] :: []) w w21_) := Go.Lib.hid HSn; clear HSn; clear c0_0 c0_1 c0_2 c1_0 c1_1 c1_2 c1_3 c1_4 c1_5; obtain ⟨c0_0, c0_1, c0_2⟩ := HS.out.c3 0 _ _ _ _ _ rfl; obtain ⟨c1_0, c1_1, c1_2⟩ := HS.out.c3 1 _ _ _ _ _ rfl; obtain ⟨c2_0, c2_1, c2_2, c2_3, c2_4, c2_5⟩ := HS.out.c6 2 _ _ _ _ _ _ _ _ rfl) | ((with_reducible refine gate_store (p := 7) rfl ?_); refine Sl.storeAll_st HS.out 0 g7 125 _ rfl [.int .i64 v.f0, .int .i64 v.f1, .int .i64 v.f2] rfl (by rfl) (by rfl) ?hr ?_; (case hr => have f_ := HS.out.f3 0 _ _ _ _ _ rfl; (try obtain ⟨f0, f1, f2⟩ := f_); first | (go_simp; done) | (go_simp; rfl)); intro w22_ HSn; replace HS : Hid (St (SL.blk g7 125 #[.int .i64 v.f0, .int .i64 v.f1, .int .i64 v.f2] :: SL.blk gF 80 #[.int .i64 0, .int .i64 0, .int .i64 0] :: SL.blk gM 28 #[.int .u64 ep, .int .i64 fi, .slice A2 ps.length c2, .slice A3 ss.length c3, .slice A4 qs.length c4, .slice (some ad) av.length c5] :: []) w w22_) := Go.Lib.hid HSn; clear HSn; clear c0_0 c0_1 c0_2 c1_0 c1_1 c1_2 c2_0 c2_1 c2_2 c2_3 c2_4 c2_5; obtain ⟨c0_0, c0_1, c0_2⟩ := HS.out.c3 0 _ _ _ _ _ rfl; obtain ⟨c1_0, c1_1, c1_2⟩ := HS.out.c3 1 _ _ _ _ _ rfl; obtain ⟨c2_0, c2_1, c2_2, c2_3, c2_4, c2_5⟩ := HS.out.c6 2 _ _ _ _ _ _ _ _ rfl))
       clear g0 g1 g2 c0_0 c0_1 c0_2 c1_0 c1_1 c1_2 c2_0 c2_1 c2_2 c2_3 c2_4 c2_5
       replace HS := Go.Lib.hid HS.out.drew
       by_cases h1 : v.f0 ∈ ss.map S46.f0
       ·have HB1 : Hid (countwheelref15_In.f KI (ss.map S46.f0) v.f0 = some true) := Go.Lib.hid (by rw [in_is _ _ HIL.out KI HKI.out]; simpa using h1)
        have H1 := Go.Lib.hid h1
        clear h1
        obtain ⟨b2, hb2⟩ : ∃ b2, b2 = decide (v.f1 ∈ ps.map S84.f0) := ⟨_, rfl⟩
        have HB2 : Hid (countwheelref15_In.f KJ (ps.map S84.f0) v.f1 = some b2) := Go.Lib.hid (by rw [in_is _ _ HJL.out KJ HKJ.out, hb2])
        have HBB := Go.Lib.hid hb2
        clear hb2
        refine start_ (n := 14) (S := fun w' => (w'.cell? ⟨g7, 0, none⟩ = some (.int .i64 v.f0) ∧ w'.cell? ⟨g7, 1, none⟩ = some (.int .i64 v.f1) ∧ w'.cell? ⟨g7, 2, none⟩ = some (.int .i64 v.f2)) ∧ (w'.cell? ⟨gM, 0, none⟩ = some (.int .u64 ep) ∧ w'.cell? ⟨gM, 1, none⟩ = some (.int .i64 fi) ∧ w'.cell? ⟨gM, 2, none⟩ = some (.slice A2 ps.length c2) ∧ w'.cell? ⟨gM, 3, none⟩ = some (.slice A3 ss.length c3) ∧ w'.cell? ⟨gM, 4, none⟩ = some (.slice A4 qs.length c4) ∧ w'.cell? ⟨gM, 5, none⟩ = some (.slice (some ad) av.length c5))) (ds := []) #[false, false, false, false, false, false, false, false, false, false, false, false, false, false] (by kernel_rfl) rfl rfl ⟨HS.out.c3 0 _ _ _ _ _ rfl, (HS.out.c6 2 _ _ _ _ _ _ _ _ rfl)⟩ (fun hHeld => ?_)
        generalize w22_.drew = W_ at *
        refine pure_ (i := 2) (N := some 53) (v := ?_) (a' := ?_) #[false, false, true, false, false, false, false, false, false, false, false, false, false, false] rfl rfl (by kernel_rfl) (fun _ _ _ h => h) (Or.inl ⟨by rfl, ?_⟩) ?_ ?_
        rotate_left
        ·intro w'
         go_simp
         with_reducible rfl
        rotate_left
        ·simp only [Act.put, List.setIfInBounds_toArray, List.set_cons_zero, List.set_cons_succ, i64_w, i32_w]
         rfl
        refine take_ (i := 0) (N := some 51) (v := ?_) (a' := ?_) #[true, false, true, false, false, false, false, false, false, false, false, false, false, false] rfl rfl (by kernel_rfl) (fun _ _ _ h => h) (Or.inl ⟨by rfl, ?_⟩) hHeld ?_ ?_
        rotate_left
        ·rintro w' ⟨⟨s0, s1, s2⟩, s3, s4, s5, s6, s7, s8⟩
         go_simp
         with_reducible rfl
        rotate_left
        ·simp only [Act.put, List.setIfInBounds_toArray, List.set_cons_zero, List.set_cons_succ, i64_w, i32_w]
         rfl
        refine take_ (i := 3) (N := some 54) (v := ?_) (a' := ?_) #[true, false, true, true, false, false, false, false, false, false, false, false, false, false] rfl rfl (by kernel_rfl) (fun _ _ _ h => h) (Or.inl ⟨by rfl, ?_⟩) hHeld ?_ ?_
        rotate_left
        ·rintro w' ⟨⟨s0, s1, s2⟩, s3, s4, s5, s6, s7, s8⟩
         go_simp
         with_reducible rfl
        rotate_left
        ·simp only [Act.put, List.setIfInBounds_toArray, List.set_cons_zero, List.set_cons_succ, i64_w, i32_w]
         rfl
        refine one_ (i := 1) (N := some 52) #[true, true, true, true, false, false, false, false, false, false, false, false, false, false] rfl rfl (by kernel_rfl) (by decide) (fun K hK => ?_)
        refine goes_ Try.func36 (by kernel_rfl) rfl #[.agg #[.int .u64 ep, .int .i64 fi, .slice A2 ps.length c2, .slice A3 ss.length c3, .slice A4 qs.length c4, .slice (some ad) av.length c5]] (by rfl) rfl rfl (by (try simp only [List.map_toArray, List.map_cons, List.map_nil]); first | done | rfl) ?_
        refine (countwheelref16_Scheds.calls KS ep fi A2 c2 ps A3 c3 ss A4 c4 qs (some ad) c5 av (ss.map S46.f0) _ (HS.out.C HR2.out) hc2 (HS.out.C HR3.out) hc3 (HS.out.C HR4.out) hc4 (HS.out.C HR5.out) hc5 HSC.out).mono ?_
        rintro e w92 ⟨v6, rfl, hR6, hB6⟩
        have HSn := HS.out.row hR6 hB6
        obtain ⟨A6, c6, hv6, hcc6, hC6⟩ := HSn.rowC 0 rfl
        subst hv6
        have HC6 := Go.Lib.hid hC6
        clear hC6 hR6 hB6
        refine ⟨_, rfl, ?_⟩
        refine hK.out _ _ ⟨HSn.c3 1 _ _ _ _ _ rfl, (HSn.c6 3 _ _ _ _ _ _ _ _ rfl)⟩ (fun hHeld => ?_)
        clear hK K
        refine norm_ (a' := ?_) ?_ ?_
        rotate_left
        ·show Act.put _ (some 52) _ = _
         simp only [Act.put, List.setIfInBounds_toArray, List.set_cons_zero, List.set_cons_succ, i64_w, i32_w]
         rfl
        refine one_ (i := 4) (N := some 55) #[true, true, true, true, true, false, false, false, false, false, false, false, false, false] rfl rfl (by kernel_rfl) (by decide) (fun K hK => ?_)
        refine goes_ Try.func50 (by kernel_rfl) rfl #[.slice A6 (ss.map S46.f0).length c6, .int .i64 v.f0] (by rfl) rfl rfl (by (try simp only [List.map_toArray, List.map_cons, List.map_nil]); first | done | rfl) ?_
        refine (countwheelref15_In.calls KI A6 c6 (ss.map S46.f0) v.f0 true _ HC6.out hcc6 HB1.out).mono ?_
        rintro e w93 ⟨rfl, hD6⟩
        have HSm := HSn.drawn hD6
        refine ⟨_, rfl, ?_⟩
        refine hK.out _ _ ⟨HSm.c3 1 _ _ _ _ _ rfl, (HSm.c6 3 _ _ _ _ _ _ _ _ rfl)⟩ (fun hHeld => ?_)
        clear hK K
        refine norm_ (a' := ?_) ?_ ?_
        rotate_left
        ·show Act.put _ (some 55) _ = _
         simp only [Act.put, List.setIfInBounds_toArray, List.set_cons_zero, List.set_cons_succ, i64_w, i32_w]
         rfl
        refine pure_ (i := 5) (N := some 56) (v := ?_) (a' := ?_) #[true, true, true, true, true, true, false, false, false, false, false, false, false, false] rfl rfl (by kernel_rfl) (fun _ _ _ h => h) (Or.inl ⟨by rfl, ?_⟩) ?_ ?_
        rotate_left
        ·intro w'
         go_simp
         with_reducible rfl
        rotate_left
        ·simp only [Act.put, List.setIfInBounds_toArray, List.set_cons_zero, List.set_cons_succ, i64_w, i32_w]
         rfl
        refine pure_ (i := 6) (N := some 57) (v := ?_) (a' := ?_) #[true, true, true, true, true, true, true, false, false, false, false, false, false, false] rfl rfl (by kernel_rfl) (fun _ _ _ h => h) (Or.inl ⟨by rfl, ?_⟩) ?_ ?_
        rotate_left
        ·intro w'
         go_simp
         with_reducible rfl
        rotate_left
        ·simp only [Act.put, List.setIfInBounds_toArray, List.set_cons_zero, List.set_cons_succ, i64_w, i32_w]
         rfl
        refine pure_ (i := 9) (N := some 60) (v := ?_) (a' := ?_) #[true, true, true, true, true, true, true, false, false, true, false, false, false, false] rfl rfl (by kernel_rfl) (fun _ _ _ h => h) (Or.inl ⟨by rfl, ?_⟩) ?_ ?_
        rotate_left
        ·intro w'
         go_simp
         with_reducible rfl
        rotate_left
        ·simp only [Act.put, List.setIfInBounds_toArray, List.set_cons_zero, List.set_cons_succ, i64_w, i32_w]
         rfl
        refine take_ (i := 7) (N := some 58) (v := ?_) (a' := ?_) #[true, true, true, true, true, true, true, true, false, true, false, false, false, false] rfl rfl (by kernel_rfl) (fun _ _ _ h => h) (Or.inl ⟨by rfl, ?_⟩) hHeld ?_ ?_
        rotate_left
        ·rintro w' ⟨⟨s0, s1, s2⟩, s3, s4, s5, s6, s7, s8⟩
         go_simp
         with_reducible rfl
        rotate_left
        ·simp only [Act.put, List.setIfInBounds_toArray, List.set_cons_zero, List.set_cons_succ, i64_w, i32_w]
         rfl
        refine take_ (i := 10) (N := some 61) (v := ?_) (a' := ?_) #[true, true, true, true, true, true, true, true, false, true, true, false, false, false] rfl rfl (by kernel_rfl) (fun _ _ _ h => h) (Or.inl ⟨by rfl, ?_⟩) hHeld ?_ ?_
        rotate_left
        ·rintro w' ⟨⟨s0, s1, s2⟩, s3, s4, s5, s6, s7, s8⟩
         go_simp
         with_reducible rfl
        rotate_left
        ·simp only [Act.put, List.setIfInBounds_toArray, List.set_cons_zero, List.set_cons_succ, i64_w, i32_w]
         rfl
        refine one_ (i := 8) (N := some 59) #[true, true, true, true, true, true, true, true, true, true, true, false, false, false] rfl rfl (by kernel_rfl) (by decide) (fun K hK => ?_)
        refine goes_ Try.func80 (by kernel_rfl) rfl #[.agg #[.int .u64 ep, .int .i64 fi, .slice A2 ps.length c2, .slice A3 ss.length c3, .slice A4 qs.length c4, .slice (some ad) av.length c5]] (by rfl) rfl rfl (by (try simp only [List.map_toArray, List.map_cons, List.map_nil]); first | done | rfl) ?_
        refine (countwheelref16_Parts.calls KP ep fi A2 c2 ps A3 c3 ss A4 c4 qs (some ad) c5 av (ps.map S84.f0) _ (HSm.C HR2.out) hc2 (HSm.C HR3.out) hc3 (HSm.C HR4.out) hc4 (HSm.C HR5.out) hc5 HPS.out).mono ?_
        rintro e w94 ⟨v7, rfl, hR6, hB6⟩
        have HSp := HSm.row hR6 hB6
        obtain ⟨A7, c7, hv6, hcc7, hC6⟩ := HSp.rowC 0 rfl
        subst hv6
        have HC7 := Go.Lib.hid hC6
        clear hC6 hR6 hB6
        refine ⟨_, rfl, ?_⟩
        refine hK.out _ _ ⟨HSp.c3 2 _ _ _ _ _ rfl, (HSp.c6 4 _ _ _ _ _ _ _ _ rfl)⟩ (fun hHeld => ?_)
        clear hK K
        refine norm_ (a' := ?_) ?_ ?_
        rotate_left
        ·show Act.put _ (some 59) _ = _
         simp only [Act.put, List.setIfInBounds_toArray, List.set_cons_zero, List.set_cons_succ, i64_w, i32_w]
         rfl
        refine one_ (i := 11) (N := some 62) #[true, true, true, true, true, true, true, true, true, true, true, true, false, false] rfl rfl (by kernel_rfl) (by decide) (fun K hK => ?_)
        refine goes_ Try.func50 (by kernel_rfl) rfl #[.slice A7 (ps.map S84.f0).length c7, .int .i64 v.f1] (by rfl) rfl rfl (by (try simp only [List.map_toArray, List.map_cons, List.map_nil]); first | done | rfl) ?_
        refine (countwheelref15_In.calls KJ A7 c7 (ps.map S84.f0) v.f1 b2 _ HC7.out hcc7 HB2.out).mono ?_
        rintro e w95 ⟨rfl, hD6⟩
        have HSq := HSp.drawn hD6
        refine ⟨_, rfl, ?_⟩
        refine hK.out _ _ ⟨HSq.c3 2 _ _ _ _ _ rfl, (HSq.c6 4 _ _ _ _ _ _ _ _ rfl)⟩ (fun hHeld => ?_)
        clear hK K
        refine norm_ (a' := ?_) ?_ ?_
        rotate_left
        ·show Act.put _ (some 62) _ = _
         simp only [Act.put, List.setIfInBounds_toArray, List.set_cons_zero, List.set_cons_succ, i64_w, i32_w]
         rfl
        refine pure_ (i := 12) (N := some 63) (v := ?_) (a' := ?_) #[true, true, true, true, true, true, true, true, true, true, true, true, true, false] rfl rfl (by kernel_rfl) (fun _ _ _ h => h) (Or.inl ⟨by rfl, ?_⟩) ?_ ?_
        rotate_left
        ·intro w'
         go_simp
         with_reducible rfl
        rotate_left
        ·simp only [Act.put, List.setIfInBounds_toArray, List.set_cons_zero, List.set_cons_succ, i64_w, i32_w]
         rfl
        refine pure_ (i := 13) (N := some 64) (v := ?_) (a' := ?_) #[true, true, true, true, true, true, true, true, true, true, true, true, true, true] rfl rfl (by kernel_rfl) (fun _ _ _ h => h) (Or.inl ⟨by rfl, ?_⟩) ?_ ?_
        rotate_left
        ·intro w'
         go_simp
         with_reducible rfl
        rotate_left
        ·simp only [Act.put, List.setIfInBounds_toArray, List.set_cons_zero, List.set_cons_succ, i64_w, i32_w]
         rfl
        refine done_ (by kernel_rfl) ?_
        replace HS := Go.Lib.hid HSq.drop.drop
        clear HSm HSn HSp HSq HC6 HC7
        obtain ⟨c0_0, c0_1, c0_2⟩ := HS.out.c3 0 _ _ _ _ _ rfl
        obtain ⟨c1_0, c1_1, c1_2⟩ := HS.out.c3 1 _ _ _ _ _ rfl
        obtain ⟨c2_0, c2_1, c2_2, c2_3, c2_4, c2_5⟩ := HS.out.c6 2 _ _ _ _ _ _ _ _ rfl
        cases b2
        ·clear c0_0 c0_1 c0_2 c1_0 c1_1 c1_2 c2_0 c2_1 c2_2 c2_3 c2_4 c2_5
         obtain ⟨c0_0, c0_1, c0_2⟩ := HS.out.c3 0 _ _ _ _ _ rfl
         obtain ⟨c1_0, c1_1, c1_2⟩ := HS.out.c3 1 _ _ _ _ _ rfl
         obtain ⟨c2_0, c2_1, c2_2, c2_3, c2_4, c2_5⟩ := HS.out.c6 2 _ _ _ _ _ _ _ _ rfl
         go_wp2_with (first | (go_at_call 77; refine (countwheelref16_bad.calls (10 : Int) (5 : Int) (k : Int) (10 : Int) (5 : Int) (k : Int) _ rfl).mono ?_; rintro e w71_ ⟨rfl, hB⟩; replace HS := Go.Lib.hid (HS.out.then_ hB); clear hB; clear c0_0 c0_1 c0_2 c1_0 c1_1 c1_2 c2_0 c2_1 c2_2 c2_3 c2_4 c2_5; obtain ⟨c0_0, c0_1, c0_2⟩ := HS.out.c3 0 _ _ _ _ _ rfl; obtain ⟨c1_0, c1_1, c1_2⟩ := HS.out.c3 1 _ _ _ _ _ rfl; obtain ⟨c2_0, c2_1, c2_2, c2_3, c2_4, c2_5⟩ := HS.out.c6 2 _ _ _ _ _ _ _ _ rfl) | ((with_reducible refine gate_store (p := 2) rfl ?_); refine Sl.storeAll_st HS.out 1 gF 80 _ rfl [.int .i64 10, .int .i64 5, .int .i64 k] rfl (by rfl) (by rfl) ?hr ?_; (case hr => have f_ := HS.out.f3 1 _ _ _ _ _ rfl; (try obtain ⟨f0, f1, f2⟩ := f_); first | (go_simp; done) | (go_simp; rfl)); intro w71_ HSn; replace HS : Hid (St (SL.blk g7 125 #[.int .i64 v.f0, .int .i64 v.f1, .int .i64 v.f2] :: SL.blk gF 80 #[.int .i64 10, .int .i64 5, .int .i64 k] :: SL.blk gM 28 #[.int .u64 ep, .int .i64 fi, .slice A2 ps.length c2, .slice A3 ss.length c3, .slice A4 qs.length c4, .slice (some ad) av.length c5] :: []) w w71_) := Go.Lib.hid HSn; clear HSn; clear c0_0 c0_1 c0_2 c1_0 c1_1 c1_2 c2_0 c2_1 c2_2 c2_3 c2_4 c2_5; obtain ⟨c0_0, c0_1, c0_2⟩ := HS.out.c3 0 _ _ _ _ _ rfl; obtain ⟨c1_0, c1_1, c1_2⟩ := HS.out.c3 1 _ _ _ _ _ rfl; obtain ⟨c2_0, c2_1, c2_2, c2_3, c2_4, c2_5⟩ := HS.out.c6 2 _ _ _ _ _ _ _ _ rfl))
         (try simp only [Exit.inBlock, Exit.then, Sl.sealed]); refine hret.out _ _ (.agg #[.int .i64 10, .int .i64 5, .int .i64 k]) ?hr ?hd ?hR; (case hr => exact results_cell_row (by rfl) _ _ gF 80 _ (0, 0) _ (by rfl) (HS.out.heap 1 _ _ _ rfl) Try.underlying80 rfl infoF); (case hd => rfl); (case hR => exact ⟨_, _, _, rfl, fun h => by omega, HS.out.below⟩)
        ·have H2 : Hid (v.f1 ∈ ps.map S84.f0) := Go.Lib.hid (by have := HBB.out; simpa using this)
         go_upto_region 17 with (fail)
         go_cut [74] from 39 to 91 (fun c wy => ∃ b : Bool, c = .bool b ∧ (b = false → v.f2 = 1 ∨ v.f2 = 2) ∧ St [SL.blk g7 125 #[.int .i64 v.f0, .int .i64 v.f1, .int .i64 v.f2], SL.blk gF 80 #[.int .i64 0, .int .i64 0, .int .i64 0], SL.blk gM 28 #[.int .u64 ep, .int .i64 fi, .slice A2 ps.length c2, .slice A3 ss.length c3, .slice A4 qs.length c4, .slice (some ad) av.length c5]] w wy)
         case first =>
          by_cases hf1 : v.f2 = 1
          ·have e1 : (v.f2 != 1) = false := by rw [bne_eq_false_iff_eq]; exact hf1
           have HF1 := Go.Lib.hid hf1
           clear hf1
           go_wp2_with fail
           go_meet
           exact ⟨_, rfl, fun _ => .inl HF1.out, HS.out⟩
          ·have e1 : (v.f2 != 1) = true := by rw [bne_iff_ne]; exact hf1
           by_cases hf2 : v.f2 = 2
           ·have e2 : (v.f2 != 2) = false := by rw [bne_eq_false_iff_eq]; exact hf2
            have HF2 := Go.Lib.hid hf2
            clear hf1 hf2
            go_wp2_with fail
            go_meet
            exact ⟨_, rfl, fun _ => .inr HF2.out, HS.out⟩
           ·have e2 : (v.f2 != 2) = true := by rw [bne_iff_ne]; exact hf2
            clear hf1 hf2
            go_wp2_with fail
            go_meet
            exact ⟨_, rfl, (fun h => by cases h), HS.out⟩
         case rest =>
          clear HS c0_0 c0_1 c0_2 c1_0 c1_1 c1_2 c2_0 c2_1 c2_2 c2_3 c2_4 c2_5
          obtain ⟨b, rfl, hb, hS⟩ := hcut
          have HS := Go.Lib.hid hS
          have HB := Go.Lib.hid hb
          clear hS hb
          obtain ⟨c0_0, c0_1, c0_2⟩ := HS.out.c3 0 _ _ _ _ _ rfl
          obtain ⟨c1_0, c1_1, c1_2⟩ := HS.out.c3 1 _ _ _ _ _ rfl
          obtain ⟨c2_0, c2_1, c2_2, c2_3, c2_4, c2_5⟩ := HS.out.c6 2 _ _ _ _ _ _ _ _ rfl
          cases b
          ·have H3 : Hid (v.f2 = 1 ∨ v.f2 = 2) := Go.Lib.hid (HB.out (by first | trivial | rfl))
           by_cases hk0 : 0 < k
           ·have dk : decide (0 < (k : Int)) = true := by simpa using hk0
            obtain ⟨_, q, h0, h1, h2⟩ := at_T125 HR5.out ((k : Int) - 1) (by omega) (by omega)
            injection q with q
            subst q
            rw [show ((k : Int) - 1).toNat = k - 1 by omega] at h0 h1 h2
            unfold rd_T125 at h0 h1 h2
            rw [show ((k : Int) - 1).toNat = k - 1 by omega] at h0 h1 h2
            obtain ⟨p, hp⟩ : ∃ p, p = av.getD (k - 1) z125 := ⟨_, rfl⟩
            rw [← hp] at h0 h1 h2
            have HG0 := Go.Lib.hid h0
            have HG1 := Go.Lib.hid h1
            have HG2 := Go.Lib.hid h2
            have HPP := Go.Lib.hid hp
            have HK0 := Go.Lib.hid hk0
            have b0 : 0 ≤ (k : Int) - 1 := by omega
            have b1 : (k : Int) - 1 < av.length := by omega
            have dkN : decide (0 < k) = true := by simpa using hk0
            have b2_ : (1 : Int) ≤ k := by omega
            have e2_ : ((k : Int) - 1).toNat = k - 1 := by omega
            have e0_ : IntKind.i64.wrap ((k : Int) - 1) = (k : Int) - 1 := IntWalk.i64_in _ (by omega)
            have e1_ : wrap64 ((k : Int) - 1) = (k : Int) - 1 := by unfold wrap64; omega
            clear h0 h1 h2 hp hk0
            obtain ⟨bl, hbl⟩ : ∃ bl, bl = decide (p.f0 < v.f0 ∨ p.f0 = v.f0 ∧ p.f1 < v.f1) := ⟨_, rfl⟩
            have HBL : Hid (countwheelref11_Less.f p.f0 p.f1 p.f2 v.f0 v.f1 v.f2 = some bl) := Go.Lib.hid (by rw [less11, hbl])
            have HBQ := Go.Lib.hid hbl
            clear hbl
            go_upto_region 19 with (fail)
            clear c0_0 c0_1 c0_2 c1_0 c1_1 c1_2 c2_0 c2_1 c2_2 c2_3 c2_4 c2_5
            replace HS := Go.Lib.hid HS.out.drew
            refine start_ (n := 13) (S := fun w' => (w'.cell? ⟨g7, 0, none⟩ = some (.int .i64 v.f0) ∧ w'.cell? ⟨g7, 1, none⟩ = some (.int .i64 v.f1) ∧ w'.cell? ⟨g7, 2, none⟩ = some (.int .i64 v.f2)) ∧ (w'.cell? ⟨gM, 0, none⟩ = some (.int .u64 ep) ∧ w'.cell? ⟨gM, 1, none⟩ = some (.int .i64 fi) ∧ w'.cell? ⟨gM, 2, none⟩ = some (.slice A2 ps.length c2) ∧ w'.cell? ⟨gM, 3, none⟩ = some (.slice A3 ss.length c3) ∧ w'.cell? ⟨gM, 4, none⟩ = some (.slice A4 qs.length c4) ∧ w'.cell? ⟨gM, 5, none⟩ = some (.slice (some ad) av.length c5)) ∧ (w'.cell? (ad.add ((k - 1) * 3)) = some (.int .i64 p.f0) ∧ w'.cell? ⟨(ad.add ((k - 1) * 3)).block, (ad.add ((k - 1) * 3)).off + 1, none⟩ = some (.int .i64 p.f1) ∧ w'.cell? ⟨(ad.add ((k - 1) * 3)).block, (ad.add ((k - 1) * 3)).off + 2, none⟩ = some (.int .i64 p.f2))) (ds := []) #[false, false, false, false, false, false, false, false, false, false, false, false, false] (by kernel_rfl) rfl rfl ⟨HS.out.c3 0 _ _ _ _ _ rfl, (HS.out.c6 2 _ _ _ _ _ _ _ _ rfl), HS.out.old HG0.out, HS.out.old HG1.out, HS.out.old HG2.out⟩ (fun hHeld => ?_)
            generalize wc.drew = W_ at *
            refine pure_ (i := 0) (N := some 77) (v := ?_) (a' := ?_) #[true, false, false, false, false, false, false, false, false, false, false, false, false] rfl rfl (by kernel_rfl) (fun _ _ _ h => h) (Or.inl ⟨by rfl, ?_⟩) ?_ ?_
            rotate_left
            ·intro w'
             go_simp
             with_reducible rfl
            rotate_left
            ·simp only [Act.put, List.setIfInBounds_toArray, List.set_cons_zero, List.set_cons_succ, i64_w, i32_w]
             rfl
            refine pure_ (i := 1) (N := some 78) (v := ?_) (a' := ?_) #[true, true, false, false, false, false, false, false, false, false, false, false, false] rfl rfl (by kernel_rfl) (fun _ _ _ h => h) (Or.inl ⟨by rfl, ?_⟩) ?_ ?_
            rotate_left
            ·intro w'
             go_simp
             with_reducible rfl
            rotate_left
            ·simp only [Act.put, List.setIfInBounds_toArray, List.set_cons_zero, List.set_cons_succ, i64_w, i32_w]
             rfl
            refine pure_ (i := 2) (N := some 79) (v := ?_) (a' := ?_) #[true, true, true, false, false, false, false, false, false, false, false, false, false] rfl rfl (by kernel_rfl) (fun _ _ _ h => h) (Or.inl ⟨by rfl, ?_⟩) ?_ ?_
            rotate_left
            ·intro w'
             go_simp
             with_reducible rfl
            rotate_left
            ·simp only [Act.put, List.setIfInBounds_toArray, List.set_cons_zero, List.set_cons_succ, i64_w, i32_w]
             rfl
            refine pure_ (i := 3) (N := some 80) (v := ?_) (a' := ?_) #[true, true, true, true, false, false, false, false, false, false, false, false, false] rfl rfl (by kernel_rfl) (fun _ _ _ h => h) (Or.inl ⟨by rfl, ?_⟩) ?_ ?_
            rotate_left
            ·intro w'
             go_simp
             with_reducible rfl
            rotate_left
            ·simp only [Act.put, List.setIfInBounds_toArray, List.set_cons_zero, List.set_cons_succ, i64_w, i32_w]
             rfl
            refine pure_ (i := 5) (N := some 82) (v := ?_) (a' := ?_) #[true, true, true, true, false, true, false, false, false, false, false, false, false] rfl rfl (by kernel_rfl) (fun _ _ _ h => h) (Or.inl ⟨by rfl, ?_⟩) ?_ ?_
            rotate_left
            ·intro w'
             go_simp
             with_reducible rfl
            rotate_left
            ·simp only [Act.put, List.setIfInBounds_toArray, List.set_cons_zero, List.set_cons_succ, i64_w, i32_w]
             rfl
            refine pure_ (i := 6) (N := some 83) (v := ?_) (a' := ?_) #[true, true, true, true, false, true, true, false, false, false, false, false, false] rfl rfl (by kernel_rfl) (fun _ _ _ h => h) (Or.inl ⟨by rfl, ?_⟩) ?_ ?_
            rotate_left
            ·intro w'
             go_simp
             with_reducible rfl
            rotate_left
            ·simp only [Act.put, List.setIfInBounds_toArray, List.set_cons_zero, List.set_cons_succ, i64_w, i32_w]
             rfl
            refine take_ (i := 4) (N := some 81) (v := ?_) (a' := ?_) #[true, true, true, true, true, true, true, false, false, false, false, false, false] rfl rfl (by kernel_rfl) (fun _ _ _ h => h) (Or.inl ⟨by rfl, ?_⟩) hHeld ?_ ?_
            rotate_left
            ·rintro w' ⟨⟨s0, s1, s2⟩, ⟨s3, s4, s5, s6, s7, s8⟩, s9, s10, s11⟩
             go_simp
             with_reducible rfl
            rotate_left
            ·simp only [Act.put, List.setIfInBounds_toArray, List.set_cons_zero, List.set_cons_succ, i64_w, i32_w]
             rfl
            refine pure_ (i := 7) (N := some 84) (v := ?_) (a' := ?_) #[true, true, true, true, true, true, true, true, false, false, false, false, false] rfl rfl (by kernel_rfl) (fun _ _ _ h => h) (Or.inl ⟨by rfl, ?_⟩) ?_ ?_
            rotate_left
            ·intro w'
             go_simp
             with_reducible rfl
            rotate_left
            ·simp only [Act.put, List.setIfInBounds_toArray, List.set_cons_zero, List.set_cons_succ, i64_w, i32_w]
             rfl
            refine take_ (i := 8) (N := some 85) (v := ?_) (a' := ?_) #[true, true, true, true, true, true, true, true, true, false, false, false, false] rfl rfl (by kernel_rfl) (fun _ _ _ h => h) (Or.inl ⟨by rfl, ?_⟩) hHeld ?_ ?_
            rotate_left
            ·rintro w' ⟨⟨s0, s1, s2⟩, ⟨s3, s4, s5, s6, s7, s8⟩, s9, s10, s11⟩
             go_simp
             with_reducible rfl
            rotate_left
            ·simp only [Act.put, List.setIfInBounds_toArray, List.set_cons_zero, List.set_cons_succ, i64_w, i32_w]
             rfl
            refine take_ (i := 9) (N := some 86) (v := ?_) (a' := ?_) #[true, true, true, true, true, true, true, true, true, true, false, false, false] rfl rfl (by kernel_rfl) (fun _ _ _ h => h) (Or.inl ⟨by rfl, ?_⟩) hHeld ?_ ?_
            rotate_left
            ·rintro w' ⟨⟨s0, s1, s2⟩, ⟨s3, s4, s5, s6, s7, s8⟩, s9, s10, s11⟩
             go_simp
             with_reducible rfl
            rotate_left
            ·simp only [Act.put, List.setIfInBounds_toArray, List.set_cons_zero, List.set_cons_succ, i64_w, i32_w]
             rfl
            refine one_ (i := 10) (N := some 87) #[true, true, true, true, true, true, true, true, true, true, true, false, false] rfl rfl (by kernel_rfl) (by decide) (fun K hK => ?_)
            refine goes_ Try.func81 (by kernel_rfl) rfl #[.agg #[.int .i64 p.f0, .int .i64 p.f1, .int .i64 p.f2], .agg #[.int .i64 v.f0, .int .i64 v.f1, .int .i64 v.f2]] (by rfl) rfl rfl (by (try simp only [List.map_toArray, List.map_cons, List.map_nil]); first | done | rfl) ?_
            refine (countwheelref11_Less.calls p.f0 p.f1 p.f2 v.f0 v.f1 v.f2 bl _ HBL.out).mono ?_
            rintro e w96 ⟨rfl, hB6⟩
            have HSm := HS.out.then_ hB6
            refine ⟨_, rfl, ?_⟩
            refine hK.out _ _ ⟨HSm.c3 0 _ _ _ _ _ rfl, (HSm.c6 2 _ _ _ _ _ _ _ _ rfl), HSm.old HG0.out, HSm.old HG1.out, HSm.old HG2.out⟩ (fun hHeld => ?_)
            clear hK K
            refine norm_ (a' := ?_) ?_ ?_
            rotate_left
            ·show Act.put _ (some 87) _ = _
             simp only [Act.put, List.setIfInBounds_toArray, List.set_cons_zero, List.set_cons_succ, i64_w, i32_w]
             rfl
            refine pure_ (i := 11) (N := some 88) (v := ?_) (a' := ?_) #[true, true, true, true, true, true, true, true, true, true, true, true, false] rfl rfl (by kernel_rfl) (fun _ _ _ h => h) (Or.inl ⟨by rfl, ?_⟩) ?_ ?_
            rotate_left
            ·intro w'
             go_simp
             with_reducible rfl
            rotate_left
            ·simp only [Act.put, List.setIfInBounds_toArray, List.set_cons_zero, List.set_cons_succ, i64_w, i32_w]
             rfl
            refine pure_ (i := 12) (N := some 89) (v := ?_) (a' := ?_) #[true, true, true, true, true, true, true, true, true, true, true, true, true] rfl rfl (by kernel_rfl) (fun _ _ _ h => h) (Or.inl ⟨by rfl, ?_⟩) ?_ ?_
            rotate_left
            ·intro w'
             go_simp
             with_reducible rfl
            rotate_left
            ·simp only [Act.put, List.setIfInBounds_toArray, List.set_cons_zero, List.set_cons_succ, i64_w, i32_w]
             rfl
            refine done_ (by kernel_rfl) ?_
            replace HS := Go.Lib.hid HSm
            clear HSm e0_ e1_ e2_ dkN
            obtain ⟨c0_0, c0_1, c0_2⟩ := HS.out.c3 0 _ _ _ _ _ rfl
            obtain ⟨c1_0, c1_1, c1_2⟩ := HS.out.c3 1 _ _ _ _ _ rfl
            obtain ⟨c2_0, c2_1, c2_2, c2_3, c2_4, c2_5⟩ := HS.out.c6 2 _ _ _ _ _ _ _ _ rfl
            cases bl
            ·clear c0_0 c0_1 c0_2 c1_0 c1_1 c1_2 c2_0 c2_1 c2_2 c2_3 c2_4 c2_5
             obtain ⟨c0_0, c0_1, c0_2⟩ := HS.out.c3 0 _ _ _ _ _ rfl
             obtain ⟨c1_0, c1_1, c1_2⟩ := HS.out.c3 1 _ _ _ _ _ rfl
             obtain ⟨c2_0, c2_1, c2_2, c2_3, c2_4, c2_5⟩ := HS.out.c6 2 _ _ _ _ _ _ _ _ rfl
             go_wp2_with (first | (go_at_call 77; refine (countwheelref16_bad.calls (9 : Int) (5 : Int) (k : Int) (9 : Int) (5 : Int) (k : Int) _ rfl).mono ?_; rintro e w71_ ⟨rfl, hB⟩; replace HS := Go.Lib.hid (HS.out.then_ hB); clear hB; clear c0_0 c0_1 c0_2 c1_0 c1_1 c1_2 c2_0 c2_1 c2_2 c2_3 c2_4 c2_5; obtain ⟨c0_0, c0_1, c0_2⟩ := HS.out.c3 0 _ _ _ _ _ rfl; obtain ⟨c1_0, c1_1, c1_2⟩ := HS.out.c3 1 _ _ _ _ _ rfl; obtain ⟨c2_0, c2_1, c2_2, c2_3, c2_4, c2_5⟩ := HS.out.c6 2 _ _ _ _ _ _ _ _ rfl) | ((with_reducible refine gate_store (p := 2) rfl ?_); refine Sl.storeAll_st HS.out 1 gF 80 _ rfl [.int .i64 9, .int .i64 5, .int .i64 k] rfl (by rfl) (by rfl) ?hr ?_; (case hr => have f_ := HS.out.f3 1 _ _ _ _ _ rfl; (try obtain ⟨f0, f1, f2⟩ := f_); first | (go_simp; done) | (go_simp; rfl)); intro w71_ HSn; replace HS : Hid (St (SL.blk g7 125 #[.int .i64 v.f0, .int .i64 v.f1, .int .i64 v.f2] :: SL.blk gF 80 #[.int .i64 9, .int .i64 5, .int .i64 k] :: SL.blk gM 28 #[.int .u64 ep, .int .i64 fi, .slice A2 ps.length c2, .slice A3 ss.length c3, .slice A4 qs.length c4, .slice (some ad) av.length c5] :: []) w w71_) := Go.Lib.hid HSn; clear HSn; clear c0_0 c0_1 c0_2 c1_0 c1_1 c1_2 c2_0 c2_1 c2_2 c2_3 c2_4 c2_5; obtain ⟨c0_0, c0_1, c0_2⟩ := HS.out.c3 0 _ _ _ _ _ rfl; obtain ⟨c1_0, c1_1, c1_2⟩ := HS.out.c3 1 _ _ _ _ _ rfl; obtain ⟨c2_0, c2_1, c2_2, c2_3, c2_4, c2_5⟩ := HS.out.c6 2 _ _ _ _ _ _ _ _ rfl))
             (try simp only [Exit.inBlock, Exit.then, Sl.sealed]); refine hret.out _ _ (.agg #[.int .i64 9, .int .i64 5, .int .i64 k]) ?hr ?hd ?hR; (case hr => exact results_cell_row (by rfl) _ _ gF 80 _ (0, 0) _ (by rfl) (HS.out.heap 1 _ _ _ rfl) Try.underlying80 rfl infoF); (case hd => rfl); (case hR => exact ⟨_, _, _, rfl, fun h => by omega, HS.out.below⟩)
            ·go_wp2_with fail
             (try simp only [Exit.inBlock, Exit.then, Sl.sealed]); refine hnorm.out _ _ ?_; go_roundw
             case rel => exact ⟨k + 1, hlt, rfl, arise_step HAR.out (by have h1 := HVE.out; unfold rd_T125 at h1; rw [Int.toNat_natCast] at h1; rw [← h1]; exact ⟨H1.out, H2.out, H3.out⟩) (fun _ => by have h1 := HVE.out; unfold rd_T125 at h1; rw [Int.toNat_natCast] at h1; rw [← h1, ← HPP.out]; have := HBQ.out; simpa using this), HS.out.drop⟩
             case measure => simp [intOf]; omega
           ·have dk : decide (0 < (k : Int)) = false := by simpa using hk0
            go_upto_region 19 with (fail)
            go_quiet (fail)
            go_wp2_with fail
            (try simp only [Exit.inBlock, Exit.then, Sl.sealed]); refine hnorm.out _ _ ?_; go_roundw
            case rel => exact ⟨k + 1, hlt, rfl, arise_step HAR.out (by have h1 := HVE.out; unfold rd_T125 at h1; rw [Int.toNat_natCast] at h1; rw [← h1]; exact ⟨H1.out, H2.out, H3.out⟩) (fun h => absurd h hk0), (HS.out.drewN _).drop⟩
            case measure => simp [intOf]; omega
          ·clear c0_0 c0_1 c0_2 c1_0 c1_1 c1_2 c2_0 c2_1 c2_2 c2_3 c2_4 c2_5
           obtain ⟨c0_0, c0_1, c0_2⟩ := HS.out.c3 0 _ _ _ _ _ rfl
           obtain ⟨c1_0, c1_1, c1_2⟩ := HS.out.c3 1 _ _ _ _ _ rfl
           obtain ⟨c2_0, c2_1, c2_2, c2_3, c2_4, c2_5⟩ := HS.out.c6 2 _ _ _ _ _ _ _ _ rfl
           go_wp2_with (first | (go_at_call 77; refine (countwheelref16_bad.calls (6 : Int) (5 : Int) (k : Int) (6 : Int) (5 : Int) (k : Int) _ rfl).mono ?_; rintro e w71_ ⟨rfl, hB⟩; replace HS := Go.Lib.hid (HS.out.then_ hB); clear hB; clear c0_0 c0_1 c0_2 c1_0 c1_1 c1_2 c2_0 c2_1 c2_2 c2_3 c2_4 c2_5; obtain ⟨c0_0, c0_1, c0_2⟩ := HS.out.c3 0 _ _ _ _ _ rfl; obtain ⟨c1_0, c1_1, c1_2⟩ := HS.out.c3 1 _ _ _ _ _ rfl; obtain ⟨c2_0, c2_1, c2_2, c2_3, c2_4, c2_5⟩ := HS.out.c6 2 _ _ _ _ _ _ _ _ rfl) | ((with_reducible refine gate_store (p := 2) rfl ?_); refine Sl.storeAll_st HS.out 1 gF 80 _ rfl [.int .i64 6, .int .i64 5, .int .i64 k] rfl (by rfl) (by rfl) ?hr ?_; (case hr => have f_ := HS.out.f3 1 _ _ _ _ _ rfl; (try obtain ⟨f0, f1, f2⟩ := f_); first | (go_simp; done) | (go_simp; rfl)); intro w71_ HSn; replace HS : Hid (St (SL.blk g7 125 #[.int .i64 v.f0, .int .i64 v.f1, .int .i64 v.f2] :: SL.blk gF 80 #[.int .i64 6, .int .i64 5, .int .i64 k] :: SL.blk gM 28 #[.int .u64 ep, .int .i64 fi, .slice A2 ps.length c2, .slice A3 ss.length c3, .slice A4 qs.length c4, .slice (some ad) av.length c5] :: []) w w71_) := Go.Lib.hid HSn; clear HSn; clear c0_0 c0_1 c0_2 c1_0 c1_1 c1_2 c2_0 c2_1 c2_2 c2_3 c2_4 c2_5; obtain ⟨c0_0, c0_1, c0_2⟩ := HS.out.c3 0 _ _ _ _ _ rfl; obtain ⟨c1_0, c1_1, c1_2⟩ := HS.out.c3 1 _ _ _ _ _ rfl; obtain ⟨c2_0, c2_1, c2_2, c2_3, c2_4, c2_5⟩ := HS.out.c6 2 _ _ _ _ _ _ _ _ rfl))
           (try simp only [Exit.inBlock, Exit.then, Sl.sealed]); refine hret.out _ _ (.agg #[.int .i64 6, .int .i64 5, .int .i64 k]) ?hr ?hd ?hR; (case hr => exact results_cell_row (by rfl) _ _ gF 80 _ (0, 0) _ (by rfl) (HS.out.heap 1 _ _ _ rfl) Try.underlying80 rfl infoF); (case hd => rfl); (case hR => exact ⟨_, _, _, rfl, fun h => by omega, HS.out.below⟩)
       ·have HB1 : Hid (countwheelref15_In.f KI (ss.map S46.f0) v.f0 = some false) := Go.Lib.hid (by rw [in_is _ _ HIL.out KI HKI.out]; simpa using h1)
        clear h1
        refine start_ (n := 14) (S := fun w' => (w'.cell? ⟨g7, 0, none⟩ = some (.int .i64 v.f0) ∧ w'.cell? ⟨g7, 1, none⟩ = some (.int .i64 v.f1) ∧ w'.cell? ⟨g7, 2, none⟩ = some (.int .i64 v.f2)) ∧ (w'.cell? ⟨gM, 0, none⟩ = some (.int .u64 ep) ∧ w'.cell? ⟨gM, 1, none⟩ = some (.int .i64 fi) ∧ w'.cell? ⟨gM, 2, none⟩ = some (.slice A2 ps.length c2) ∧ w'.cell? ⟨gM, 3, none⟩ = some (.slice A3 ss.length c3) ∧ w'.cell? ⟨gM, 4, none⟩ = some (.slice A4 qs.length c4) ∧ w'.cell? ⟨gM, 5, none⟩ = some (.slice (some ad) av.length c5))) (ds := []) #[false, false, false, false, false, false, false, false, false, false, false, false, false, false] (by kernel_rfl) rfl rfl ⟨HS.out.c3 0 _ _ _ _ _ rfl, (HS.out.c6 2 _ _ _ _ _ _ _ _ rfl)⟩ (fun hHeld => ?_)
        generalize w22_.drew = W_ at *
        refine pure_ (i := 2) (N := some 53) (v := ?_) (a' := ?_) #[false, false, true, false, false, false, false, false, false, false, false, false, false, false] rfl rfl (by kernel_rfl) (fun _ _ _ h => h) (Or.inl ⟨by rfl, ?_⟩) ?_ ?_
        rotate_left
        ·intro w'
         go_simp
         with_reducible rfl
        rotate_left
        ·simp only [Act.put, List.setIfInBounds_toArray, List.set_cons_zero, List.set_cons_succ, i64_w, i32_w]
         rfl
        refine take_ (i := 0) (N := some 51) (v := ?_) (a' := ?_) #[true, false, true, false, false, false, false, false, false, false, false, false, false, false] rfl rfl (by kernel_rfl) (fun _ _ _ h => h) (Or.inl ⟨by rfl, ?_⟩) hHeld ?_ ?_
        rotate_left
        ·rintro w' ⟨⟨s0, s1, s2⟩, s3, s4, s5, s6, s7, s8⟩
         go_simp
         with_reducible rfl
        rotate_left
        ·simp only [Act.put, List.setIfInBounds_toArray, List.set_cons_zero, List.set_cons_succ, i64_w, i32_w]
         rfl
        refine take_ (i := 3) (N := some 54) (v := ?_) (a' := ?_) #[true, false, true, true, false, false, false, false, false, false, false, false, false, false] rfl rfl (by kernel_rfl) (fun _ _ _ h => h) (Or.inl ⟨by rfl, ?_⟩) hHeld ?_ ?_
        rotate_left
        ·rintro w' ⟨⟨s0, s1, s2⟩, s3, s4, s5, s6, s7, s8⟩
         go_simp
         with_reducible rfl
        rotate_left
        ·simp only [Act.put, List.setIfInBounds_toArray, List.set_cons_zero, List.set_cons_succ, i64_w, i32_w]
         rfl
        refine one_ (i := 1) (N := some 52) #[true, true, true, true, false, false, false, false, false, false, false, false, false, false] rfl rfl (by kernel_rfl) (by decide) (fun K hK => ?_)
        refine goes_ Try.func36 (by kernel_rfl) rfl #[.agg #[.int .u64 ep, .int .i64 fi, .slice A2 ps.length c2, .slice A3 ss.length c3, .slice A4 qs.length c4, .slice (some ad) av.length c5]] (by rfl) rfl rfl (by (try simp only [List.map_toArray, List.map_cons, List.map_nil]); first | done | rfl) ?_
        refine (countwheelref16_Scheds.calls KS ep fi A2 c2 ps A3 c3 ss A4 c4 qs (some ad) c5 av (ss.map S46.f0) _ (HS.out.C HR2.out) hc2 (HS.out.C HR3.out) hc3 (HS.out.C HR4.out) hc4 (HS.out.C HR5.out) hc5 HSC.out).mono ?_
        rintro e w92 ⟨v6, rfl, hR6, hB6⟩
        have HSn := HS.out.row hR6 hB6
        obtain ⟨A6, c6, hv6, hcc6, hC6⟩ := HSn.rowC 0 rfl
        subst hv6
        have HC6 := Go.Lib.hid hC6
        clear hC6 hR6 hB6
        refine ⟨_, rfl, ?_⟩
        refine hK.out _ _ ⟨HSn.c3 1 _ _ _ _ _ rfl, (HSn.c6 3 _ _ _ _ _ _ _ _ rfl)⟩ (fun hHeld => ?_)
        clear hK K
        refine norm_ (a' := ?_) ?_ ?_
        rotate_left
        ·show Act.put _ (some 52) _ = _
         simp only [Act.put, List.setIfInBounds_toArray, List.set_cons_zero, List.set_cons_succ, i64_w, i32_w]
         rfl
        refine one_ (i := 4) (N := some 55) #[true, true, true, true, true, false, false, false, false, false, false, false, false, false] rfl rfl (by kernel_rfl) (by decide) (fun K hK => ?_)
        refine goes_ Try.func50 (by kernel_rfl) rfl #[.slice A6 (ss.map S46.f0).length c6, .int .i64 v.f0] (by rfl) rfl rfl (by (try simp only [List.map_toArray, List.map_cons, List.map_nil]); first | done | rfl) ?_
        refine (countwheelref15_In.calls KI A6 c6 (ss.map S46.f0) v.f0 false _ HC6.out hcc6 HB1.out).mono ?_
        rintro e w93 ⟨rfl, hD6⟩
        have HSm := HSn.drawn hD6
        refine ⟨_, rfl, ?_⟩
        refine hK.out _ _ ⟨HSm.c3 1 _ _ _ _ _ rfl, (HSm.c6 3 _ _ _ _ _ _ _ _ rfl)⟩ (fun hHeld => ?_)
        clear hK K
        refine norm_ (a' := ?_) ?_ ?_
        rotate_left
        ·show Act.put _ (some 55) _ = _
         simp only [Act.put, List.setIfInBounds_toArray, List.set_cons_zero, List.set_cons_succ, i64_w, i32_w]
         rfl
        refine pure_ (i := 5) (N := some 56) (v := ?_) (a' := ?_) #[true, true, true, true, true, true, false, false, false, false, false, false, false, false] rfl rfl (by kernel_rfl) (fun _ _ _ h => h) (Or.inl ⟨by rfl, ?_⟩) ?_ ?_
        rotate_left
        ·intro w'
         go_simp
         with_reducible rfl
        rotate_left
        ·simp only [Act.put, List.setIfInBounds_toArray, List.set_cons_zero, List.set_cons_succ, i64_w, i32_w]
         rfl
        refine pure_ (i := 6) (N := some 57) (v := ?_) (a' := ?_) #[true, true, true, true, true, true, true, false, false, false, false, false, false, false] rfl rfl (by kernel_rfl) (fun _ _ _ h => h) (Or.inl ⟨by rfl, ?_⟩) ?_ ?_
        rotate_left
        ·intro w'
         go_simp
         with_reducible rfl
        rotate_left
        ·simp only [Act.put, List.setIfInBounds_toArray, List.set_cons_zero, List.set_cons_succ, i64_w, i32_w]
         rfl
        refine pure_ (i := 7) (N := some 58) (v := undef) (a' := ?_) #[true, true, true, true, true, true, true, true, false, false, false, false, false, false] rfl rfl (by kernel_rfl) (fun _ _ _ h => h) (Or.inr ⟨by rfl, rfl⟩) ?_ ?_
        rotate_left
        ·show _ = _
         simp only [Act.put, List.setIfInBounds_toArray, List.set_cons_zero, List.set_cons_succ, i64_w, i32_w]
         rfl
        refine pure_ (i := 8) (N := some 59) (v := undef) (a' := ?_) #[true, true, true, true, true, true, true, true, true, false, false, false, false, false] rfl rfl (by kernel_rfl) (fun _ _ _ h => h) (Or.inr ⟨by rfl, rfl⟩) ?_ ?_
        rotate_left
        ·show _ = _
         simp only [Act.put, List.setIfInBounds_toArray, List.set_cons_zero, List.set_cons_succ, i64_w, i32_w]
         rfl
        refine pure_ (i := 9) (N := some 60) (v := undef) (a' := ?_) #[true, true, true, true, true, true, true, true, true, true, false, false, false, false] rfl rfl (by kernel_rfl) (fun _ _ _ h => h) (Or.inr ⟨by rfl, rfl⟩) ?_ ?_
        rotate_left
        ·show _ = _
         simp only [Act.put, List.setIfInBounds_toArray, List.set_cons_zero, List.set_cons_succ, i64_w, i32_w]
         rfl
        refine pure_ (i := 10) (N := some 61) (v := undef) (a' := ?_) #[true, true, true, true, true, true, true, true, true, true, true, false, false, false] rfl rfl (by kernel_rfl) (fun _ _ _ h => h) (Or.inr ⟨by rfl, rfl⟩) ?_ ?_
        rotate_left
        ·show _ = _
         simp only [Act.put, List.setIfInBounds_toArray, List.set_cons_zero, List.set_cons_succ, i64_w, i32_w]
         rfl
        refine pure_ (i := 11) (N := some 62) (v := undef) (a' := ?_) #[true, true, true, true, true, true, true, true, true, true, true, true, false, false] rfl rfl (by kernel_rfl) (fun _ _ _ h => h) (Or.inr ⟨by rfl, rfl⟩) ?_ ?_
        rotate_left
        ·show _ = _
         simp only [Act.put, List.setIfInBounds_toArray, List.set_cons_zero, List.set_cons_succ, i64_w, i32_w]
         rfl
        refine pure_ (i := 12) (N := some 63) (v := undef) (a' := ?_) #[true, true, true, true, true, true, true, true, true, true, true, true, true, false] rfl rfl (by kernel_rfl) (fun _ _ _ h => h) (Or.inr ⟨by rfl, rfl⟩) ?_ ?_
        rotate_left
        ·show _ = _
         simp only [Act.put, List.setIfInBounds_toArray, List.set_cons_zero, List.set_cons_succ, i64_w, i32_w]
         rfl
        refine pure_ (i := 13) (N := some 64) (v := ?_) (a' := ?_) #[true, true, true, true, true, true, true, true, true, true, true, true, true, true] rfl rfl (by kernel_rfl) (fun _ _ _ h => h) (Or.inl ⟨by rfl, ?_⟩) ?_ ?_
        rotate_left
        ·intro w'
         go_simp
         with_reducible rfl
        rotate_left
        ·simp only [Act.put, List.setIfInBounds_toArray, List.set_cons_zero, List.set_cons_succ, i64_w, i32_w]
         rfl
        refine done_ (by kernel_rfl) ?_
        replace HS := Go.Lib.hid HSm.drop
        clear HSm HSn HC6
        obtain ⟨c0_0, c0_1, c0_2⟩ := HS.out.c3 0 _ _ _ _ _ rfl
        obtain ⟨c1_0, c1_1, c1_2⟩ := HS.out.c3 1 _ _ _ _ _ rfl
        obtain ⟨c2_0, c2_1, c2_2, c2_3, c2_4, c2_5⟩ := HS.out.c6 2 _ _ _ _ _ _ _ _ rfl
        go_wp2_with (first | (go_at_call 77; refine (countwheelref16_bad.calls (10 : Int) (5 : Int) (k : Int) (10 : Int) (5 : Int) (k : Int) _ rfl).mono ?_; rintro e w71_ ⟨rfl, hB⟩; replace HS := Go.Lib.hid (HS.out.then_ hB); clear hB; clear c0_0 c0_1 c0_2 c1_0 c1_1 c1_2 c2_0 c2_1 c2_2 c2_3 c2_4 c2_5; obtain ⟨c0_0, c0_1, c0_2⟩ := HS.out.c3 0 _ _ _ _ _ rfl; obtain ⟨c1_0, c1_1, c1_2⟩ := HS.out.c3 1 _ _ _ _ _ rfl; obtain ⟨c2_0, c2_1, c2_2, c2_3, c2_4, c2_5⟩ := HS.out.c6 2 _ _ _ _ _ _ _ _ rfl) | ((with_reducible refine gate_store (p := 2) rfl ?_); refine Sl.storeAll_st HS.out 1 gF 80 _ rfl [.int .i64 10, .int .i64 5, .int .i64 k] rfl (by rfl) (by rfl) ?hr ?_; (case hr => have f_ := HS.out.f3 1 _ _ _ _ _ rfl; (try obtain ⟨f0, f1, f2⟩ := f_); first | (go_simp; done) | (go_simp; rfl)); intro w71_ HSn; replace HS : Hid (St (SL.blk g7 125 #[.int .i64 v.f0, .int .i64 v.f1, .int .i64 v.f2] :: SL.blk gF 80 #[.int .i64 10, .int .i64 5, .int .i64 k] :: SL.blk gM 28 #[.int .u64 ep, .int .i64 fi, .slice A2 ps.length c2, .slice A3 ss.length c3, .slice A4 qs.length c4, .slice (some ad) av.length c5] :: []) w w71_) := Go.Lib.hid HSn; clear HSn; clear c0_0 c0_1 c0_2 c1_0 c1_1 c1_2 c2_0 c2_1 c2_2 c2_3 c2_4 c2_5; obtain ⟨c0_0, c0_1, c0_2⟩ := HS.out.c3 0 _ _ _ _ _ rfl; obtain ⟨c1_0, c1_1, c1_2⟩ := HS.out.c3 1 _ _ _ _ _ rfl; obtain ⟨c2_0, c2_1, c2_2, c2_3, c2_4, c2_5⟩ := HS.out.c6 2 _ _ _ _ _ _ _ _ rfl))
        (try simp only [Exit.inBlock, Exit.then, Sl.sealed]); refine hret.out _ _ (.agg #[.int .i64 10, .int .i64 5, .int .i64 k]) ?hr ?hd ?hR; (case hr => exact results_cell_row (by rfl) _ _ gF 80 _ (0, 0) _ (by rfl) (HS.out.heap 1 _ _ _ rfl) Try.underlying80 rfl infoF); (case hd => rfl); (case hR => exact ⟨_, _, _, rfl, fun h => by omega, HS.out.below⟩)
      ·obtain rfl : k = av.length := by omega
       clear hk hlt
       go_wp2_with fail
       refine hexit.out _ _ _ ?_
       by_cases h512 : (512 : Int) < av.length
       ·have dm : decide ((512 : Int) < (av.length : Int)) = true := by simpa using h512
        clear h512 c0_0 c0_1 c0_2 c1_0 c1_1 c1_2 c1_3 c1_4 c1_5
        obtain ⟨c0_0, c0_1, c0_2⟩ := HS.out.c3 0 _ _ _ _ _ rfl
        obtain ⟨c1_0, c1_1, c1_2, c1_3, c1_4, c1_5⟩ := HS.out.c6 1 _ _ _ _ _ _ _ _ rfl
        go_wp2_with (first | (go_at_call 77; refine (countwheelref16_bad.calls (8 : Int) (5 : Int) (0 : Int) (8 : Int) (5 : Int) (0 : Int) _ rfl).mono ?_; rintro e w71_ ⟨rfl, hB⟩; replace HS := Go.Lib.hid (HS.out.then_ hB); clear hB; clear c0_0 c0_1 c0_2 c1_0 c1_1 c1_2 c1_3 c1_4 c1_5; obtain ⟨c0_0, c0_1, c0_2⟩ := HS.out.c3 0 _ _ _ _ _ rfl; obtain ⟨c1_0, c1_1, c1_2, c1_3, c1_4, c1_5⟩ := HS.out.c6 1 _ _ _ _ _ _ _ _ rfl) | ((with_reducible refine gate_store (p := 2) rfl ?_); refine Sl.storeAll_st HS.out 0 gF 80 _ rfl [.int .i64 8, .int .i64 5, .int .i64 0] rfl (by rfl) (by rfl) ?hr ?_; (case hr => have f_ := HS.out.f3 0 _ _ _ _ _ rfl; (try obtain ⟨f0, f1, f2⟩ := f_); first | (go_simp; done) | (go_simp; rfl)); intro w71_ HSn; replace HS : Hid (St (SL.blk gF 80 #[.int .i64 8, .int .i64 5, .int .i64 0] :: SL.blk gM 28 #[.int .u64 ep, .int .i64 fi, .slice A2 ps.length c2, .slice A3 ss.length c3, .slice A4 qs.length c4, .slice A5 av.length c5] :: []) w w71_) := Go.Lib.hid HSn; clear HSn; clear c0_0 c0_1 c0_2 c1_0 c1_1 c1_2 c1_3 c1_4 c1_5; obtain ⟨c0_0, c0_1, c0_2⟩ := HS.out.c3 0 _ _ _ _ _ rfl; obtain ⟨c1_0, c1_1, c1_2, c1_3, c1_4, c1_5⟩ := HS.out.c6 1 _ _ _ _ _ _ _ _ rfl))
        (try simp only [Exit.inBlock, Exit.then]); refine bodyPost_ret (v := .agg #[.int .i64 8, .int .i64 5, .int .i64 0]) (results_cell_row (by rfl) _ _ gF 80 _ (0, 0) _ (by rfl) (HS.out.heap 0 _ _ _ rfl) Try.underlying80 rfl infoF) rfl ⟨_, _, _, rfl, fun h => by omega, HS.out.below⟩
       ·have dm : decide ((512 : Int) < (av.length : Int)) = false := by simpa using h512
        clear h512 c0_0 c0_1 c0_2 c1_0 c1_1 c1_2 c1_3 c1_4 c1_5
        obtain ⟨c0_0, c0_1, c0_2⟩ := HS.out.c3 0 _ _ _ _ _ rfl
        obtain ⟨c1_0, c1_1, c1_2, c1_3, c1_4, c1_5⟩ := HS.out.c6 1 _ _ _ _ _ _ _ _ rfl
        go_wp2_with (first | ((with_reducible refine gate_store (p := 2) rfl ?_); refine Sl.storeAll_st HS.out 0 gF 80 _ rfl [.int .i64 0, .int .i64 0, .int .i64 0] rfl (by rfl) (by rfl) ?hr ?_; (case hr => have f_ := HS.out.f3 0 _ _ _ _ _ rfl; (try obtain ⟨f0, f1, f2⟩ := f_); first | (go_simp; done) | (go_simp; rfl)); intro w71_ HSn; replace HS : Hid (St (SL.blk gF 80 #[.int .i64 0, .int .i64 0, .int .i64 0] :: SL.blk gM 28 #[.int .u64 ep, .int .i64 fi, .slice A2 ps.length c2, .slice A3 ss.length c3, .slice A4 qs.length c4, .slice A5 av.length c5] :: []) w w71_) := Go.Lib.hid HSn; clear HSn; clear c0_0 c0_1 c0_2 c1_0 c1_1 c1_2 c1_3 c1_4 c1_5; obtain ⟨c0_0, c0_1, c0_2⟩ := HS.out.c3 0 _ _ _ _ _ rfl; obtain ⟨c1_0, c1_1, c1_2, c1_3, c1_4, c1_5⟩ := HS.out.c6 1 _ _ _ _ _ _ _ _ rfl))
        (try simp only [Exit.inBlock, Exit.then]); refine bodyPost_ret (v := .agg #[.int .i64 0, .int .i64 0, .int .i64 0]) (results_cell_row (by rfl) _ _ gF 80 _ (0, 0) _ (by rfl) (HS.out.heap 0 _ _ _ rfl) Try.underlying80 rfl infoF) rfl ⟨_, _, _, rfl, fun _ => ⟨HFI.out, HTO.out, HQO.out HQ0.out, HAR.out⟩, HS.out.below⟩
   ·have dq : (q2 != 0) = true := by rw [bne_iff_ne]; exact hq0
    have HQ0 := Go.Lib.hid hq0
    clear hq0 c0_0 c0_1 c0_2 c1_0 c1_1 c1_2 c1_3 c1_4 c1_5
    obtain ⟨c0_0, c0_1, c0_2⟩ := HS.out.c3 0 _ _ _ _ _ rfl
    obtain ⟨c1_0, c1_1, c1_2, c1_3, c1_4, c1_5⟩ := HS.out.c6 1 _ _ _ _ _ _ _ _ rfl
    go_wp2_with (first | (go_at_call 77; refine (countwheelref16_bad.calls (q2 : Int) (4 : Int) (q1 : Int) (q2 : Int) (4 : Int) (q1 : Int) _ rfl).mono ?_; rintro e w71_ ⟨rfl, hB⟩; replace HS := Go.Lib.hid (HS.out.then_ hB); clear hB; clear c0_0 c0_1 c0_2 c1_0 c1_1 c1_2 c1_3 c1_4 c1_5; obtain ⟨c0_0, c0_1, c0_2⟩ := HS.out.c3 0 _ _ _ _ _ rfl; obtain ⟨c1_0, c1_1, c1_2, c1_3, c1_4, c1_5⟩ := HS.out.c6 1 _ _ _ _ _ _ _ _ rfl) | ((with_reducible refine gate_store (p := 2) rfl ?_); refine Sl.storeAll_st HS.out 0 gF 80 _ rfl [.int .i64 q2, .int .i64 4, .int .i64 q1] rfl (by rfl) (by rfl) ?hr ?_; (case hr => have f_ := HS.out.f3 0 _ _ _ _ _ rfl; (try obtain ⟨f0, f1, f2⟩ := f_); first | (go_simp; done) | (go_simp; rfl)); intro w71_ HSn; replace HS : Hid (St (SL.blk gF 80 #[.int .i64 q2, .int .i64 4, .int .i64 q1] :: SL.blk gM 28 #[.int .u64 ep, .int .i64 fi, .slice A2 ps.length c2, .slice A3 ss.length c3, .slice A4 qs.length c4, .slice A5 av.length c5] :: []) w w71_) := Go.Lib.hid HSn; clear HSn; clear c0_0 c0_1 c0_2 c1_0 c1_1 c1_2 c1_3 c1_4 c1_5; obtain ⟨c0_0, c0_1, c0_2⟩ := HS.out.c3 0 _ _ _ _ _ rfl; obtain ⟨c1_0, c1_1, c1_2, c1_3, c1_4, c1_5⟩ := HS.out.c6 1 _ _ _ _ _ _ _ _ rfl))
    (try simp only [Exit.inBlock, Exit.then]); refine bodyPost_ret (v := .agg #[.int .i64 q2, .int .i64 4, .int .i64 q1]) (results_cell_row (by rfl) _ _ gF 80 _ (0, 0) _ (by rfl) (HS.out.heap 0 _ _ _ rfl) Try.underlying80 rfl infoF) rfl ⟨_, _, _, rfl, fun h => absurd h HQ0.out, HS.out.below⟩
  ·have d0 : (x != 0) = true := by rw [bne_iff_ne]; exact hx
   have HX := Go.Lib.hid hx
   clear hx c0_0 c0_1 c0_2 c1_0 c1_1 c1_2 c2_0 c2_1 c2_2 c2_3 c2_4 c2_5
   obtain ⟨c0_0, c0_1, c0_2⟩ := HS.out.c3 0 _ _ _ _ _ rfl
   obtain ⟨c1_0, c1_1, c1_2⟩ := HS.out.c3 1 _ _ _ _ _ rfl
   obtain ⟨c2_0, c2_1, c2_2, c2_3, c2_4, c2_5⟩ := HS.out.c6 2 _ _ _ _ _ _ _ _ rfl
   go_wp2_with (first | ((with_reducible refine gate_store (p := 2) rfl ?_); refine Sl.storeAll_st HS.out 1 gF 80 _ rfl [.int .i64 x, .int .i64 y, .int .i64 z] rfl (by rfl) (by rfl) ?hr ?_; (case hr => have f_ := HS.out.f3 1 _ _ _ _ _ rfl; (try obtain ⟨f0, f1, f2⟩ := f_); first | (go_simp; done) | (go_simp; rfl)); intro w71_ HSn; replace HS : Hid (St (SL.blk g3 80 #[.int .i64 x, .int .i64 y, .int .i64 z] :: SL.blk gF 80 #[.int .i64 x, .int .i64 y, .int .i64 z] :: SL.blk gM 28 #[.int .u64 ep, .int .i64 fi, .slice A2 ps.length c2, .slice A3 ss.length c3, .slice A4 qs.length c4, .slice A5 av.length c5] :: []) w w71_) := Go.Lib.hid HSn; clear HSn; clear c0_0 c0_1 c0_2 c1_0 c1_1 c1_2 c2_0 c2_1 c2_2 c2_3 c2_4 c2_5; obtain ⟨c0_0, c0_1, c0_2⟩ := HS.out.c3 0 _ _ _ _ _ rfl; obtain ⟨c1_0, c1_1, c1_2⟩ := HS.out.c3 1 _ _ _ _ _ rfl; obtain ⟨c2_0, c2_1, c2_2, c2_3, c2_4, c2_5⟩ := HS.out.c6 2 _ _ _ _ _ _ _ _ rfl))
   (try simp only [Exit.inBlock, Exit.then]); refine bodyPost_ret (v := .agg #[.int .i64 x, .int .i64 y, .int .i64 z]) (results_cell_row (by rfl) _ _ gF 80 _ (0, 0) _ (by rfl) (HS.out.heap 1 _ _ _ rfl) Try.underlying80 rfl infoF) rfl ⟨_, _, _, rfl, fun h => absurd h HX.out, HS.out.below⟩
end Go.Proofs.Ytnniejaknnpcjaa.Fin
