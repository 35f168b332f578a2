/- Sections 2 and 3 of a module. -/
import Derived.Test.YtnniejaknnpcjaaYFin2a
import Derived.Test.YtnniejaknnpcjaaYSle
import Derived.Deep.QuietTactic
import Derived.BigQuiet
namespace Go.Proofs.Ytnniejaknnpcjaa.Fin
open Go.RowKit Go.Proofs.YtnniejaknnpcjaaW.PrintWords Go.Proofs.YtnniejaknnpcjaaW.PrintLast Go.Proofs.YtnniejaknnpcjaaW.PrintMore Go.Proofs.Ytnniejaknnpcjaa.Mine Go.Proofs.Ytnniejaknnpcjaa.PHyperNumbers
open Go.Proofs.Ytnniejaknnpcjaa.Sl (SL Stp Chg St No)
set_option linter.unusedVariables false
set_option linter.unusedSimpArgs false
attribute [local go_sem] max2_int min2_int max_two min_two max_three min_three max_four min_four
set_option maxHeartbeats 12800000 in
set_option maxRecDepth 100000 in
theorem two_told (w : World) (ep fi : Int) (A2 : Option Addr) (c2 : Nat) (ps : List S84) (A3 : Option Addr) (c3 : Nat) (ss : List S46) (A4 : Option Addr) (c4 : Nat) (qs : List S95) (A5 : Option Addr) (c5 : Nat) (av : List S125) (hr2 : Kd.C k84 w A2 ps.length ps) (hc2 : ps.length ≤ c2) (hr3 : Kd.C k46 w A3 ss.length ss) (hc3 : ss.length ≤ c3) (hr4 : Kd.C k95 w A4 qs.length qs) (hc4 : qs.length ≤ c4) (hr5 : Kd.C k125 w A5 av.length av) (hc5 : av.length ≤ c5) (hl : NotLarge ps ss qs av) (hnm : ∀ p ∈ ps, p.f1.size ≤ 9223372036854775807) :
  Calls Try.prog 78 #[.agg #[.int .u64 ep, .int .i64 fi, .slice A2 ps.length c2, .slice A3 ss.length c3, .slice A4 qs.length c4, .slice A5 av.length c5]] w (Told (TwoOk ps ss) w) := by
 have hps := hl.hps
 have hss := hl.hss
 have HL := Go.Lib.hid hl
 have HNM := Go.Lib.hid hnm
 have HR2 := Go.Lib.hid hr2
 have HR3 := Go.Lib.hid hr3
 have HS := Go.Lib.hid (St.start w)
 have HR4 := Go.Lib.hid hr4
 have HR5 := Go.Lib.hid hr5
 clear hl hnm hr2 hr3 hr4 hr5
 go_enter Try.func78, Try.ntmps78
 go_wp2_with (first | ((with_reducible refine gate_dst (N := 1) rfl ?_); refine Sl.box_st HS.out (by rfl) (cs := #[.int .u64 ep, .int .i64 fi, .slice A2 ps.length c2, .slice A3 ss.length c3, .slice A4 qs.length c4, .slice A5 av.length c5]) (t := 28) ?hr ?_; (case hr => first | (go_simp; done) | (go_simp; rfl)); intro gM w1_ HSn HBn; clear HBn; replace HS : Hid (St (SL.blk gM 28 #[.int .u64 ep, .int .i64 fi, .slice A2 ps.length c2, .slice A3 ss.length c3, .slice A4 qs.length c4, .slice A5 av.length c5] :: []) w w1_) := Go.Lib.hid HSn; clear HSn; obtain ⟨c0_0, c0_1, c0_2, c0_3, c0_4, c0_5⟩ := HS.out.c6 0 _ _ _ _ _ _ _ _ rfl) | ((with_reducible refine gate_dst (N := 2) rfl ?_); refine Sl.box_st HS.out (by rfl) (cs := #[.int .i64 0, .int .i64 0, .int .i64 0]) (t := 80) ?hr ?_; (case hr => first | (go_simp; done) | (go_simp; rfl)); intro gF w2_ HSn HBn; clear HBn; replace HS : Hid (St (SL.blk gF 80 #[.int .i64 0, .int .i64 0, .int .i64 0] :: SL.blk gM 28 #[.int .u64 ep, .int .i64 fi, .slice A2 ps.length c2, .slice A3 ss.length c3, .slice A4 qs.length c4, .slice A5 av.length c5] :: []) w w2_) := Go.Lib.hid HSn; clear HSn; clear c0_0 c0_1 c0_2 c0_3 c0_4 c0_5; obtain ⟨c0_0, c0_1, c0_2⟩ := HS.out.c3 0 _ _ _ _ _ rfl; obtain ⟨c1_0, c1_1, c1_2, c1_3, c1_4, c1_5⟩ := HS.out.c6 1 _ _ _ _ _ _ _ _ rfl))
 clear c0_0 c0_1 c0_2 c1_0 c1_1 c1_2 c1_3 c1_4 c1_5
 go_loopw [3] (fun i wr => ∃ k : Nat, k ≤ ps.length ∧ i = .int .i64 k ∧ PRise ps k ∧ St [SL.blk gF 80 #[.int .i64 0, .int .i64 0, .int .i64 0], SL.blk gM 28 #[.int .u64 ep, .int .i64 fi, .slice A2 ps.length c2, .slice A3 ss.length c3, .slice A4 qs.length c4, .slice A5 av.length c5]] w wr) (fun i _ => ps.length - (intOf i).toNat)
 case atStart => exact ⟨0, Nat.zero_le _, rfl, fun j hj => by omega, HS.out⟩
 case round =>
  clear HS
  obtain ⟨k, hk, rfl, hpr, hS⟩ := hrel
  have HS := Go.Lib.hid hS
  have HPR := Go.Lib.hid hpr
  clear hS hpr
  obtain ⟨c0_0, c0_1, c0_2⟩ := HS.out.c3 0 _ _ _ _ _ rfl
  obtain ⟨c1_0, c1_1, c1_2, c1_3, c1_4, c1_5⟩ := HS.out.c6 1 _ _ _ _ _ _ _ _ rfl
  by_cases hlt : k < ps.length
  ·obtain ⟨ad, B3, d3, rfl, g0, g1, g2, g3, hd3, hp3⟩ := at_T84 HR2.out (k : Int) (by omega) (by omega)
   rw [Int.toNat_natCast] at g0 g1 g2 g3
   replace g0 := HS.out.old g0
   replace g1 := HS.out.old g1
   replace g2 := HS.out.old g2
   replace g3 := HS.out.old g3
   have hpm : rd_T84 ps (k : Int) ∈ ps := memD ps z84 k hlt
   have hpz := HNM.out _ hpm
   obtain ⟨p, hpe⟩ : ∃ p, p = rd_T84 ps (k : Int) := ⟨_, rfl⟩
   rw [← hpe] at g0 g1 g2 g3 hd3 hp3 hpz
   obtain ⟨KF, hKF⟩ : ∃ KF, KF = p.f1.size + 4 := ⟨_, rfl⟩
   obtain ⟨r, hr⟩ := part_is p hpz KF (by omega)
   have HR := Go.Lib.hid hr
   have HPE := Go.Lib.hid hpe
   have HP3 := Go.Lib.hid hp3
   clear hpm hpz hr hpe hp3 hKF
   go_upto_region 6 with (first | ((with_reducible refine gate_dst (N := 4) rfl ?_); refine Sl.box_st HS.out (by rfl) (cs := #[.int .i64 0, .string ⟨#[]⟩, .bool false, .slice none 0 0]) (t := 84) ?hr ?_; (case hr => first | (go_simp; done) | (go_simp; rfl)); intro g4 w21_ HSn HBn; clear HBn; replace HS : Hid (St (SL.blk g4 84 #[.int .i64 0, .string ⟨#[]⟩, .bool false, .slice none 0 0] :: SL.blk gF 80 #[.int .i64 0, .int .i64 0, .int .i64 0] :: SL.blk gM 28 #[.int .u64 ep, .int .i64 fi, .slice (some ad) ps.length c2, .slice A3 ss.length c3, .slice A4 qs.length c4, .slice A5 av.length c5] :: []) w w21_) := Go.Lib.hid HSn; clear HSn; clear c0_0 c0_1 c0_2 c1_0 c1_1 c1_2 c1_3 c1_4 c1_5; obtain ⟨c0_0, c0_1, c0_2, c0_3⟩ := HS.out.c4 0 _ _ _ _ _ _ rfl; obtain ⟨c1_0, c1_1, c1_2⟩ := HS.out.c3 1 _ _ _ _ _ rfl; obtain ⟨c2_0, c2_1, c2_2, c2_3, c2_4, c2_5⟩ := HS.out.c6 2 _ _ _ _ _ _ _ _ rfl) | ((with_reducible refine gate_store (p := 4) rfl ?_); refine Sl.storeAll_st HS.out 0 g4 84 _ rfl [.int .i64 p.f0, .string p.f1, .bool p.f2, .slice B3 p.f3.length d3] rfl (by rfl) (by rfl) ?hr ?_; (case hr => have f_ := HS.out.f4 0 _ _ _ _ _ _ rfl; (try obtain ⟨f0, f1, f2, f3⟩ := f_); first | (go_simp; done) | (go_simp; rfl)); intro w22_ HSn; replace HS : Hid (St (SL.blk g4 84 #[.int .i64 p.f0, .string p.f1, .bool p.f2, .slice B3 p.f3.length d3] :: SL.blk gF 80 #[.int .i64 0, .int .i64 0, .int .i64 0] :: SL.blk gM 28 #[.int .u64 ep, .int .i64 fi, .slice (some ad) ps.length c2, .slice A3 ss.length c3, .slice A4 qs.length c4, .slice A5 av.length c5] :: []) w w22_) := Go.Lib.hid HSn; clear HSn; clear c0_0 c0_1 c0_2 c0_3 c1_0 c1_1 c1_2 c2_0 c2_1 c2_2 c2_3 c2_4 c2_5; obtain ⟨c0_0, c0_1, c0_2, c0_3⟩ := HS.out.c4 0 _ _ _ _ _ _ rfl; obtain ⟨c1_0, c1_1, c1_2⟩ := HS.out.c3 1 _ _ _ _ _ rfl; obtain ⟨c2_0, c2_1, c2_2, c2_3, c2_4, c2_5⟩ := HS.out.c6 2 _ _ _ _ _ _ _ _ rfl) | (go_at_call 94; refine (countwheelref08_Right.calls KF p.f0 p.f1 p.f2 B3 d3 p.f3 r _ (HS.out.C HP3.out) hd3 HR.out).mono ?_; rintro e w31_ ⟨rfl, hB⟩; replace HS := Go.Lib.hid (HS.out.then_ hB); clear hB; clear c0_0 c0_1 c0_2 c0_3 c1_0 c1_1 c1_2 c2_0 c2_1 c2_2 c2_3 c2_4 c2_5; obtain ⟨c0_0, c0_1, c0_2, c0_3⟩ := HS.out.c4 0 _ _ _ _ _ _ rfl; obtain ⟨c1_0, c1_1, c1_2⟩ := HS.out.c3 1 _ _ _ _ _ rfl; obtain ⟨c2_0, c2_1, c2_2, c2_3, c2_4, c2_5⟩ := HS.out.c6 2 _ _ _ _ _ _ _ _ rfl))
   have HG := Go.Lib.hid (And.intro g0 (And.intro g1 (And.intro g2 g3)))
   clear g0 g1 g2 g3
   go_cut [41] (fun c wx => ∃ b : Bool, c = .bool b ∧ (b = false → r = 0 → 0 < k → (ps.getD (k - 1) z84).f0 < p.f0) ∧ St [SL.blk g4 84 #[.int .i64 p.f0, .string p.f1, .bool p.f2, .slice B3 p.f3.length d3], SL.blk gF 80 #[.int .i64 0, .int .i64 0, .int .i64 0], SL.blk gM 28 #[.int .u64 ep, .int .i64 fi, .slice (some ad) ps.length c2, .slice A3 ss.length c3, .slice A4 qs.length c4, .slice A5 av.length c5]] w wx)
   case first =>
    by_cases hr0 : r = 0
    ·have d0 : (r == 0) = true := by rw [beq_iff_eq]; exact hr0
     by_cases hk0 : 0 < k
     ·have d1 : decide (0 < (k : Int)) = true := by simpa using hk0
      obtain ⟨_, _, _, q, h0, _⟩ := at_T84 HR2.out ((k : Int) - 1) (by omega) (by omega)
      injection q with q
      subst q
      rw [show ((k : Int) - 1).toNat = k - 1 by omega] at h0
      replace h0 := HS.out.old h0
      unfold rd_T84 at h0
      rw [show ((k : Int) - 1).toNat = k - 1 by omega] at h0
      have HR0 := Go.Lib.hid hr0
      clear hr0
      generalize ps.getD (k - 1) z84 = pv at *
      go_quiet (fail)
      go_wp2_with fail
      go_meet
      exact ⟨_, rfl, fun hb _ _ => by simpa using hb, HS.out.drewN _⟩
     ·have d1 : decide (0 < (k : Int)) = false := by simpa using hk0
      have HR0 := Go.Lib.hid hr0
      clear hr0
      go_quiet (fail)
      go_wp2_with fail
      go_meet
      exact ⟨_, rfl, fun _ _ h => absurd h hk0, HS.out.drewN _⟩
    ·have d0 : (r == 0) = false := by rw [beq_eq_false_iff_ne]; exact hr0
     have HR0 := Go.Lib.hid hr0
     clear hr0
     go_quiet (fail)
     go_wp2_with fail
     go_meet
     exact ⟨_, rfl, fun _ h => absurd h HR0.out, HS.out.drewN _⟩
   case rest =>
    clear HS c0_0 c0_1 c0_2 c0_3 c1_0 c1_1 c1_2 c2_0 c2_1 c2_2 c2_3 c2_4 c2_5
    obtain ⟨b, rfl, hb, hS⟩ := hcut
    have HS := Go.Lib.hid hS
    have HB := Go.Lib.hid hb
    clear hS hb
    cases b
    ·obtain ⟨c0_0, c0_1, c0_2, c0_3⟩ := HS.out.c4 0 _ _ _ _ _ _ rfl
     obtain ⟨c1_0, c1_1, c1_2⟩ := HS.out.c3 1 _ _ _ _ _ rfl
     obtain ⟨c2_0, c2_1, c2_2, c2_3, c2_4, c2_5⟩ := HS.out.c6 2 _ _ _ _ _ _ _ _ rfl
     go_wp2_with fail
     clear c0_0 c0_1 c0_2 c0_3 c1_0 c1_1 c1_2 c2_0 c2_1 c2_2 c2_3 c2_4 c2_5
     go_loopw [5, 6] (fun e i wi => ∃ (x : Int) (j : Nat), j ≤ k ∧ e = .int .i64 x ∧ (x = 0 → r = 0) ∧ i = .int .i64 j ∧ St [SL.blk g4 84 #[.int .i64 p.f0, .string p.f1, .bool p.f2, .slice B3 p.f3.length d3], SL.blk gF 80 #[.int .i64 0, .int .i64 0, .int .i64 0], SL.blk gM 28 #[.int .u64 ep, .int .i64 fi, .slice (some ad) ps.length c2, .slice A3 ss.length c3, .slice A4 qs.length c4, .slice A5 av.length c5]] w wi) (fun _ i _ => k - (intOf i).toNat)
     case atStart => exact ⟨_, 0, Nat.zero_le _, rfl, id, rfl, HS.out⟩
     case round =>
      clear HS
      obtain ⟨x, j, hjk, rfl, hx, rfl, hS⟩ := hrel
      have HS := Go.Lib.hid hS
      have HX := Go.Lib.hid hx
      clear hS hx
      obtain ⟨c0_0, c0_1, c0_2, c0_3⟩ := HS.out.c4 0 _ _ _ _ _ _ rfl
      obtain ⟨c1_0, c1_1, c1_2⟩ := HS.out.c3 1 _ _ _ _ _ rfl
      obtain ⟨c2_0, c2_1, c2_2, c2_3, c2_4, c2_5⟩ := HS.out.c6 2 _ _ _ _ _ _ _ _ rfl
      by_cases hj : j < k
      ·go_upto_region 11 with (fail)
       go_cut [59] (fun c wx => ∃ b : Bool, c = .bool b ∧ St [SL.blk g4 84 #[.int .i64 p.f0, .string p.f1, .bool p.f2, .slice B3 p.f3.length d3], SL.blk gF 80 #[.int .i64 0, .int .i64 0, .int .i64 0], SL.blk gM 28 #[.int .u64 ep, .int .i64 fi, .slice (some ad) ps.length c2, .slice A3 ss.length c3, .slice A4 qs.length c4, .slice A5 av.length c5]] w wx)
       case first =>
        by_cases hx0 : x = 0
        ·have d0 : (x == 0) = true := by rw [beq_iff_eq]; exact hx0
         obtain ⟨_, _, _, q, _, h1, _⟩ := at_T84 HR2.out (j : Int) (by omega) (by omega)
         injection q with q
         subst q
         rw [Int.toNat_natCast] at h1
         replace h1 := HS.out.old h1
         generalize (rd_T84 ps (j : Int)).f1 = nm at *
         clear hx0
         go_quiet (fail)
         go_wp2_with fail
         go_meet
         exact ⟨_, rfl, HS.out.drewN _⟩
        ·have d0 : (x == 0) = false := by rw [beq_eq_false_iff_ne]; exact hx0
         clear hx0
         go_quiet (fail)
         go_wp2_with fail
         go_meet
         exact ⟨_, rfl, HS.out.drewN _⟩
       case rest =>
        clear HS c0_0 c0_1 c0_2 c0_3 c1_0 c1_1 c1_2 c2_0 c2_1 c2_2 c2_3 c2_4 c2_5
        obtain ⟨b, rfl, hS⟩ := hcut
        have HS := Go.Lib.hid hS
        clear hS
        cases b
        ·go_wp2_with fail
         go_roundw
         case rel => exact ⟨x, j + 1, hj, rfl, HX.out, rfl, HS.out⟩
         case measure => simp [intOf]; omega
        ·go_wp2_with fail
         go_roundw
         case rel => exact ⟨7, j + 1, hj, rfl, fun h => by omega, rfl, HS.out⟩
         case measure => simp [intOf]; omega
      ·by_cases hx0 : x = 0
       ·have d0 : (x != 0) = false := by rw [bne_eq_false_iff_eq]; exact hx0
        have HX0 := Go.Lib.hid hx0
        clear hx0
        go_wp2_with fail
        go_roundw
        case rel => exact ⟨k + 1, hlt, rfl, prise_step HPR.out (fun h0 => by have := HB.out (by first | trivial | rfl) (HX.out HX0.out) h0; rw [HPE.out] at this; unfold rd_T84 at this; rwa [Int.toNat_natCast] at this), HS.out.drop⟩
        case measure => simp [intOf]; omega
       ·have d0 : (x != 0) = true := by rw [bne_iff_ne]; exact hx0
        have HX0 := Go.Lib.hid hx0
        clear hx0 c0_0 c0_1 c0_2 c0_3 c1_0 c1_1 c1_2 c2_0 c2_1 c2_2 c2_3 c2_4 c2_5
        obtain ⟨c0_0, c0_1, c0_2, c0_3⟩ := HS.out.c4 0 _ _ _ _ _ _ rfl
        obtain ⟨c1_0, c1_1, c1_2⟩ := HS.out.c3 1 _ _ _ _ _ rfl
        obtain ⟨c2_0, c2_1, c2_2, c2_3, c2_4, c2_5⟩ := HS.out.c6 2 _ _ _ _ _ _ _ _ rfl
        go_wp2_with (first | (go_at_call 77; refine bad_any _ _ _ _ ?_; intro w71_ hB; replace HS := Go.Lib.hid (HS.out.then_ hB); clear hB; clear c0_0 c0_1 c0_2 c0_3 c1_0 c1_1 c1_2 c2_0 c2_1 c2_2 c2_3 c2_4 c2_5; obtain ⟨c0_0, c0_1, c0_2, c0_3⟩ := HS.out.c4 0 _ _ _ _ _ _ rfl; obtain ⟨c1_0, c1_1, c1_2⟩ := HS.out.c3 1 _ _ _ _ _ rfl; obtain ⟨c2_0, c2_1, c2_2, c2_3, c2_4, c2_5⟩ := HS.out.c6 2 _ _ _ _ _ _ _ _ rfl) | ((with_reducible refine gate_store (p := 2) rfl ?_); refine Sl.storeAll_st HS.out 1 gF 80 _ rfl [.int .i64 x, .int .i64 2, .int .i64 k] rfl (by rfl) (by rfl) ?hr ?_; (case hr => have f_ := HS.out.f3 1 _ _ _ _ _ rfl; (try obtain ⟨f0, f1, f2⟩ := f_); first | (go_simp; done) | (go_simp; rfl)); intro w71_ HSn; replace HS : Hid (St (SL.blk g4 84 #[.int .i64 p.f0, .string p.f1, .bool p.f2, .slice B3 p.f3.length d3] :: SL.blk gF 80 #[.int .i64 x, .int .i64 2, .int .i64 k] :: SL.blk gM 28 #[.int .u64 ep, .int .i64 fi, .slice (some ad) ps.length c2, .slice A3 ss.length c3, .slice A4 qs.length c4, .slice A5 av.length c5] :: []) w w71_) := Go.Lib.hid HSn; clear HSn; clear c0_0 c0_1 c0_2 c0_3 c1_0 c1_1 c1_2 c2_0 c2_1 c2_2 c2_3 c2_4 c2_5; obtain ⟨c0_0, c0_1, c0_2, c0_3⟩ := HS.out.c4 0 _ _ _ _ _ _ rfl; obtain ⟨c1_0, c1_1, c1_2⟩ := HS.out.c3 1 _ _ _ _ _ rfl; obtain ⟨c2_0, c2_1, c2_2, c2_3, c2_4, c2_5⟩ := HS.out.c6 2 _ _ _ _ _ _ _ _ rfl))
        refine bodyPost_ret (v := .agg #[.int .i64 x, .int .i64 2, .int .i64 k]) (results_cell_row (by rfl) _ _ gF 80 _ (0, 0) _ (by rfl) (HS.out.heap 1 _ _ _ rfl) Try.underlying80 rfl infoF) rfl ⟨_, _, _, rfl, fun h => absurd h HX0.out, HS.out.below⟩
    ·obtain ⟨c0_0, c0_1, c0_2, c0_3⟩ := HS.out.c4 0 _ _ _ _ _ _ rfl
     obtain ⟨c1_0, c1_1, c1_2⟩ := HS.out.c3 1 _ _ _ _ _ rfl
     obtain ⟨c2_0, c2_1, c2_2, c2_3, c2_4, c2_5⟩ := HS.out.c6 2 _ _ _ _ _ _ _ _ rfl
     go_wp2_with fail
     clear c0_0 c0_1 c0_2 c0_3 c1_0 c1_1 c1_2 c2_0 c2_1 c2_2 c2_3 c2_4 c2_5
     go_loopw [5, 6] (fun e i wi => ∃ (x : Int) (j : Nat), j ≤ k ∧ e = .int .i64 x ∧ (x = 0 → (9 : Int) = 0) ∧ i = .int .i64 j ∧ St [SL.blk g4 84 #[.int .i64 p.f0, .string p.f1, .bool p.f2, .slice B3 p.f3.length d3], SL.blk gF 80 #[.int .i64 0, .int .i64 0, .int .i64 0], SL.blk gM 28 #[.int .u64 ep, .int .i64 fi, .slice (some ad) ps.length c2, .slice A3 ss.length c3, .slice A4 qs.length c4, .slice A5 av.length c5]] w wi) (fun _ i _ => k - (intOf i).toNat)
     case atStart => exact ⟨_, 0, Nat.zero_le _, rfl, id, rfl, HS.out⟩
     case round =>
      clear HS
      obtain ⟨x, j, hjk, rfl, hx, rfl, hS⟩ := hrel
      have HS := Go.Lib.hid hS
      have HX := Go.Lib.hid hx
      clear hS hx
      obtain ⟨c0_0, c0_1, c0_2, c0_3⟩ := HS.out.c4 0 _ _ _ _ _ _ rfl
      obtain ⟨c1_0, c1_1, c1_2⟩ := HS.out.c3 1 _ _ _ _ _ rfl
      obtain ⟨c2_0, c2_1, c2_2, c2_3, c2_4, c2_5⟩ := HS.out.c6 2 _ _ _ _ _ _ _ _ rfl
      by_cases hj : j < k
      ·go_upto_region 11 with (fail)
       go_cut [59] (fun c wx => ∃ b : Bool, c = .bool b ∧ St [SL.blk g4 84 #[.int .i64 p.f0, .string p.f1, .bool p.f2, .slice B3 p.f3.length d3], SL.blk gF 80 #[.int .i64 0, .int .i64 0, .int .i64 0], SL.blk gM 28 #[.int .u64 ep, .int .i64 fi, .slice (some ad) ps.length c2, .slice A3 ss.length c3, .slice A4 qs.length c4, .slice A5 av.length c5]] w wx)
       case first =>
        by_cases hx0 : x = 0
        ·have d0 : (x == 0) = true := by rw [beq_iff_eq]; exact hx0
         obtain ⟨_, _, _, q, _, h1, _⟩ := at_T84 HR2.out (j : Int) (by omega) (by omega)
         injection q with q
         subst q
         rw [Int.toNat_natCast] at h1
         replace h1 := HS.out.old h1
         generalize (rd_T84 ps (j : Int)).f1 = nm at *
         clear hx0
         go_quiet (fail)
         go_wp2_with fail
         go_meet
         exact ⟨_, rfl, HS.out.drewN _⟩
        ·have d0 : (x == 0) = false := by rw [beq_eq_false_iff_ne]; exact hx0
         clear hx0
         go_quiet (fail)
         go_wp2_with fail
         go_meet
         exact ⟨_, rfl, HS.out.drewN _⟩
       case rest =>
        clear HS c0_0 c0_1 c0_2 c0_3 c1_0 c1_1 c1_2 c2_0 c2_1 c2_2 c2_3 c2_4 c2_5
        obtain ⟨b, rfl, hS⟩ := hcut
        have HS := Go.Lib.hid hS
        clear hS
        cases b
        ·go_wp2_with fail
         go_roundw
         case rel => exact ⟨x, j + 1, hj, rfl, HX.out, rfl, HS.out⟩
         case measure => simp [intOf]; omega
        ·go_wp2_with fail
         go_roundw
         case rel => exact ⟨7, j + 1, hj, rfl, fun h => by omega, rfl, HS.out⟩
         case measure => simp [intOf]; omega
      ·by_cases hx0 : x = 0
       ·have d0 : (x != 0) = false := by rw [bne_eq_false_iff_eq]; exact hx0
        have HX0 := Go.Lib.hid hx0
        clear hx0
        go_wp2_with fail
        go_roundw
        case rel => exact ⟨k + 1, hlt, rfl, prise_step HPR.out (fun _ => absurd (HX.out HX0.out) (by decide)), HS.out.drop⟩
        case measure => simp [intOf]; omega
       ·have d0 : (x != 0) = true := by rw [bne_iff_ne]; exact hx0
        have HX0 := Go.Lib.hid hx0
        clear hx0 c0_0 c0_1 c0_2 c0_3 c1_0 c1_1 c1_2 c2_0 c2_1 c2_2 c2_3 c2_4 c2_5
        obtain ⟨c0_0, c0_1, c0_2, c0_3⟩ := HS.out.c4 0 _ _ _ _ _ _ rfl
        obtain ⟨c1_0, c1_1, c1_2⟩ := HS.out.c3 1 _ _ _ _ _ rfl
        obtain ⟨c2_0, c2_1, c2_2, c2_3, c2_4, c2_5⟩ := HS.out.c6 2 _ _ _ _ _ _ _ _ rfl
        go_wp2_with (first | (go_at_call 77; refine bad_any _ _ _ _ ?_; intro w71_ hB; replace HS := Go.Lib.hid (HS.out.then_ hB); clear hB; clear c0_0 c0_1 c0_2 c0_3 c1_0 c1_1 c1_2 c2_0 c2_1 c2_2 c2_3 c2_4 c2_5; obtain ⟨c0_0, c0_1, c0_2, c0_3⟩ := HS.out.c4 0 _ _ _ _ _ _ rfl; obtain ⟨c1_0, c1_1, c1_2⟩ := HS.out.c3 1 _ _ _ _ _ rfl; obtain ⟨c2_0, c2_1, c2_2, c2_3, c2_4, c2_5⟩ := HS.out.c6 2 _ _ _ _ _ _ _ _ rfl) | ((with_reducible refine gate_store (p := 2) rfl ?_); refine Sl.storeAll_st HS.out 1 gF 80 _ rfl [.int .i64 x, .int .i64 2, .int .i64 k] rfl (by rfl) (by rfl) ?hr ?_; (case hr => have f_ := HS.out.f3 1 _ _ _ _ _ rfl; (try obtain ⟨f0, f1, f2⟩ := f_); first | (go_simp; done) | (go_simp; rfl)); intro w71_ HSn; replace HS : Hid (St (SL.blk g4 84 #[.int .i64 p.f0, .string p.f1, .bool p.f2, .slice B3 p.f3.length d3] :: SL.blk gF 80 #[.int .i64 x, .int .i64 2, .int .i64 k] :: SL.blk gM 28 #[.int .u64 ep, .int .i64 fi, .slice (some ad) ps.length c2, .slice A3 ss.length c3, .slice A4 qs.length c4, .slice A5 av.length c5] :: []) w w71_) := Go.Lib.hid HSn; clear HSn; clear c0_0 c0_1 c0_2 c0_3 c1_0 c1_1 c1_2 c2_0 c2_1 c2_2 c2_3 c2_4 c2_5; obtain ⟨c0_0, c0_1, c0_2, c0_3⟩ := HS.out.c4 0 _ _ _ _ _ _ rfl; obtain ⟨c1_0, c1_1, c1_2⟩ := HS.out.c3 1 _ _ _ _ _ rfl; obtain ⟨c2_0, c2_1, c2_2, c2_3, c2_4, c2_5⟩ := HS.out.c6 2 _ _ _ _ _ _ _ _ rfl))
        refine bodyPost_ret (v := .agg #[.int .i64 x, .int .i64 2, .int .i64 k]) (results_cell_row (by rfl) _ _ gF 80 _ (0, 0) _ (by rfl) (HS.out.heap 1 _ _ _ rfl) Try.underlying80 rfl infoF) rfl ⟨_, _, _, rfl, fun h => absurd h HX0.out, HS.out.below⟩
  ·obtain rfl : k = ps.length := by omega
   clear hk hlt
   by_cases hp1 : (ps.length : Int) < 1
   ·have d0 : decide ((ps.length : Int) < 1) = true := by simpa using hp1
    clear hp1 c0_0 c0_1 c0_2 c1_0 c1_1 c1_2 c1_3 c1_4 c1_5
    obtain ⟨c0_0, c0_1, c0_2⟩ := HS.out.c3 0 _ _ _ _ _ rfl
    obtain ⟨c1_0, c1_1, c1_2, c1_3, c1_4, c1_5⟩ := HS.out.c6 1 _ _ _ _ _ _ _ _ rfl
    go_wp2_with (first | (go_at_call 77; refine bad_any _ _ _ _ ?_; intro w71_ hB; replace HS := Go.Lib.hid (HS.out.then_ hB); clear hB; clear c0_0 c0_1 c0_2 c1_0 c1_1 c1_2 c1_3 c1_4 c1_5; obtain ⟨c0_0, c0_1, c0_2⟩ := HS.out.c3 0 _ _ _ _ _ rfl; obtain ⟨c1_0, c1_1, c1_2, c1_3, c1_4, c1_5⟩ := HS.out.c6 1 _ _ _ _ _ _ _ _ rfl) | ((with_reducible refine gate_store (p := 2) rfl ?_); refine Sl.storeAll_st HS.out 0 gF 80 _ rfl [.int .i64 8, .int .i64 2, .int .i64 0] rfl (by rfl) (by rfl) ?hr ?_; (case hr => have f_ := HS.out.f3 0 _ _ _ _ _ rfl; (try obtain ⟨f0, f1, f2⟩ := f_); first | (go_simp; done) | (go_simp; rfl)); intro w71_ HSn; replace HS : Hid (St (SL.blk gF 80 #[.int .i64 8, .int .i64 2, .int .i64 0] :: SL.blk gM 28 #[.int .u64 ep, .int .i64 fi, .slice A2 ps.length c2, .slice A3 ss.length c3, .slice A4 qs.length c4, .slice A5 av.length c5] :: []) w w71_) := Go.Lib.hid HSn; clear HSn; clear c0_0 c0_1 c0_2 c1_0 c1_1 c1_2 c1_3 c1_4 c1_5; obtain ⟨c0_0, c0_1, c0_2⟩ := HS.out.c3 0 _ _ _ _ _ rfl; obtain ⟨c1_0, c1_1, c1_2, c1_3, c1_4, c1_5⟩ := HS.out.c6 1 _ _ _ _ _ _ _ _ rfl))
    refine bodyPost_ret (v := .agg #[.int .i64 8, .int .i64 2, .int .i64 0]) (results_cell_row (by rfl) _ _ gF 80 _ (0, 0) _ (by rfl) (HS.out.heap 0 _ _ _ rfl) Try.underlying80 rfl infoF) rfl ⟨_, _, _, rfl, fun h => by omega, HS.out.below⟩
   ·have d0 : decide ((ps.length : Int) < 1) = false := by simpa using hp1
    by_cases hp2 : (32 : Int) < ps.length
    ·have d1 : decide ((32 : Int) < (ps.length : Int)) = true := by simpa using hp2
     clear hp2 c0_0 c0_1 c0_2 c1_0 c1_1 c1_2 c1_3 c1_4 c1_5
     obtain ⟨c0_0, c0_1, c0_2⟩ := HS.out.c3 0 _ _ _ _ _ rfl
     obtain ⟨c1_0, c1_1, c1_2, c1_3, c1_4, c1_5⟩ := HS.out.c6 1 _ _ _ _ _ _ _ _ rfl
     go_wp2_with (first | (go_at_call 77; refine bad_any _ _ _ _ ?_; intro w71_ hB; replace HS := Go.Lib.hid (HS.out.then_ hB); clear hB; clear c0_0 c0_1 c0_2 c1_0 c1_1 c1_2 c1_3 c1_4 c1_5; obtain ⟨c0_0, c0_1, c0_2⟩ := HS.out.c3 0 _ _ _ _ _ rfl; obtain ⟨c1_0, c1_1, c1_2, c1_3, c1_4, c1_5⟩ := HS.out.c6 1 _ _ _ _ _ _ _ _ rfl) | ((with_reducible refine gate_store (p := 2) rfl ?_); refine Sl.storeAll_st HS.out 0 gF 80 _ rfl [.int .i64 8, .int .i64 2, .int .i64 0] rfl (by rfl) (by rfl) ?hr ?_; (case hr => have f_ := HS.out.f3 0 _ _ _ _ _ rfl; (try obtain ⟨f0, f1, f2⟩ := f_); first | (go_simp; done) | (go_simp; rfl)); intro w71_ HSn; replace HS : Hid (St (SL.blk gF 80 #[.int .i64 8, .int .i64 2, .int .i64 0] :: SL.blk gM 28 #[.int .u64 ep, .int .i64 fi, .slice A2 ps.length c2, .slice A3 ss.length c3, .slice A4 qs.length c4, .slice A5 av.length c5] :: []) w w71_) := Go.Lib.hid HSn; clear HSn; clear c0_0 c0_1 c0_2 c1_0 c1_1 c1_2 c1_3 c1_4 c1_5; obtain ⟨c0_0, c0_1, c0_2⟩ := HS.out.c3 0 _ _ _ _ _ rfl; obtain ⟨c1_0, c1_1, c1_2, c1_3, c1_4, c1_5⟩ := HS.out.c6 1 _ _ _ _ _ _ _ _ rfl))
     refine bodyPost_ret (v := .agg #[.int .i64 8, .int .i64 2, .int .i64 0]) (results_cell_row (by rfl) _ _ gF 80 _ (0, 0) _ (by rfl) (HS.out.heap 0 _ _ _ rfl) Try.underlying80 rfl infoF) rfl ⟨_, _, _, rfl, fun h => by omega, HS.out.below⟩
    ·have d1 : decide ((32 : Int) < (ps.length : Int)) = false := by simpa using hp2
     have HP1 := Go.Lib.hid hp1
     clear hp1 hp2
     go_wp2_with fail
     clear d0 d1 c0_0 c0_1 c0_2 c1_0 c1_1 c1_2 c1_3 c1_4 c1_5
     go_loopw [7] (fun i wr => ∃ k : Nat, k ≤ ss.length ∧ i = .int .i64 k ∧ SRise ps ss k ∧ St [SL.blk gF 80 #[.int .i64 0, .int .i64 0, .int .i64 0], SL.blk gM 28 #[.int .u64 ep, .int .i64 fi, .slice A2 ps.length c2, .slice A3 ss.length c3, .slice A4 qs.length c4, .slice A5 av.length c5]] w wr) (fun i _ => ss.length - (intOf i).toNat)
     case atStart => exact ⟨0, Nat.zero_le _, rfl, ⟨fun j hj => by omega, fun j hj => by omega⟩, HS.out⟩
     case round =>
      clear HS
      obtain ⟨k, hk, rfl, hsr, hS⟩ := hrel
      have HS := Go.Lib.hid hS
      have HSR := Go.Lib.hid hsr
      clear hS hsr
      obtain ⟨c0_0, c0_1, c0_2⟩ := HS.out.c3 0 _ _ _ _ _ rfl
      obtain ⟨c1_0, c1_1, c1_2, c1_3, c1_4, c1_5⟩ := HS.out.c6 1 _ _ _ _ _ _ _ _ rfl
      by_cases hlt : k < ss.length
      ·obtain ⟨ad, B2, d2, B3, d3, rfl, g0, g1, g2, g3, hd2, hp2, hd3, hp3⟩ := at_T46 HR3.out (k : Int) (by omega) (by omega)
       rw [Int.toNat_natCast] at g0 g1 g2 g3
       replace g0 := HS.out.old g0
       replace g1 := HS.out.old g1
       replace g2 := HS.out.old g2
       replace g3 := HS.out.old g3
       have hpm : rd_T46 ss (k : Int) ∈ ss := memD ss z46 k hlt
       obtain ⟨s, hpe⟩ : ∃ s, s = rd_T46 ss (k : Int) := ⟨_, rfl⟩
       rw [← hpe] at g0 g1 g2 g3 hd2 hp2 hd3 hp3 hpm
       have hse := HL.out.each s hpm
       obtain ⟨KF, hKF⟩ : ∃ KF, KF = s.f2.length + s.f3.length + 3 := ⟨_, rfl⟩
       obtain ⟨r, hr, hro⟩ := right_is s hp2.2.1 hp3.2.1 KF (by omega)
       have hil : (ps.map S84.f0).length ≤ 40 := by rw [List.length_map]; exact HL.out.hps
       obtain ⟨KC, hKC⟩ : ∃ KC, KC = 3 * s.f2.length + (ps.map S84.f0).length + 4 := ⟨_, rfl⟩
       obtain ⟨q1, q2, hq, hqo⟩ := check13_is s (ps.map S84.f0) hp2.2.1 (by unfold Small; omega) KC (by omega)
       obtain ⟨KP, hKP⟩ : ∃ KP, KP = ps.length + 1 := ⟨_, rfl⟩
       have HPS := Go.Lib.hid (parts_is (ep := ep) (fi := fi) (ps := ps) (ss := ss) (qs := qs) (av := av) (by omega) KP (by omega))
       have HIL := Go.Lib.hid hil
       have HR := Go.Lib.hid hr
       have HRO := Go.Lib.hid hro
       have HQ := Go.Lib.hid hq
       have HQO := Go.Lib.hid hqo
       have HPE := Go.Lib.hid hpe
       have HP2 := Go.Lib.hid hp2
       have HP3 := Go.Lib.hid hp3
       clear hpm hse hr hro hq hqo hpe hp2 hp3 hKF hKC hKP hil
       go_upto_region 22 with (first | ((with_reducible refine gate_dst (N := 8) rfl ?_); refine Sl.box_st HS.out (by rfl) (cs := #[.int .i64 0, .int .i64 0, .slice none 0 0, .slice none 0 0]) (t := 46) ?hr ?_; (case hr => first | (go_simp; done) | (go_simp; rfl)); intro g8 w41_ HSn HBn; clear HBn; replace HS : Hid (St (SL.blk g8 46 #[.int .i64 0, .int .i64 0, .slice none 0 0, .slice none 0 0] :: SL.blk gF 80 #[.int .i64 0, .int .i64 0, .int .i64 0] :: SL.blk gM 28 #[.int .u64 ep, .int .i64 fi, .slice A2 ps.length c2, .slice (some ad) ss.length c3, .slice A4 qs.length c4, .slice A5 av.length c5] :: []) w w41_) := Go.Lib.hid HSn; clear HSn; clear c0_0 c0_1 c0_2 c1_0 c1_1 c1_2 c1_3 c1_4 c1_5; obtain ⟨c0_0, c0_1, c0_2, c0_3⟩ := HS.out.c4 0 _ _ _ _ _ _ rfl; obtain ⟨c1_0, c1_1, c1_2⟩ := HS.out.c3 1 _ _ _ _ _ rfl; obtain ⟨c2_0, c2_1, c2_2, c2_3, c2_4, c2_5⟩ := HS.out.c6 2 _ _ _ _ _ _ _ _ rfl) | ((with_reducible refine gate_store (p := 8) rfl ?_); refine Sl.storeAll_st HS.out 0 g8 46 _ rfl [.int .i64 s.f0, .int .i64 s.f1, .slice B2 s.f2.length d2, .slice B3 s.f3.length d3] rfl (by rfl) (by rfl) ?hr ?_; (case hr => have f_ := HS.out.f4 0 _ _ _ _ _ _ rfl; (try obtain ⟨f0, f1, f2, f3⟩ := f_); first | (go_simp; done) | (go_simp; rfl)); intro w42_ HSn; replace HS : Hid (St (SL.blk g8 46 #[.int .i64 s.f0, .int .i64 s.f1, .slice B2 s.f2.length d2, .slice B3 s.f3.length d3] :: SL.blk gF 80 #[.int .i64 0, .int .i64 0, .int .i64 0] :: SL.blk gM 28 #[.int .u64 ep, .int .i64 fi, .slice A2 ps.length c2, .slice (some ad) ss.length c3, .slice A4 qs.length c4, .slice A5 av.length c5] :: []) w w42_) := Go.Lib.hid HSn; clear HSn; clear c0_0 c0_1 c0_2 c0_3 c1_0 c1_1 c1_2 c2_0 c2_1 c2_2 c2_3 c2_4 c2_5; obtain ⟨c0_0, c0_1, c0_2, c0_3⟩ := HS.out.c4 0 _ _ _ _ _ _ rfl; obtain ⟨c1_0, c1_1, c1_2⟩ := HS.out.c3 1 _ _ _ _ _ rfl; obtain ⟨c2_0, c2_1, c2_2, c2_3, c2_4, c2_5⟩ := HS.out.c6 2 _ _ _ _ _ _ _ _ rfl) | (go_at_call 95; refine (countwheelref09_Right.calls KF s.f0 s.f1 B2 d2 s.f2 B3 d3 s.f3 r _ (HS.out.C HP2.out) hd2 (HS.out.C HP3.out) hd3 HR.out).mono ?_; rintro e w51_ ⟨rfl, hB⟩; replace HS := Go.Lib.hid (HS.out.then_ hB); clear hB; clear c0_0 c0_1 c0_2 c0_3 c1_0 c1_1 c1_2 c2_0 c2_1 c2_2 c2_3 c2_4 c2_5; obtain ⟨c0_0, c0_1, c0_2, c0_3⟩ := HS.out.c4 0 _ _ _ _ _ _ rfl; obtain ⟨c1_0, c1_1, c1_2⟩ := HS.out.c3 1 _ _ _ _ _ rfl; obtain ⟨c2_0, c2_1, c2_2, c2_3, c2_4, c2_5⟩ := HS.out.c6 2 _ _ _ _ _ _ _ _ rfl))
       have HG := Go.Lib.hid (And.intro g0 (And.intro g1 (And.intro g2 g3)))
       clear g0 g1 g2 g3
       go_cut [107] (fun c wx => ∃ b : Bool, c = .bool b ∧ (b = false → r = 0 → 0 < k → (ss.getD (k - 1) z46).f0 < s.f0) ∧ St [SL.blk g8 46 #[.int .i64 s.f0, .int .i64 s.f1, .slice B2 s.f2.length d2, .slice B3 s.f3.length d3], SL.blk gF 80 #[.int .i64 0, .int .i64 0, .int .i64 0], SL.blk gM 28 #[.int .u64 ep, .int .i64 fi, .slice A2 ps.length c2, .slice (some ad) ss.length c3, .slice A4 qs.length c4, .slice A5 av.length c5]] w wx)
       case first =>
        by_cases hr0 : r = 0
        ·have d0 : (r == 0) = true := by rw [beq_iff_eq]; exact hr0
         by_cases hk0 : 0 < k
         ·have d1 : decide (0 < (k : Int)) = true := by simpa using hk0
          obtain ⟨_, _, _, _, _, q, h0, _⟩ := at_T46 HR3.out ((k : Int) - 1) (by omega) (by omega)
          injection q with q
          subst q
          rw [show ((k : Int) - 1).toNat = k - 1 by omega] at h0
          replace h0 := HS.out.old h0
          unfold rd_T46 at h0
          rw [show ((k : Int) - 1).toNat = k - 1 by omega] at h0
          have HR0 := Go.Lib.hid hr0
          clear hr0
          generalize ss.getD (k - 1) z46 = pv at *
          go_quiet (fail)
          go_wp2_with fail
          go_meet
          exact ⟨_, rfl, fun hb _ _ => by simpa using hb, HS.out.drewN _⟩
         ·have d1 : decide (0 < (k : Int)) = false := by simpa using hk0
          have HR0 := Go.Lib.hid hr0
          clear hr0
          go_quiet (fail)
          go_wp2_with fail
          go_meet
          exact ⟨_, rfl, fun _ _ h => absurd h hk0, HS.out.drewN _⟩
        ·have d0 : (r == 0) = false := by rw [beq_eq_false_iff_ne]; exact hr0
         have HR0 := Go.Lib.hid hr0
         clear hr0
         go_quiet (fail)
         go_wp2_with fail
         go_meet
         exact ⟨_, rfl, fun _ h => absurd h HR0.out, HS.out.drewN _⟩
       case rest =>
        clear HS c0_0 c0_1 c0_2 c0_3 c1_0 c1_1 c1_2 c2_0 c2_1 c2_2 c2_3 c2_4 c2_5
        obtain ⟨b, rfl, hb, hS⟩ := hcut
        have HS := Go.Lib.hid hS
        have HB := Go.Lib.hid hb
        clear hS hb
        obtain ⟨c0_0, c0_1, c0_2, c0_3⟩ := HS.out.c4 0 _ _ _ _ _ _ rfl
        obtain ⟨c1_0, c1_1, c1_2⟩ := HS.out.c3 1 _ _ _ _ _ rfl
        obtain ⟨c2_0, c2_1, c2_2, c2_3, c2_4, c2_5⟩ := HS.out.c6 2 _ _ _ _ _ _ _ _ rfl
        cases b
        ·by_cases hr0 : r = 0
         ·have d0 : (r == 0) = true := by rw [beq_iff_eq]; exact hr0
          have hsi := HRO.out hr0
          have HSI := Go.Lib.hid hsi
          have HR0 := Go.Lib.hid hr0
          clear hr0 hsi
          obtain ⟨KD, hKD⟩ : ∃ KD, KD = s.f2.length + 3 * s.f3.length + (ps.map S84.f0).length + 2 * s.f1.toNat + 7 := ⟨_, rfl⟩
          obtain ⟨t1, t2, ht⟩ := check14_is s (ps.map S84.f0) HSI.out (by unfold Small; have := HIL.out; omega) KD (by omega)
          have HT := Go.Lib.hid ht
          clear ht hKD
          go_upto_region 25 with (fail)
          clear c0_0 c0_1 c0_2 c0_3 c1_0 c1_1 c1_2 c2_0 c2_1 c2_2 c2_3 c2_4 c2_5
          replace HS := Go.Lib.hid HS.out.drew
          refine start_ (n := 8) (S := fun w' => (w'.cell? ⟨g8, 0, none⟩ = some (.int .i64 s.f0) ∧ w'.cell? ⟨g8, 1, none⟩ = some (.int .i64 s.f1) ∧ w'.cell? ⟨g8, 2, none⟩ = some (.slice B2 s.f2.length d2) ∧ w'.cell? ⟨g8, 3, none⟩ = some (.slice B3 s.f3.length d3)) ∧ (w'.cell? ⟨gM, 0, none⟩ = some (.int .u64 ep) ∧ w'.cell? ⟨gM, 1, none⟩ = some (.int .i64 fi) ∧ w'.cell? ⟨gM, 2, none⟩ = some (.slice A2 ps.length c2) ∧ w'.cell? ⟨gM, 3, none⟩ = some (.slice (some ad) ss.length c3) ∧ w'.cell? ⟨gM, 4, none⟩ = some (.slice A4 qs.length c4) ∧ w'.cell? ⟨gM, 5, none⟩ = some (.slice A5 av.length c5))) (ds := []) #[false, false, false, false, false, false, false, false] (by kernel_rfl) rfl rfl ⟨HS.out.c4 0 _ _ _ _ _ _ rfl, HS.out.c6 2 _ _ _ _ _ _ _ _ rfl⟩ (fun hHeld => ?_)
          generalize wc.drew = W_ at *
          refine take_ (i := 0) (N := some 111) (v := ?_) (a' := ?_) #[true, false, false, false, false, false, false, false] rfl rfl (by kernel_rfl) (fun _ _ _ h => h) (Or.inl ⟨by rfl, ?_⟩) hHeld ?_ ?_
          rotate_left
          ·rintro w' ⟨⟨s0, s1, s2, s3⟩, s4, s5, s6, s7, s8, s9⟩
           go_simp
           with_reducible rfl
          rotate_left
          ·simp only [Act.put, List.setIfInBounds_toArray, List.set_cons_zero, List.set_cons_succ, i64_w, i32_w]
           rfl
          refine take_ (i := 1) (N := some 112) (v := ?_) (a' := ?_) #[true, true, false, false, false, false, false, false] rfl rfl (by kernel_rfl) (fun _ _ _ h => h) (Or.inl ⟨by rfl, ?_⟩) hHeld ?_ ?_
          rotate_left
          ·rintro w' ⟨⟨s0, s1, s2, s3⟩, s4, s5, s6, s7, s8, s9⟩
           go_simp
           with_reducible rfl
          rotate_left
          ·simp only [Act.put, List.setIfInBounds_toArray, List.set_cons_zero, List.set_cons_succ, i64_w, i32_w]
           rfl
          refine one_ (i := 2) (N := some 113) #[true, true, true, false, false, false, false, false] rfl rfl (by kernel_rfl) (by decide) (fun K hK => ?_)
          refine goes_ Try.func80 (by kernel_rfl) rfl #[.agg #[.int .u64 ep, .int .i64 fi, .slice A2 ps.length c2, .slice (some ad) ss.length c3, .slice A4 qs.length c4, .slice A5 av.length c5]] (by rfl) rfl rfl (by (try simp only [List.map_toArray, List.map_cons, List.map_nil]); first | done | rfl) ?_
          refine (countwheelref16_Parts.calls KP ep fi A2 c2 ps (some ad) c3 ss A4 c4 qs A5 c5 av (ps.map S84.f0) _ (HS.out.C HR2.out) hc2 (HS.out.C HR3.out) hc3 (HS.out.C HR4.out) hc4 (HS.out.C HR5.out) hc5 HPS.out).mono ?_
          rintro e w92 ⟨v6, rfl, hR6, hB6⟩
          have HSn := HS.out.row hR6 hB6
          obtain ⟨A6, c6, hv6, hc6, hC6⟩ := HSn.rowC 0 rfl
          subst hv6
          have HC6 := Go.Lib.hid hC6
          clear hC6 hR6 hB6
          refine ⟨_, rfl, ?_⟩
          refine hK.out _ _ ⟨HSn.c4 1 _ _ _ _ _ _ rfl, HSn.c6 3 _ _ _ _ _ _ _ _ rfl⟩ (fun hHeld => ?_)
          clear hK K
          refine norm_ (a' := ?_) ?_ ?_
          rotate_left
          ·show Act.put _ (some 113) _ = _
           simp only [Act.put, List.setIfInBounds_toArray, List.set_cons_zero, List.set_cons_succ, i64_w, i32_w]
           rfl
          refine one_ (i := 3) (N := some 114) #[true, true, true, true, false, false, false, false] rfl rfl (by kernel_rfl) (by decide) (fun K hK => ?_)
          refine goes_ Try.func96 (by kernel_rfl) rfl #[.agg #[.int .i64 s.f0, .int .i64 s.f1, .slice B2 s.f2.length d2, .slice B3 s.f3.length d3], .slice A6 (ps.map S84.f0).length c6] (by rfl) rfl rfl (by (try simp only [List.map_toArray, List.map_cons, List.map_nil]); first | done | rfl) ?_
          refine (countwheelref13_Check.calls KC s.f0 s.f1 B2 d2 s.f2 B3 d3 s.f3 A6 c6 (ps.map S84.f0) q1 q2 _ (HSn.C HP2.out) hd2 (HSn.C HP3.out) hd3 HC6.out hc6 HQ.out).mono ?_
          rintro e w93 ⟨rfl, hB6⟩
          have HSm := HSn.then_ hB6
          refine ⟨_, rfl, ?_⟩
          refine hK.out _ _ ⟨HSm.c4 1 _ _ _ _ _ _ rfl, HSm.c6 3 _ _ _ _ _ _ _ _ rfl⟩ (fun hHeld => ?_)
          clear hK K
          refine norm_ (a' := ?_) ?_ ?_
          rotate_left
          ·show Act.put _ (some 114) _ = _
           simp only [Act.put, List.setIfInBounds_toArray, List.set_cons_zero, List.set_cons_succ, i64_w, i32_w]
           rfl
          refine pure_ (i := 4) (N := some 110) (v := ?_) (a' := ?_) #[true, true, true, true, true, false, false, false] rfl rfl (by kernel_rfl) (fun _ _ _ h => h) (Or.inl ⟨by rfl, ?_⟩) ?_ ?_
          rotate_left
          ·intro w'
           go_simp
           with_reducible rfl
          rotate_left
          ·simp only [Act.put, List.setIfInBounds_toArray, List.set_cons_zero, List.set_cons_succ, i64_w, i32_w]
           rfl
          refine pure_ (i := 5) (N := some 115) (v := ?_) (a' := ?_) #[true, true, true, true, true, true, false, false] rfl rfl (by kernel_rfl) (fun _ _ _ h => h) (Or.inl ⟨by rfl, ?_⟩) ?_ ?_
          rotate_left
          ·intro w'
           go_simp
           with_reducible rfl
          rotate_left
          ·simp only [Act.put, List.setIfInBounds_toArray, List.set_cons_zero, List.set_cons_succ, i64_w, i32_w]
           rfl
          refine pure_ (i := 6) (N := some 116) (v := ?_) (a' := ?_) #[true, true, true, true, true, true, true, false] rfl rfl (by kernel_rfl) (fun _ _ _ h => h) (Or.inl ⟨by rfl, ?_⟩) ?_ ?_
          rotate_left
          ·intro w'
           go_simp
           with_reducible rfl
          rotate_left
          ·simp only [Act.put, List.setIfInBounds_toArray, List.set_cons_zero, List.set_cons_succ, i64_w, i32_w]
           rfl
          refine pure_ (i := 7) (N := some 9) (v := ?_) (a' := ?_) #[true, true, true, true, true, true, true, true] rfl rfl (by kernel_rfl) (fun _ _ _ h => h) (Or.inl ⟨by rfl, ?_⟩) ?_ ?_
          rotate_left
          ·intro w'
           go_simp
           with_reducible rfl
          rotate_left
          ·simp only [Act.put, List.setIfInBounds_toArray, List.set_cons_zero, List.set_cons_succ, i64_w, i32_w]
           rfl
          refine done_ (by kernel_rfl) ?_
          replace HS := Go.Lib.hid HSm.drop
          clear HSm HSn HC6
          obtain ⟨c0_0, c0_1, c0_2, c0_3⟩ := HS.out.c4 0 _ _ _ _ _ _ rfl
          obtain ⟨c1_0, c1_1, c1_2⟩ := HS.out.c3 1 _ _ _ _ _ rfl
          obtain ⟨c2_0, c2_1, c2_2, c2_3, c2_4, c2_5⟩ := HS.out.c6 2 _ _ _ _ _ _ _ _ rfl
          by_cases hq0 : q2 = 0
          ·have dq : (q2 == 0) = true := by rw [beq_iff_eq]; exact hq0
           have HQ0 := Go.Lib.hid hq0
           clear hq0
           go_upto_region 27 with (fail)
           clear c0_0 c0_1 c0_2 c0_3 c1_0 c1_1 c1_2 c2_0 c2_1 c2_2 c2_3 c2_4 c2_5
           replace HS := Go.Lib.hid HS.out.drew
           refine start_ (n := 8) (S := fun w' => (w'.cell? ⟨g8, 0, none⟩ = some (.int .i64 s.f0) ∧ w'.cell? ⟨g8, 1, none⟩ = some (.int .i64 s.f1) ∧ w'.cell? ⟨g8, 2, none⟩ = some (.slice B2 s.f2.length d2) ∧ w'.cell? ⟨g8, 3, none⟩ = some (.slice B3 s.f3.length d3)) ∧ (w'.cell? ⟨gM, 0, none⟩ = some (.int .u64 ep) ∧ w'.cell? ⟨gM, 1, none⟩ = some (.int .i64 fi) ∧ w'.cell? ⟨gM, 2, none⟩ = some (.slice A2 ps.length c2) ∧ w'.cell? ⟨gM, 3, none⟩ = some (.slice (some ad) ss.length c3) ∧ w'.cell? ⟨gM, 4, none⟩ = some (.slice A4 qs.length c4) ∧ w'.cell? ⟨gM, 5, none⟩ = some (.slice A5 av.length c5))) (ds := []) #[false, false, false, false, false, false, false, false] (by kernel_rfl) rfl rfl ⟨HS.out.c4 0 _ _ _ _ _ _ rfl, HS.out.c6 2 _ _ _ _ _ _ _ _ rfl⟩ (fun hHeld => ?_)
           generalize w93.drew = W_ at *
           refine take_ (i := 0) (N := some 120) (v := ?_) (a' := ?_) #[true, false, false, false, false, false, false, false] rfl rfl (by kernel_rfl) (fun _ _ _ h => h) (Or.inl ⟨by rfl, ?_⟩) hHeld ?_ ?_
           rotate_left
           ·rintro w' ⟨⟨s0, s1, s2, s3⟩, s4, s5, s6, s7, s8, s9⟩
            go_simp
            with_reducible rfl
           rotate_left
           ·simp only [Act.put, List.setIfInBounds_toArray, List.set_cons_zero, List.set_cons_succ, i64_w, i32_w]
            rfl
           refine take_ (i := 1) (N := some 121) (v := ?_) (a' := ?_) #[true, true, false, false, false, false, false, false] rfl rfl (by kernel_rfl) (fun _ _ _ h => h) (Or.inl ⟨by rfl, ?_⟩) hHeld ?_ ?_
           rotate_left
           ·rintro w' ⟨⟨s0, s1, s2, s3⟩, s4, s5, s6, s7, s8, s9⟩
            go_simp
            with_reducible rfl
           rotate_left
           ·simp only [Act.put, List.setIfInBounds_toArray, List.set_cons_zero, List.set_cons_succ, i64_w, i32_w]
            rfl
           refine one_ (i := 2) (N := some 122) #[true, true, true, false, false, false, false, false] rfl rfl (by kernel_rfl) (by decide) (fun K hK => ?_)
           refine goes_ Try.func80 (by kernel_rfl) rfl #[.agg #[.int .u64 ep, .int .i64 fi, .slice A2 ps.length c2, .slice (some ad) ss.length c3, .slice A4 qs.length c4, .slice A5 av.length c5]] (by rfl) rfl rfl (by (try simp only [List.map_toArray, List.map_cons, List.map_nil]); first | done | rfl) ?_
           refine (countwheelref16_Parts.calls KP ep fi A2 c2 ps (some ad) c3 ss A4 c4 qs A5 c5 av (ps.map S84.f0) _ (HS.out.C HR2.out) hc2 (HS.out.C HR3.out) hc3 (HS.out.C HR4.out) hc4 (HS.out.C HR5.out) hc5 HPS.out).mono ?_
           rintro e w92 ⟨v6, rfl, hR6, hB6⟩
           have HSn := HS.out.row hR6 hB6
           obtain ⟨A6, c6, hv6, hc6, hC6⟩ := HSn.rowC 0 rfl
           subst hv6
           have HC6 := Go.Lib.hid hC6
           clear hC6 hR6 hB6
           refine ⟨_, rfl, ?_⟩
           refine hK.out _ _ ⟨HSn.c4 1 _ _ _ _ _ _ rfl, HSn.c6 3 _ _ _ _ _ _ _ _ rfl⟩ (fun hHeld => ?_)
           clear hK K
           refine norm_ (a' := ?_) ?_ ?_
           rotate_left
           ·show Act.put _ (some 122) _ = _
            simp only [Act.put, List.setIfInBounds_toArray, List.set_cons_zero, List.set_cons_succ, i64_w, i32_w]
            rfl
           refine one_ (i := 3) (N := some 123) #[true, true, true, true, false, false, false, false] rfl rfl (by kernel_rfl) (by decide) (fun K hK => ?_)
           refine goes_ Try.func97 (by kernel_rfl) rfl #[.agg #[.int .i64 s.f0, .int .i64 s.f1, .slice B2 s.f2.length d2, .slice B3 s.f3.length d3], .slice A6 (ps.map S84.f0).length c6] (by rfl) rfl rfl (by (try simp only [List.map_toArray, List.map_cons, List.map_nil]); first | done | rfl) ?_
           refine (countwheelref14_Check.calls KD s.f0 s.f1 B2 d2 s.f2 B3 d3 s.f3 A6 c6 (ps.map S84.f0) t1 t2 _ (HSn.C HP2.out) hd2 (HSn.C HP3.out) hd3 HC6.out hc6 HT.out).mono ?_
           rintro e w93 ⟨rfl, hB6⟩
           have HSm := HSn.then_ hB6
           refine ⟨_, rfl, ?_⟩
           refine hK.out _ _ ⟨HSm.c4 1 _ _ _ _ _ _ rfl, HSm.c6 3 _ _ _ _ _ _ _ _ rfl⟩ (fun hHeld => ?_)
           clear hK K
           refine norm_ (a' := ?_) ?_ ?_
           rotate_left
           ·show Act.put _ (some 123) _ = _
            simp only [Act.put, List.setIfInBounds_toArray, List.set_cons_zero, List.set_cons_succ, i64_w, i32_w]
            rfl
           refine pure_ (i := 4) (N := some 119) (v := ?_) (a' := ?_) #[true, true, true, true, true, false, false, false] rfl rfl (by kernel_rfl) (fun _ _ _ h => h) (Or.inl ⟨by rfl, ?_⟩) ?_ ?_
           rotate_left
           ·intro w'
            go_simp
            with_reducible rfl
           rotate_left
           ·simp only [Act.put, List.setIfInBounds_toArray, List.set_cons_zero, List.set_cons_succ, i64_w, i32_w]
            rfl
           refine pure_ (i := 5) (N := some 124) (v := ?_) (a' := ?_) #[true, true, true, true, true, true, false, false] rfl rfl (by kernel_rfl) (fun _ _ _ h => h) (Or.inl ⟨by rfl, ?_⟩) ?_ ?_
           rotate_left
           ·intro w'
            go_simp
            with_reducible rfl
           rotate_left
           ·simp only [Act.put, List.setIfInBounds_toArray, List.set_cons_zero, List.set_cons_succ, i64_w, i32_w]
            rfl
           refine pure_ (i := 6) (N := some 125) (v := ?_) (a' := ?_) #[true, true, true, true, true, true, true, false] rfl rfl (by kernel_rfl) (fun _ _ _ h => h) (Or.inl ⟨by rfl, ?_⟩) ?_ ?_
           rotate_left
           ·intro w'
            go_simp
            with_reducible rfl
           rotate_left
           ·simp only [Act.put, List.setIfInBounds_toArray, List.set_cons_zero, List.set_cons_succ, i64_w, i32_w]
            rfl
           refine pure_ (i := 7) (N := some 9) (v := ?_) (a' := ?_) #[true, true, true, true, true, true, true, true] rfl rfl (by kernel_rfl) (fun _ _ _ h => h) (Or.inl ⟨by rfl, ?_⟩) ?_ ?_
           rotate_left
           ·intro w'
            go_simp
            with_reducible rfl
           rotate_left
           ·simp only [Act.put, List.setIfInBounds_toArray, List.set_cons_zero, List.set_cons_succ, i64_w, i32_w]
            rfl
           refine done_ (by kernel_rfl) ?_
           replace HS := Go.Lib.hid HSm.drop
           clear HSm HSn HC6
           obtain ⟨c0_0, c0_1, c0_2, c0_3⟩ := HS.out.c4 0 _ _ _ _ _ _ rfl
           obtain ⟨c1_0, c1_1, c1_2⟩ := HS.out.c3 1 _ _ _ _ _ rfl
           obtain ⟨c2_0, c2_1, c2_2, c2_3, c2_4, c2_5⟩ := HS.out.c6 2 _ _ _ _ _ _ _ _ rfl
           by_cases ht0 : t2 = 0
           ·have dz : (t2 != 0) = false := by rw [bne_eq_false_iff_eq]; exact ht0
            clear ht0
            go_wp2_with fail
            go_roundw
            case rel => exact ⟨k + 1, hlt, rfl, srise_step HSR.out (fun h0 => by have := HB.out (by first | trivial | rfl) HR0.out h0; rw [HPE.out] at this; unfold rd_T46 at this; rwa [Int.toNat_natCast] at this) (by have h1 := HPE.out; unfold rd_T46 at h1; rw [Int.toNat_natCast] at h1; rw [← h1]; exact ⟨HSI.out, HQO.out HQ0.out HSI.out.fr1⟩), HS.out.drop⟩
            case measure => simp [intOf]; omega
           ·have dz : (t2 != 0) = true := by rw [bne_iff_ne]; exact ht0
            have HT0 := Go.Lib.hid ht0
            clear ht0 c0_0 c0_1 c0_2 c0_3 c1_0 c1_1 c1_2 c2_0 c2_1 c2_2 c2_3 c2_4 c2_5
            obtain ⟨c0_0, c0_1, c0_2, c0_3⟩ := HS.out.c4 0 _ _ _ _ _ _ rfl
            obtain ⟨c1_0, c1_1, c1_2⟩ := HS.out.c3 1 _ _ _ _ _ rfl
            obtain ⟨c2_0, c2_1, c2_2, c2_3, c2_4, c2_5⟩ := HS.out.c6 2 _ _ _ _ _ _ _ _ rfl
            go_wp2_with (first | (go_at_call 77; refine bad_any _ _ _ _ ?_; intro w71_ hB; replace HS := Go.Lib.hid (HS.out.then_ hB); clear hB; clear c0_0 c0_1 c0_2 c0_3 c1_0 c1_1 c1_2 c2_0 c2_1 c2_2 c2_3 c2_4 c2_5; obtain ⟨c0_0, c0_1, c0_2, c0_3⟩ := HS.out.c4 0 _ _ _ _ _ _ rfl; obtain ⟨c1_0, c1_1, c1_2⟩ := HS.out.c3 1 _ _ _ _ _ rfl; obtain ⟨c2_0, c2_1, c2_2, c2_3, c2_4, c2_5⟩ := HS.out.c6 2 _ _ _ _ _ _ _ _ rfl) | ((with_reducible refine gate_store (p := 2) rfl ?_); refine Sl.storeAll_st HS.out 1 gF 80 _ rfl [.int .i64 t2, .int .i64 3, .int .i64 k] rfl (by rfl) (by rfl) ?hr ?_; (case hr => have f_ := HS.out.f3 1 _ _ _ _ _ rfl; (try obtain ⟨f0, f1, f2⟩ := f_); first | (go_simp; done) | (go_simp; rfl)); intro w71_ HSn; replace HS : Hid (St (SL.blk g8 46 #[.int .i64 s.f0, .int .i64 s.f1, .slice B2 s.f2.length d2, .slice B3 s.f3.length d3] :: SL.blk gF 80 #[.int .i64 t2, .int .i64 3, .int .i64 k] :: SL.blk gM 28 #[.int .u64 ep, .int .i64 fi, .slice A2 ps.length c2, .slice (some ad) ss.length c3, .slice A4 qs.length c4, .slice A5 av.length c5] :: []) w w71_) := Go.Lib.hid HSn; clear HSn; clear c0_0 c0_1 c0_2 c0_3 c1_0 c1_1 c1_2 c2_0 c2_1 c2_2 c2_3 c2_4 c2_5; obtain ⟨c0_0, c0_1, c0_2, c0_3⟩ := HS.out.c4 0 _ _ _ _ _ _ rfl; obtain ⟨c1_0, c1_1, c1_2⟩ := HS.out.c3 1 _ _ _ _ _ rfl; obtain ⟨c2_0, c2_1, c2_2, c2_3, c2_4, c2_5⟩ := HS.out.c6 2 _ _ _ _ _ _ _ _ rfl))
            refine bodyPost_ret (v := .agg #[.int .i64 t2, .int .i64 3, .int .i64 k]) (results_cell_row (by rfl) _ _ gF 80 _ (0, 0) _ (by rfl) (HS.out.heap 1 _ _ _ rfl) Try.underlying80 rfl infoF) rfl ⟨_, _, _, rfl, fun h => absurd h HT0.out, HS.out.below⟩
          ·have dq : (q2 == 0) = false := by rw [beq_eq_false_iff_ne]; exact hq0
           have dz : (q2 != 0) = true := by rw [bne_iff_ne]; exact hq0
           have HQ0 := Go.Lib.hid hq0
           clear hq0 c0_0 c0_1 c0_2 c0_3 c1_0 c1_1 c1_2 c2_0 c2_1 c2_2 c2_3 c2_4 c2_5
           obtain ⟨c0_0, c0_1, c0_2, c0_3⟩ := HS.out.c4 0 _ _ _ _ _ _ rfl
           obtain ⟨c1_0, c1_1, c1_2⟩ := HS.out.c3 1 _ _ _ _ _ rfl
           obtain ⟨c2_0, c2_1, c2_2, c2_3, c2_4, c2_5⟩ := HS.out.c6 2 _ _ _ _ _ _ _ _ rfl
           go_wp2_with (first | (go_at_call 77; refine bad_any _ _ _ _ ?_; intro w71_ hB; replace HS := Go.Lib.hid (HS.out.then_ hB); clear hB; clear c0_0 c0_1 c0_2 c0_3 c1_0 c1_1 c1_2 c2_0 c2_1 c2_2 c2_3 c2_4 c2_5; obtain ⟨c0_0, c0_1, c0_2, c0_3⟩ := HS.out.c4 0 _ _ _ _ _ _ rfl; obtain ⟨c1_0, c1_1, c1_2⟩ := HS.out.c3 1 _ _ _ _ _ rfl; obtain ⟨c2_0, c2_1, c2_2, c2_3, c2_4, c2_5⟩ := HS.out.c6 2 _ _ _ _ _ _ _ _ rfl) | ((with_reducible refine gate_store (p := 2) rfl ?_); refine Sl.storeAll_st HS.out 1 gF 80 _ rfl [.int .i64 q2, .int .i64 3, .int .i64 k] rfl (by rfl) (by rfl) ?hr ?_; (case hr => have f_ := HS.out.f3 1 _ _ _ _ _ rfl; (try obtain ⟨f0, f1, f2⟩ := f_); first | (go_simp; done) | (go_simp; rfl)); intro w71_ HSn; replace HS : Hid (St (SL.blk g8 46 #[.int .i64 s.f0, .int .i64 s.f1, .slice B2 s.f2.length d2, .slice B3 s.f3.length d3] :: SL.blk gF 80 #[.int .i64 q2, .int .i64 3, .int .i64 k] :: SL.blk gM 28 #[.int .u64 ep, .int .i64 fi, .slice A2 ps.length c2, .slice (some ad) ss.length c3, .slice A4 qs.length c4, .slice A5 av.length c5] :: []) w w71_) := Go.Lib.hid HSn; clear HSn; clear c0_0 c0_1 c0_2 c0_3 c1_0 c1_1 c1_2 c2_0 c2_1 c2_2 c2_3 c2_4 c2_5; obtain ⟨c0_0, c0_1, c0_2, c0_3⟩ := HS.out.c4 0 _ _ _ _ _ _ rfl; obtain ⟨c1_0, c1_1, c1_2⟩ := HS.out.c3 1 _ _ _ _ _ rfl; obtain ⟨c2_0, c2_1, c2_2, c2_3, c2_4, c2_5⟩ := HS.out.c6 2 _ _ _ _ _ _ _ _ rfl))
           refine bodyPost_ret (v := .agg #[.int .i64 q2, .int .i64 3, .int .i64 k]) (results_cell_row (by rfl) _ _ gF 80 _ (0, 0) _ (by rfl) (HS.out.heap 1 _ _ _ rfl) Try.underlying80 rfl infoF) rfl ⟨_, _, _, rfl, fun h => absurd h HQ0.out, HS.out.below⟩
         ·have d0 : (r == 0) = false := by rw [beq_eq_false_iff_ne]; exact hr0
          have dz : (r != 0) = true := by rw [bne_iff_ne]; exact hr0
          have HR0 := Go.Lib.hid hr0
          clear hr0 c0_0 c0_1 c0_2 c0_3 c1_0 c1_1 c1_2 c2_0 c2_1 c2_2 c2_3 c2_4 c2_5
          obtain ⟨c0_0, c0_1, c0_2, c0_3⟩ := HS.out.c4 0 _ _ _ _ _ _ rfl
          obtain ⟨c1_0, c1_1, c1_2⟩ := HS.out.c3 1 _ _ _ _ _ rfl
          obtain ⟨c2_0, c2_1, c2_2, c2_3, c2_4, c2_5⟩ := HS.out.c6 2 _ _ _ _ _ _ _ _ rfl
          go_wp2_with (first | (go_at_call 77; refine bad_any _ _ _ _ ?_; intro w71_ hB; replace HS := Go.Lib.hid (HS.out.then_ hB); clear hB; clear c0_0 c0_1 c0_2 c0_3 c1_0 c1_1 c1_2 c2_0 c2_1 c2_2 c2_3 c2_4 c2_5; obtain ⟨c0_0, c0_1, c0_2, c0_3⟩ := HS.out.c4 0 _ _ _ _ _ _ rfl; obtain ⟨c1_0, c1_1, c1_2⟩ := HS.out.c3 1 _ _ _ _ _ rfl; obtain ⟨c2_0, c2_1, c2_2, c2_3, c2_4, c2_5⟩ := HS.out.c6 2 _ _ _ _ _ _ _ _ rfl) | ((with_reducible refine gate_store (p := 2) rfl ?_); refine Sl.storeAll_st HS.out 1 gF 80 _ rfl [.int .i64 r, .int .i64 3, .int .i64 k] rfl (by rfl) (by rfl) ?hr ?_; (case hr => have f_ := HS.out.f3 1 _ _ _ _ _ rfl; (try obtain ⟨f0, f1, f2⟩ := f_); first | (go_simp; done) | (go_simp; rfl)); intro w71_ HSn; replace HS : Hid (St (SL.blk g8 46 #[.int .i64 s.f0, .int .i64 s.f1, .slice B2 s.f2.length d2, .slice B3 s.f3.length d3] :: SL.blk gF 80 #[.int .i64 r, .int .i64 3, .int .i64 k] :: SL.blk gM 28 #[.int .u64 ep, .int .i64 fi, .slice A2 ps.length c2, .slice (some ad) ss.length c3, .slice A4 qs.length c4, .slice A5 av.length c5] :: []) w w71_) := Go.Lib.hid HSn; clear HSn; clear c0_0 c0_1 c0_2 c0_3 c1_0 c1_1 c1_2 c2_0 c2_1 c2_2 c2_3 c2_4 c2_5; obtain ⟨c0_0, c0_1, c0_2, c0_3⟩ := HS.out.c4 0 _ _ _ _ _ _ rfl; obtain ⟨c1_0, c1_1, c1_2⟩ := HS.out.c3 1 _ _ _ _ _ rfl; obtain ⟨c2_0, c2_1, c2_2, c2_3, c2_4, c2_5⟩ := HS.out.c6 2 _ _ _ _ _ _ _ _ rfl))
          refine bodyPost_ret (v := .agg #[.int .i64 r, .int .i64 3, .int .i64 k]) (results_cell_row (by rfl) _ _ gF 80 _ (0, 0) _ (by rfl) (HS.out.heap 1 _ _ _ rfl) Try.underlying80 rfl infoF) rfl ⟨_, _, _, rfl, fun h => absurd h HR0.out, HS.out.below⟩
        ·clear c0_0 c0_1 c0_2 c0_3 c1_0 c1_1 c1_2 c2_0 c2_1 c2_2 c2_3 c2_4 c2_5
         obtain ⟨c0_0, c0_1, c0_2, c0_3⟩ := HS.out.c4 0 _ _ _ _ _ _ rfl
         obtain ⟨c1_0, c1_1, c1_2⟩ := HS.out.c3 1 _ _ _ _ _ rfl
         obtain ⟨c2_0, c2_1, c2_2, c2_3, c2_4, c2_5⟩ := HS.out.c6 2 _ _ _ _ _ _ _ _ rfl
         go_wp2_with (first | (go_at_call 77; refine bad_any _ _ _ _ ?_; intro w71_ hB; replace HS := Go.Lib.hid (HS.out.then_ hB); clear hB; clear c0_0 c0_1 c0_2 c0_3 c1_0 c1_1 c1_2 c2_0 c2_1 c2_2 c2_3 c2_4 c2_5; obtain ⟨c0_0, c0_1, c0_2, c0_3⟩ := HS.out.c4 0 _ _ _ _ _ _ rfl; obtain ⟨c1_0, c1_1, c1_2⟩ := HS.out.c3 1 _ _ _ _ _ rfl; obtain ⟨c2_0, c2_1, c2_2, c2_3, c2_4, c2_5⟩ := HS.out.c6 2 _ _ _ _ _ _ _ _ rfl) | ((with_reducible refine gate_store (p := 2) rfl ?_); refine Sl.storeAll_st HS.out 1 gF 80 _ rfl [.int .i64 9, .int .i64 3, .int .i64 k] rfl (by rfl) (by rfl) ?hr ?_; (case hr => have f_ := HS.out.f3 1 _ _ _ _ _ rfl; (try obtain ⟨f0, f1, f2⟩ := f_); first | (go_simp; done) | (go_simp; rfl)); intro w71_ HSn; replace HS : Hid (St (SL.blk g8 46 #[.int .i64 s.f0, .int .i64 s.f1, .slice B2 s.f2.length d2, .slice B3 s.f3.length d3] :: SL.blk gF 80 #[.int .i64 9, .int .i64 3, .int .i64 k] :: SL.blk gM 28 #[.int .u64 ep, .int .i64 fi, .slice A2 ps.length c2, .slice (some ad) ss.length c3, .slice A4 qs.length c4, .slice A5 av.length c5] :: []) w w71_) := Go.Lib.hid HSn; clear HSn; clear c0_0 c0_1 c0_2 c0_3 c1_0 c1_1 c1_2 c2_0 c2_1 c2_2 c2_3 c2_4 c2_5; obtain ⟨c0_0, c0_1, c0_2, c0_3⟩ := HS.out.c4 0 _ _ _ _ _ _ rfl; obtain ⟨c1_0, c1_1, c1_2⟩ := HS.out.c3 1 _ _ _ _ _ rfl; obtain ⟨c2_0, c2_1, c2_2, c2_3, c2_4, c2_5⟩ := HS.out.c6 2 _ _ _ _ _ _ _ _ rfl))
         refine bodyPost_ret (v := .agg #[.int .i64 9, .int .i64 3, .int .i64 k]) (results_cell_row (by rfl) _ _ gF 80 _ (0, 0) _ (by rfl) (HS.out.heap 1 _ _ _ rfl) Try.underlying80 rfl infoF) rfl ⟨_, _, _, rfl, fun h => by omega, HS.out.below⟩
      ·obtain rfl : k = ss.length := by omega
       clear hk hlt
       by_cases hs1 : (ss.length : Int) < 1
       ·have d0 : decide ((ss.length : Int) < 1) = true := by simpa using hs1
        clear hs1 c0_0 c0_1 c0_2 c1_0 c1_1 c1_2 c1_3 c1_4 c1_5
        obtain ⟨c0_0, c0_1, c0_2⟩ := HS.out.c3 0 _ _ _ _ _ rfl
        obtain ⟨c1_0, c1_1, c1_2, c1_3, c1_4, c1_5⟩ := HS.out.c6 1 _ _ _ _ _ _ _ _ rfl
        go_wp2_with (first | (go_at_call 77; refine bad_any _ _ _ _ ?_; intro w71_ hB; replace HS := Go.Lib.hid (HS.out.then_ hB); clear hB; clear c0_0 c0_1 c0_2 c1_0 c1_1 c1_2 c1_3 c1_4 c1_5; obtain ⟨c0_0, c0_1, c0_2⟩ := HS.out.c3 0 _ _ _ _ _ rfl; obtain ⟨c1_0, c1_1, c1_2, c1_3, c1_4, c1_5⟩ := HS.out.c6 1 _ _ _ _ _ _ _ _ rfl) | ((with_reducible refine gate_store (p := 2) rfl ?_); refine Sl.storeAll_st HS.out 0 gF 80 _ rfl [.int .i64 8, .int .i64 3, .int .i64 0] rfl (by rfl) (by rfl) ?hr ?_; (case hr => have f_ := HS.out.f3 0 _ _ _ _ _ rfl; (try obtain ⟨f0, f1, f2⟩ := f_); first | (go_simp; done) | (go_simp; rfl)); intro w71_ HSn; replace HS : Hid (St (SL.blk gF 80 #[.int .i64 8, .int .i64 3, .int .i64 0] :: SL.blk gM 28 #[.int .u64 ep, .int .i64 fi, .slice A2 ps.length c2, .slice A3 ss.length c3, .slice A4 qs.length c4, .slice A5 av.length c5] :: []) w w71_) := Go.Lib.hid HSn; clear HSn; clear c0_0 c0_1 c0_2 c1_0 c1_1 c1_2 c1_3 c1_4 c1_5; obtain ⟨c0_0, c0_1, c0_2⟩ := HS.out.c3 0 _ _ _ _ _ rfl; obtain ⟨c1_0, c1_1, c1_2, c1_3, c1_4, c1_5⟩ := HS.out.c6 1 _ _ _ _ _ _ _ _ rfl))
        refine bodyPost_ret (v := .agg #[.int .i64 8, .int .i64 3, .int .i64 0]) (results_cell_row (by rfl) _ _ gF 80 _ (0, 0) _ (by rfl) (HS.out.heap 0 _ _ _ rfl) Try.underlying80 rfl infoF) rfl ⟨_, _, _, rfl, fun h => by omega, HS.out.below⟩
       ·have d0 : decide ((ss.length : Int) < 1) = false := by simpa using hs1
        by_cases hs2 : (16 : Int) < ss.length
        ·have d1 : decide ((16 : Int) < (ss.length : Int)) = true := by simpa using hs2
         clear hs2 c0_0 c0_1 c0_2 c1_0 c1_1 c1_2 c1_3 c1_4 c1_5
         obtain ⟨c0_0, c0_1, c0_2⟩ := HS.out.c3 0 _ _ _ _ _ rfl
         obtain ⟨c1_0, c1_1, c1_2, c1_3, c1_4, c1_5⟩ := HS.out.c6 1 _ _ _ _ _ _ _ _ rfl
         go_wp2_with (first | (go_at_call 77; refine bad_any _ _ _ _ ?_; intro w71_ hB; replace HS := Go.Lib.hid (HS.out.then_ hB); clear hB; clear c0_0 c0_1 c0_2 c1_0 c1_1 c1_2 c1_3 c1_4 c1_5; obtain ⟨c0_0, c0_1, c0_2⟩ := HS.out.c3 0 _ _ _ _ _ rfl; obtain ⟨c1_0, c1_1, c1_2, c1_3, c1_4, c1_5⟩ := HS.out.c6 1 _ _ _ _ _ _ _ _ rfl) | ((with_reducible refine gate_store (p := 2) rfl ?_); refine Sl.storeAll_st HS.out 0 gF 80 _ rfl [.int .i64 8, .int .i64 3, .int .i64 0] rfl (by rfl) (by rfl) ?hr ?_; (case hr => have f_ := HS.out.f3 0 _ _ _ _ _ rfl; (try obtain ⟨f0, f1, f2⟩ := f_); first | (go_simp; done) | (go_simp; rfl)); intro w71_ HSn; replace HS : Hid (St (SL.blk gF 80 #[.int .i64 8, .int .i64 3, .int .i64 0] :: SL.blk gM 28 #[.int .u64 ep, .int .i64 fi, .slice A2 ps.length c2, .slice A3 ss.length c3, .slice A4 qs.length c4, .slice A5 av.length c5] :: []) w w71_) := Go.Lib.hid HSn; clear HSn; clear c0_0 c0_1 c0_2 c1_0 c1_1 c1_2 c1_3 c1_4 c1_5; obtain ⟨c0_0, c0_1, c0_2⟩ := HS.out.c3 0 _ _ _ _ _ rfl; obtain ⟨c1_0, c1_1, c1_2, c1_3, c1_4, c1_5⟩ := HS.out.c6 1 _ _ _ _ _ _ _ _ rfl))
         refine bodyPost_ret (v := .agg #[.int .i64 8, .int .i64 3, .int .i64 0]) (results_cell_row (by rfl) _ _ gF 80 _ (0, 0) _ (by rfl) (HS.out.heap 0 _ _ _ rfl) Try.underlying80 rfl infoF) rfl ⟨_, _, _, rfl, fun h => by omega, HS.out.below⟩
        ·have d1 : decide ((16 : Int) < (ss.length : Int)) = false := by simpa using hs2
         have HS1 := Go.Lib.hid hs1
         clear hs1 hs2
         clear c0_0 c0_1 c0_2 c1_0 c1_1 c1_2 c1_3 c1_4 c1_5
         obtain ⟨c0_0, c0_1, c0_2⟩ := HS.out.c3 0 _ _ _ _ _ rfl
         obtain ⟨c1_0, c1_1, c1_2, c1_3, c1_4, c1_5⟩ := HS.out.c6 1 _ _ _ _ _ _ _ _ rfl
         go_wp2_with (first | ((with_reducible refine gate_store (p := 2) rfl ?_); refine Sl.storeAll_st HS.out 0 gF 80 _ rfl [.int .i64 0, .int .i64 0, .int .i64 0] rfl (by rfl) (by rfl) ?hr ?_; (case hr => have f_ := HS.out.f3 0 _ _ _ _ _ rfl; (try obtain ⟨f0, f1, f2⟩ := f_); first | (go_simp; done) | (go_simp; rfl)); intro w71_ HSn; replace HS : Hid (St (SL.blk gF 80 #[.int .i64 0, .int .i64 0, .int .i64 0] :: SL.blk gM 28 #[.int .u64 ep, .int .i64 fi, .slice A2 ps.length c2, .slice A3 ss.length c3, .slice A4 qs.length c4, .slice A5 av.length c5] :: []) w w71_) := Go.Lib.hid HSn; clear HSn; clear c0_0 c0_1 c0_2 c1_0 c1_1 c1_2 c1_3 c1_4 c1_5; obtain ⟨c0_0, c0_1, c0_2⟩ := HS.out.c3 0 _ _ _ _ _ rfl; obtain ⟨c1_0, c1_1, c1_2, c1_3, c1_4, c1_5⟩ := HS.out.c6 1 _ _ _ _ _ _ _ _ rfl))
         refine bodyPost_ret (v := .agg #[.int .i64 0, .int .i64 0, .int .i64 0]) (results_cell_row (by rfl) _ _ gF 80 _ (0, 0) _ (by rfl) (HS.out.heap 0 _ _ _ rfl) Try.underlying80 rfl infoF) rfl ⟨_, _, _, rfl, fun _ => two_ok HPR.out HSR.out (by have := HP1.out; omega) (by have := HS1.out; omega), HS.out.below⟩
end Go.Proofs.Ytnniejaknnpcjaa.Fin
