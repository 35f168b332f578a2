/- HyperNumbers: the walk. -/
import Derived.Test.YtnniejaknnpcjaaYFin4
import Derived.Test.YtnniejaknnpcjaaYHypB
import Derived.Test.YtnniejaknnpcjaaYOpm
namespace Go.Proofs.Ytnniejaknnpcjaa.Hyp
open Go.RowKit Go.Proofs.YtnniejaknnpcjaaW.PrintWords Go.Proofs.YtnniejaknnpcjaaW.PrintLast Go.Proofs.YtnniejaknnpcjaaW.PrintMore Go.Proofs.Ytnniejaknnpcjaa.Mine Go.Proofs.Ytnniejaknnpcjaa.PHyperNumbers
open Go.Proofs.Ytnniejaknnpcjaa.Sl (SL Stp Chg St No)
set_option linter.unusedVariables false
set_option linter.unusedSimpArgs false
attribute [local go_sem] max2_int min2_int max_two min_two max_three min_three max_four min_four
set_option maxHeartbeats 12800000 in
set_option maxRecDepth 100000 in
theorem hyper_raw (w : World) (a b x y : Int) (x0 : 0 ≤ x) (x1 : x ≤ 18446744073709551615) (y0 : 0 ≤ y) (y1 : y ≤ 18446744073709551615) (ep fi : Int) (A2 : Option Addr) (c2 : Nat) (ps : List S84) (A3 : Option Addr) (c3 : Nat) (ss : List S46) (A4 : Option Addr) (c4 : Nat) (qs : List S95) (A5 : Option Addr) (c5 : Nat) (av : List S125) (hr2 : Kd.C k84 w A2 ps.length ps) (hc2 : ps.length ≤ c2) (hr3 : Kd.C k46 w A3 ss.length ss) (hc3 : ss.length ≤ c3) (hr4 : Kd.C k95 w A4 qs.length qs) (hc4 : qs.length ≤ c4) (hr5 : Kd.C k125 w A5 av.length av) (hc5 : av.length ≤ c5) (hnm : ∀ p ∈ ps, p.f1.size ≤ 9223372036854775807) :
  Calls Try.prog 6 #[.int .i64 a, .int .i64 b, .int .u64 x, .int .u64 y, .agg #[.int .u64 ep, .int .i64 fi, .slice A2 ps.length c2, .slice A3 ss.length c3, .slice A4 qs.length c4, .slice A5 av.length c5]] w fun e w' => e = .returned (.bool true) ∧ Below w.heap.size w w' := by
 obtain ⟨KM, hKM⟩ : ∃ KM, KM = y.toNat + 3 := ⟨_, rfl⟩
 obtain ⟨KN, hKN⟩ : ∃ KN, KN = 2 * (x + y).toNat + 71 := ⟨_, rfl⟩
 obtain ⟨KA, hKA⟩ : ∃ KA, KA = 1050000 := ⟨_, rfl⟩
 have HM1 := Go.Lib.hid (mul_is x0 x1 y0 y1 KM (by omega))
 have HM2 := Go.Lib.hid (rmul_is x0 x1 y0 y1 KN (by omega))
 have HAW := Go.Lib.hid (awake_is KA (by omega))
 have HKA : Hid (1050000 ≤ KA) := Go.Lib.hid (by omega)
 have HNM := Go.Lib.hid hnm
 have HR2 := Go.Lib.hid hr2
 have HR3 := Go.Lib.hid hr3
 have HR4 := Go.Lib.hid hr4
 have HR5 := Go.Lib.hid hr5
 have HS := Go.Lib.hid (St.start w)
 clear hnm hr2 hr3 hr4 hr5 hKM hKN hKA
 go_enter Try.func6, Try.ntmps6
 go_upto_region 1 with (first | ((with_reducible refine gate_dst (N := 9) rfl ?_); refine Sl.box_st HS.out (by rfl) (cs := #[.int .u64 ep, .int .i64 fi, .slice A2 ps.length c2, .slice A3 ss.length c3, .slice A4 qs.length c4, .slice A5 av.length c5]) (t := 28) ?hr ?_; (case hr => first | (go_simp; done) | (go_simp; rfl)); intro gM w1_ HSn HBn; clear HBn; replace HS : Hid (St (SL.blk gM 28 #[.int .u64 ep, .int .i64 fi, .slice A2 ps.length c2, .slice A3 ss.length c3, .slice A4 qs.length c4, .slice A5 av.length c5] :: []) w w1_) := Go.Lib.hid HSn; clear HSn; obtain ⟨c0_0, c0_1, c0_2, c0_3, c0_4, c0_5⟩ := HS.out.c6 0 _ _ _ _ _ _ _ _ rfl))
 go_cut [36] (fun c wx => c = .bool false ∧ St [SL.blk gM 28 #[.int .u64 ep, .int .i64 fi, .slice A2 ps.length c2, .slice A3 ss.length c3, .slice A4 qs.length c4, .slice A5 av.length c5]] w wx)
 case first =>
  by_cases p1 : -2000 ≤ a
  ·have dp1 : decide (-2000 ≤ a) = true := by simpa using p1
   by_cases p2 : a ≤ 2000
   ·have dp2 : decide (a ≤ 2000) = true := by simpa using p2
    by_cases p3 : -2000 ≤ b
    ·have dp3 : decide (-2000 ≤ b) = true := by simpa using p3
     by_cases p4 : b ≤ 2000
     ·have dp4 : decide (b ≤ 2000) = true := by simpa using p4
      have HQ := Go.Lib.hid (And.intro p1 (And.intro p2 (And.intro p3 p4)))
      have e0 : ((Int.gcd a b : Nat) : Int) = ((Int.gcd a b : Nat) : Int) := rfl
      clear p1 p2 p3 p4 e0
      go_wp2_with fail
      refine (hyper_Divisor.calls 2010 a b ((Int.gcd a b : Nat) : Int) _ (div_is a b (by have := HQ.out; omega) (by have := HQ.out; omega) 2010 (by omega))).mono ?_; rintro e w70 ⟨rfl, hD⟩; replace HS := Go.Lib.hid (HS.out.drawn hD); clear hD
      go_wp2_with fail
      refine (countwheelref35_Divisor.calls 2010 a b ((Int.gcd a b : Nat) : Int) _ (rdiv_is a b (by have := HQ.out; omega) (by have := HQ.out; omega) 2010 (by omega))).mono ?_; rintro e w71 ⟨rfl, hD⟩; replace HS := Go.Lib.hid (HS.out.drawn hD); clear hD
      go_wp2_with fail
      go_meet
      exact ⟨by simp, HS.out⟩
     ·have dp4 : decide (b ≤ 2000) = false := by simpa using p4
      clear p4
      go_wp2_with fail
      go_meet
      exact ⟨rfl, HS.out⟩
    ·have dp3 : decide (-2000 ≤ b) = false := by simpa using p3
     clear p3
     go_wp2_with fail
     go_meet
     exact ⟨rfl, HS.out⟩
   ·have dp2 : decide (a ≤ 2000) = false := by simpa using p2
    clear p2
    go_wp2_with fail
    go_meet
    exact ⟨rfl, HS.out⟩
  ·have dp1 : decide (-2000 ≤ a) = false := by simpa using p1
   clear p1
   go_wp2_with fail
   go_meet
   exact ⟨rfl, HS.out⟩
 case rest =>
  clear HS c0_0 c0_1 c0_2 c0_3 c0_4 c0_5
  obtain ⟨rfl, hS⟩ := hcut
  have HS := Go.Lib.hid hS
  clear hS
  obtain ⟨c0_0, c0_1, c0_2, c0_3, c0_4, c0_5⟩ := HS.out.c6 0 _ _ _ _ _ _ _ _ rfl
  go_wp2_with fail
  refine (Fin.fine_told _ ep fi A2 c2 ps A3 c3 ss A4 c4 qs A5 c5 av (HS.out.C HR2.out) hc2 (HS.out.C HR3.out) hc3 (HS.out.C HR4.out) hc4 (HS.out.C HR5.out) hc5 HNM.out).mono ?_; rintro e w50 ⟨bf, rfl, hbf, hB⟩; have HBF := Go.Lib.hid hbf; replace HS := Go.Lib.hid (HS.out.then_ hB); clear hB hbf
  clear c0_0 c0_1 c0_2 c0_3 c0_4 c0_5
  obtain ⟨c0_0, c0_1, c0_2, c0_3, c0_4, c0_5⟩ := HS.out.c6 0 _ _ _ _ _ _ _ _ rfl
  cases bf
  ·go_wp2_with fail
   refine (hyper_Multiple.calls KM x y (mulV x y) _ HM1.out).mono ?_; rintro e w60 ⟨rfl, hD⟩; replace HS := Go.Lib.hid (HS.out.drawn hD); clear hD
   go_wp2_with fail
   refine (countwheelref35_Multiple.calls KN x y (mulV x y) _ HM2.out).mono ?_; rintro e w61 ⟨rfl, hD⟩; replace HS := Go.Lib.hid (HS.out.drawn hD); clear hD
   go_wp2_with fail
   refine (countwheellaw35_awake.calls KA true _ HAW.out).mono ?_; rintro e w62 ⟨rfl, hD⟩; replace HS := Go.Lib.hid (HS.out.drawn hD); clear hD
   go_wp2_with fail
   go_ret
   exact ⟨rfl, HS.out.below⟩
  ·have HF := Go.Lib.hid (HBF.out rfl)
   have hss := HF.out.few.hss
   go_wp2_with fail
   clear c0_0 c0_1 c0_2 c0_3 c0_4 c0_5
   go_loopw [11, 53] (fun n i wr => ∃ k : Nat, k ≤ ss.length ∧ n = .int .u64 (spanV (ss.take k)) ∧ i = .int .i64 k ∧ St [SL.blk gM 28 #[.int .u64 ep, .int .i64 fi, .slice A2 ps.length c2, .slice A3 ss.length c3, .slice A4 qs.length c4, .slice A5 av.length c5]] w wr) (fun _ i _ => ss.length - (intOf i).toNat)
   case atStart => exact ⟨0, Nat.zero_le _, rfl, rfl, HS.out⟩
   case round =>
    clear HS
    obtain ⟨k, hk, rfl, rfl, hS⟩ := hrel
    have HS := Go.Lib.hid hS
    clear hS
    obtain ⟨c0_0, c0_1, c0_2, c0_3, c0_4, c0_5⟩ := HS.out.c6 0 _ _ _ _ _ _ _ _ rfl
    by_cases hlt : k < ss.length
    ·obtain ⟨ad, B2, d2, B3, d3, rfl, g0, g1, g2, g3, hd2, hp2, hd3, hp3⟩ := at_T46 HR3.out (k : Int) (by omega) (by omega)
     rw [Int.toNat_natCast] at g0 g1 g2 g3
     replace g0 := HS.out.old g0
     replace g1 := HS.out.old g1
     replace g2 := HS.out.old g2
     replace g3 := HS.out.old g3
     have hpm : rd_T46 ss (k : Int) ∈ ss := Fin.memD ss z46 k hlt
     have hsi := (HF.out.ok.two.sched _ hpm).1
     have hstep : spanV (ss.take (k + 1)) = mulV (spanV (ss.take k)) (rd_T46 ss (k : Int)).f1 := by unfold spanV rd_T46; rw [List.take_succ_eq_append_getElem hlt, List.foldl_append, Int.toNat_natCast, List.getD_eq_getElem?_getD, List.getElem?_eq_getElem hlt]; rfl
     have hbd := spanV_bd (ss.take k) 1 (by omega) (by omega) (fun s hs => by have := (HF.out.ok.two.sched s (List.mem_of_mem_take hs)).1.fr0; omega)
     generalize rd_T46 ss (k : Int) = s at *
     have f0 := hsi.fr0
     have f1 := hsi.fr1
     obtain ⟨sp, hsp⟩ : ∃ sp, sp = spanV (ss.take k) := ⟨_, rfl⟩
     have hbd2 : 0 ≤ sp ∧ sp ≤ 18446744073709551615 := by rw [hsp]; exact hbd
     rw [← hsp] at hstep ⊢
     obtain ⟨sq, hsq⟩ : ∃ sq, sq = mulV sp s.f1 := ⟨_, rfl⟩
     rw [← hsq] at hstep
     obtain ⟨KR, hKR⟩ : ∃ KR, KR = 2 * (sp + s.f1).toNat + 71 := ⟨_, rfl⟩
     have HSQ : Hid (countwheelref35_Multiple.f KR sp s.f1 = some sq) := Go.Lib.hid (by rw [hsq]; exact rmul_is hbd2.1 hbd2.2 (by omega) (by omega) KR (by omega))
     have HST := Go.Lib.hid hstep
     clear hpm hsi hstep hbd hbd2 hsp hsq hKR hp2 hp3
     go_wp2_with (first | ((with_reducible refine gate_dst (N := 13) rfl ?_); refine Sl.box_st HS.out (by rfl) (cs := #[.int .i64 0, .int .i64 0, .slice none 0 0, .slice none 0 0]) (t := 46) ?hr ?_; (case hr => first | (go_simp; done) | (go_simp; rfl)); intro g8 w41_ HSn HBn; clear HBn; replace HS : Hid (St (SL.blk g8 46 #[.int .i64 0, .int .i64 0, .slice none 0 0, .slice none 0 0] :: SL.blk gM 28 #[.int .u64 ep, .int .i64 fi, .slice A2 ps.length c2, .slice (some ad) ss.length c3, .slice A4 qs.length c4, .slice A5 av.length c5] :: []) w w41_) := Go.Lib.hid HSn; clear HSn; clear c0_0 c0_1 c0_2 c0_3 c0_4 c0_5; obtain ⟨c0_0, c0_1, c0_2, c0_3⟩ := HS.out.c4 0 _ _ _ _ _ _ rfl; obtain ⟨c1_0, c1_1, c1_2, c1_3, c1_4, c1_5⟩ := HS.out.c6 1 _ _ _ _ _ _ _ _ rfl) | ((with_reducible refine gate_store (p := 13) rfl ?_); refine Sl.storeAll_st HS.out 0 g8 46 _ rfl [.int .i64 s.f0, .int .i64 s.f1, .slice B2 s.f2.length d2, .slice B3 s.f3.length d3] rfl (by rfl) (by rfl) ?hr ?_; (case hr => have f_ := HS.out.f4 0 _ _ _ _ _ _ rfl; (try obtain ⟨f0, f1, f2, f3⟩ := f_); first | (go_simp; done) | (go_simp; rfl)); intro w42_ HSn; replace HS : Hid (St (SL.blk g8 46 #[.int .i64 s.f0, .int .i64 s.f1, .slice B2 s.f2.length d2, .slice B3 s.f3.length d3] :: SL.blk gM 28 #[.int .u64 ep, .int .i64 fi, .slice A2 ps.length c2, .slice (some ad) ss.length c3, .slice A4 qs.length c4, .slice A5 av.length c5] :: []) w w42_) := Go.Lib.hid HSn; clear HSn; clear c0_0 c0_1 c0_2 c0_3 c1_0 c1_1 c1_2 c1_3 c1_4 c1_5; obtain ⟨c0_0, c0_1, c0_2, c0_3⟩ := HS.out.c4 0 _ _ _ _ _ _ rfl; obtain ⟨c1_0, c1_1, c1_2, c1_3, c1_4, c1_5⟩ := HS.out.c6 1 _ _ _ _ _ _ _ _ rfl) | (go_at_call 30; refine (countwheelref35_Multiple.calls KR sp s.f1 sq _ HSQ.out).mono ?_; rintro e w51_ ⟨rfl, hD⟩; replace HS := Go.Lib.hid (HS.out.drawn hD); clear hD; clear c0_0 c0_1 c0_2 c0_3 c1_0 c1_1 c1_2 c1_3 c1_4 c1_5; obtain ⟨c0_0, c0_1, c0_2, c0_3⟩ := HS.out.c4 0 _ _ _ _ _ _ rfl; obtain ⟨c1_0, c1_1, c1_2, c1_3, c1_4, c1_5⟩ := HS.out.c6 1 _ _ _ _ _ _ _ _ rfl))
     go_roundw
     case rel => exact ⟨k + 1, hlt, by rw [HST.out], rfl, HS.out.drop⟩
     case measure => simp [intOf]; omega
    ·obtain rfl : k = ss.length := by omega
     rw [List.take_length]
     clear hk
     go_wp2_with fail
     refine (hyper_Multiple.calls KM x y (mulV x y) _ HM1.out).mono ?_; rintro e w60 ⟨rfl, hD⟩; replace HS := Go.Lib.hid (HS.out.drawn hD); clear hD
     go_wp2_with fail
     refine (countwheelref35_Multiple.calls KN x y (mulV x y) _ HM2.out).mono ?_; rintro e w61 ⟨rfl, hD⟩; replace HS := Go.Lib.hid (HS.out.drawn hD); clear hD
     clear c0_0 c0_1 c0_2 c0_3 c0_4 c0_5
     obtain ⟨c0_0, c0_1, c0_2, c0_3, c0_4, c0_5⟩ := HS.out.c6 0 _ _ _ _ _ _ _ _ rfl
     go_wp2_with fail
     have HSP := Go.Lib.hid (span_is (ep := ep) (fi := fi) (ps := ps) (ss := ss) (qs := qs) (av := av) (by omega) (fun s hs => by have := (HF.out.ok.two.sched s hs).1; exact ⟨by have := this.fr0; omega, this.fr1⟩) KA HKA.out); refine (hyper_Span.calls KA ep fi A2 c2 ps A3 c3 ss A4 c4 qs A5 c5 av (spanV ss) _ (HS.out.C HR2.out) hc2 (HS.out.C HR3.out) hc3 (HS.out.C HR4.out) hc4 (HS.out.C HR5.out) hc5 HSP.out).mono ?_; rintro e w63 ⟨rfl, hB⟩; replace HS := Go.Lib.hid (HS.out.then_ hB); clear hB
     go_wp2_with fail
     refine (countwheellaw35_awake.calls KA true _ HAW.out).mono ?_; rintro e w62 ⟨rfl, hD⟩; replace HS := Go.Lib.hid (HS.out.drawn hD); clear hD
     go_wp2_with fail
     go_ret
     exact ⟨rfl, HS.out.below⟩

theorem wf_u64 {z : Int} (h : (Lit.int .u64 z).wf = true) : 0 ≤ z ∧ z ≤ 18446744073709551615 := by
 simp [Lit.wf, IntKind.min, IntKind.max, IntKind.signed, IntKind.bits] at h
 omega
theorem hyperNumbers_walk (w : World) (a : Int) (ha : (Lit.int .i64 a).wf = true) (b : Int) (hb : (Lit.int .i64 b).wf = true) (x : Int) (hx : (Lit.int .u64 x).wf = true) (y : Int) (hy : (Lit.int .u64 y).wf = true) (v : Value)
  (hv : ∃ (n0 : Int) (n1 : Int) (A2 : Option Addr) (d2 : Nat) (n2 : List S84) (A3 : Option Addr) (d3 : Nat) (n3 : List S46) (A4 : Option Addr) (d4 : Nat) (n4 : List S95) (A5 : Option Addr) (d5 : Nat) (n5 : List S125), v = .agg #[.int .u64 n0, .int .i64 n1, .slice A2 n2.length d2, .slice A3 n3.length d3, .slice A4 n4.length d4, .slice A5 n5.length d5] ∧ (Lit.int .u64 n0).wf = true ∧ (Lit.int .i64 n1).wf = true ∧ n2.length ≤ d2 ∧ k84.C w A2 n2.length n2 ∧ (∀ y ∈ n2, Opm.Good84 y) ∧ n3.length ≤ d3 ∧ k46.C w A3 n3.length n3 ∧ (∀ y ∈ n3, Opm.Good46 y) ∧ n4.length ≤ d4 ∧ k95.C w A4 n4.length n4 ∧ (∀ y ∈ n4, Opm.Good95 y) ∧ n5.length ≤ d5 ∧ k125.C w A5 n5.length n5 ∧ (∀ y ∈ n5, Opm.Good125 y)) :
  Calls Try.prog 6 #[.int .i64 a, .int .i64 b, .int .u64 x, .int .u64 y, v] w fun e w' => e = .returned (.bool true) ∧ Below w.heap.size w w' := by
 obtain ⟨ep, fi, A2, c2, ps, A3, c3, ss, A4, c4, qs, A5, c5, av, rfl, _, _, hc2, hr2, hg2, hc3, hr3, _, hc4, hr4, _, hc5, hr5, _⟩ := hv
 have h1 := wf_u64 hx
 have h2 := wf_u64 hy
 exact hyper_raw w a b x y h1.1 h1.2 h2.1 h2.2 ep fi A2 c2 ps A3 c3 ss A4 c4 qs A5 c5 av hr2 hc2 hr3 hc3 hr4 hc4 hr5 hc5 (fun p hp => by have := (hg2 p hp).2.1; unfold maxLen at this; exact this)
end Go.Proofs.Ytnniejaknnpcjaa.Hyp
