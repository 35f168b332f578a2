/- StripAdds: the walk. -/
import Derived.Test.YtolokohgphdngaaStrI
namespace Go.Proofs.Ytolokohgphdngaa.Str
open Go.RowKit Go.Proofs.YtolokohgphdngaaW.PrintWords Go.Proofs.YtolokohgphdngaaW.PrintLast Go.Proofs.YtolokohgphdngaaW.PrintMore Go.Proofs.Ytolokohgphdngaa.Mine Go.Proofs.Ytolokohgphdngaa.PStripAdds
open Go.Proofs.Ytolokohgphdngaa.Sl (SL Stp Chg St No)
set_option linter.unusedVariables false
set_option linter.unusedSimpArgs false
attribute [local go_sem] max2_int min2_int max_two min_two max_three min_three max_four min_four
variable {l : List SL} {w0 w : World} {g : Nat} {rs : List S95}
theorem rd_cv {rs : List S95} {q : Nat} (h : q < rs.length) : rd_T99 (cv rs) (q : Int) = ⟨(rd_T95 rs (q : Int)).f0, (rd_T95 rs (q : Int)).f1⟩ := by
  unfold rd_T99 rd_T95 cv
  rw [Int.toNat_natCast, List.getD_eq_getElem?_getD, List.getD_eq_getElem?_getD, List.getElem?_map, List.getElem?_eq_getElem h]
  rfl
set_option maxHeartbeats 12800000 in
set_option maxRecDepth 100000 in
theorem stripAdds_walk (w : World) (A : Option Addr) (n c : Nat) (xs : List S95) (hx : n ≤ c ∧ k95.C w A n xs ∧ ∀ z ∈ xs, (Lit.int .i64 z.f0).wf = true ∧ (Lit.int .i64 z.f1).wf = true) (at_ : Int) (hat : (Lit.int .i64 at_).wf = true) (fr : Int) (hfr : (Lit.int .i64 fr).wf = true) (to_ : Int) (hto : (Lit.int .i64 to_).wf = true) (id_ : Int) (hid : (Lit.int .i64 id_).wf = true) :
    Calls Try.prog 7 #[.slice A n c, .int .i64 at_, .int .i64 fr, .int .i64 to_, .int .i64 id_] w fun e w' => e = .returned (.bool true) ∧ Below w.heap.size w w' := by
  obtain ⟨hnc, hC, hwf⟩ := hx
  have hxl : xs.length = n := hC.1
  have hax := (wf64 hat).2
  clear hat hfr hto hid
  by_cases h60 : (60 : Int) < n
  · have d0 : decide ((60 : Int) < (n : Int)) = true := by simpa using h60
    clear h60
    have HS := Go.Lib.hid (St.start w)
    clear hC hwf hxl
    go_enter Try.func7, Try.ntmps7
    go_wp2_with (go_at_call 34; refine (awake_st HS.out).mono ?_; rintro e w1 ⟨rfl, HSn⟩; replace HS := Go.Lib.hid HSn; clear HSn)
    go_ret
    exact ⟨rfl, HS.out.below⟩
  · have d0 : decide ((60 : Int) < (n : Int)) = false := by simpa using h60
    have HC := Go.Lib.hid hC
    have HWF := Go.Lib.hid hwf
    have HXL := Go.Lib.hid hxl
    have HS := Go.Lib.hid (St.start w)
    clear hC hwf hxl
    go_enter Try.func7, Try.ntmps7
    go_wp2_with (go_at_call 35; refine (new_st HS.out).mono ?_; rintro e w1 ⟨g, rfl, HSn⟩; replace HS := Go.Lib.hid HSn; clear HSn)
    go_loopw [12, 40] (fun o i wr => ∃ (k : Nat) (A2 : Option Addr) (c2 : Nat), k ≤ n ∧ o = .slice A2 (addsR (xs.take k)).length c2 ∧ i = .int .i64 k ∧ St [SL.row k99 99 (.slice A2 (addsR (xs.take k)).length c2) (cv (addsR (xs.take k))), stp g (addsR (xs.take k))] w wr) (fun _ i _ => n - (intOf i).toNat)
    case atStart => exact ⟨0, none, 0, Nat.zero_le _, rfl, rfl, HS.out.nilrow k99 99⟩
    case round =>
      clear HS
      obtain ⟨k, A2, c2, hkn, rfl, rfl, hS⟩ := hrel
      have HS := Go.Lib.hid hS
      clear hS
      by_cases hlt : k < n
      · obtain ⟨ad, rfl, g0, g1⟩ := at_T95 (HS.out.C HC.out) (k : Int) (by omega) (by omega)
        rw [Int.toNat_natCast] at g0 g1
        have htk := take_succ_rd xs k (by rw [HXL.out]; exact hlt)
        have hmem : rd_T95 xs (k : Int) ∈ xs := by
          have h2 : rd_T95 xs (k : Int) ∈ xs.take (k + 1) := by rw [htk]; simp
          exact List.mem_of_mem_take h2
        have hm := wf64 (HWF.out _ hmem).2
        have has := addsR_snoc (xs.take k) (rd_T95 xs (k : Int))
        rw [← htk] at has
        have hok := addsR_ok (xs.take k)
        generalize rd_T95 xs (k : Int) = r at *
        obtain ⟨id, m⟩ := r
        simp only at hm has g0 g1
        have HK := Go.Lib.hid hok
        have HAS := Go.Lib.hid has
        clear htk hmem hok has
        go_wp2_with (first | ((with_reducible refine gate_dst (N := 14) rfl ?_); refine Sl.box_st HS.out (by rfl) (cs := #[.int .i64 0, .int .i64 0]) (t := 95) ?hr ?_; (case hr => first | (go_simp; done) | (go_simp; rfl)); intro gx w21_ HSn HBn; clear HBn; replace HS : Hid (St (SL.blk gx 95 #[.int .i64 0, .int .i64 0] :: SL.row k99 99 (.slice A2 (addsR (xs.take k)).length c2) (cv (addsR (xs.take k))) :: stp g (addsR (xs.take k)) :: []) w w21_) := Go.Lib.hid HSn; clear HSn; obtain ⟨c0_0, c0_1⟩ := HS.out.c2 0 _ _ _ _ rfl) | ((with_reducible refine gate_store (p := 14) rfl ?_); refine Sl.storeAll_st HS.out 0 gx 95 _ rfl [.int .i64 id, .int .i64 m] rfl (by rfl) (by rfl) ?hr ?_; (case hr => have f_ := HS.out.f2 0 _ _ _ _ rfl; (try obtain ⟨f0, f1⟩ := f_); first | (go_simp; done) | (go_simp; rfl)); intro w22_ HSn; replace HS : Hid (St (SL.blk gx 95 #[.int .i64 id, .int .i64 m] :: SL.row k99 99 (.slice A2 (addsR (xs.take k)).length c2) (cv (addsR (xs.take k))) :: stp g (addsR (xs.take k)) :: []) w w22_) := Go.Lib.hid HSn; clear HSn; clear c0_0 c0_1; obtain ⟨c0_0, c0_1⟩ := HS.out.c2 0 _ _ _ _ rfl) | (go_at_call 36; refine (add27_st HS.out 1 rfl HK.out id m hm).mono ?_; rintro e w23_ ⟨v0, A3, c3, rfl, rfl, HSn⟩; replace HS : Hid (St (SL.blk gx 95 #[.int .i64 id, .int .i64 m] :: SL.row k99 99 (.slice A3 (addR (addsR (xs.take k)) id m).1.length c3) (cv (addR (addsR (xs.take k)) id m).1) :: stp g (addsR (xs.take k)) :: []) w w23_) := Go.Lib.hid HSn; clear HSn; clear c0_0 c0_1; obtain ⟨c0_0, c0_1⟩ := HS.out.c2 0 _ _ _ _ rfl) | (go_at_call 37; refine (add_st HS.out 2 rfl HK.out id m).mono ?_; rintro e w24_ ⟨rfl, HSn⟩; replace HS : Hid (St (SL.blk gx 95 #[.int .i64 id, .int .i64 m] :: SL.row k99 99 (.slice A3 (addR (addsR (xs.take k)) id m).1.length c3) (cv (addR (addsR (xs.take k)) id m).1) :: stp g (addR (addsR (xs.take k)) id m).1 :: []) w w24_) := Go.Lib.hid HSn; clear HSn; clear c0_0 c0_1; obtain ⟨c0_0, c0_1⟩ := HS.out.c2 0 _ _ _ _ rfl))
        go_roundw
        case rel => exact ⟨k + 1, A3, c3, hlt, by rw [HAS.out], rfl, by rw [HAS.out]; exact HS.out.erase 0⟩
        case measure => simp [intOf]; omega
      · have hfin : xs.take k = xs := by rw [List.take_of_length_le (by rw [HXL.out]; omega)]
        rw [hfin] at HS
        have hlr : (addsR xs).length ≤ 60 := by have := addsR_len xs; have := HXL.out; omega
        have hk := addsR_ok xs
        have hnf := addsR_nf xs
        rw [hfin]
        generalize addsR xs = rs at *
        have HNF := Go.Lib.hid hnf
        have hrl : (rs.length : Int) ≤ 60 := by omega
        clear hfin hnf hlr
        go_wp2_with fail
        clear hlt
        go_loopw [17, 65] (fun a i wr2 => ∃ q : Nat, q ≤ rs.length ∧ a = .int .i64 (countR (rs.take q) id_) ∧ i = .int .i64 q ∧ St [SL.row k99 99 (.slice A2 rs.length c2) (cv rs), stp g rs] w wr2) (fun _ i _ => rs.length - (intOf i).toNat)
        case atStart => exact ⟨0, Nat.zero_le _, rfl, rfl, HS.out⟩
        case round =>
          clear HS
          obtain ⟨q, hql, rfl, rfl, hS⟩ := hrel
          have HS := Go.Lib.hid hS
          clear hS
          by_cases hlt : q < rs.length
          · obtain ⟨_, _, hv, _, hC⟩ := HS.out.rowC 0 rfl
            rw [cv_len] at hv hC
            injection hv with q1 _ q3
            subst q1 q3
            obtain ⟨ad, rfl, g0, g1⟩ := at_T99 hC (q : Int) (by omega) (by omega)
            rw [rd_cv hlt] at g0 g1
            rw [Int.toNat_natCast] at g0 g1
            have htk := take_succ_rd rs q hlt
            have hcb := countR_le id_ (take_ok hk (q + 1)).pos
            have hct := (take_ok hk (q + 1)).top
            have hcc : countR (rs.take (q + 1)) id_ = countR (rs.take q) id_ + (if (rd_T95 rs (q : Int)).f0 = id_ then (rd_T95 rs (q : Int)).f1 else 0) := by rw [htk]; simp [countR]
            generalize rd_T95 rs (q : Int) = r at *
            simp only at g0 g1
            have hcd : 0 ≤ countR (rs.take q) id_ ∧ countR (rs.take q) id_ ≤ 1073741824 := by
              have h1 := countR_le id_ (take_ok hk q).pos
              have h2 := (take_ok hk q).top
              omega
            have hcl : q + 1 ≤ rs.length := hlt
            have htot : countR (rs.take (q + 1)) id_ ≤ 1073741824 := by omega
            have hnn : 0 ≤ countR (rs.take (q + 1)) id_ := hcb.1
            clear hC htk hcb hct
            by_cases hid : r.f0 = id_
            · have d1 : (r.f0 == id_) = true := by rw [beq_iff_eq]; exact hid
              rw [if_pos hid] at hcc
              have b0 : 0 ≤ countR (rs.take q) id_ + r.f1 := by omega
              have b1 : countR (rs.take q) id_ + r.f1 ≤ 1073741824 := by omega
              have HCC := Go.Lib.hid hcc
              clear hcc hid htot hnn
              go_wp2_with (first | ((with_reducible refine gate_dst (N := 19) rfl ?_); refine Sl.box_st HS.out (by rfl) (cs := #[.int .i64 0, .int .i64 0]) (t := 99) ?hr ?_; (case hr => first | (go_simp; done) | (go_simp; rfl)); intro gx w21_ HSn HBn; clear HBn; replace HS : Hid (St (SL.blk gx 99 #[.int .i64 0, .int .i64 0] :: SL.row k99 99 (.slice (some ad) rs.length c2) (cv rs) :: stp g rs :: []) w w21_) := Go.Lib.hid HSn; clear HSn; obtain ⟨c0_0, c0_1⟩ := HS.out.c2 0 _ _ _ _ rfl) | ((with_reducible refine gate_store (p := 19) rfl ?_); refine Sl.storeAll_st HS.out 0 gx 99 _ rfl [.int .i64 r.f0, .int .i64 r.f1] rfl (by rfl) (by rfl) ?hr ?_; (case hr => have f_ := HS.out.f2 0 _ _ _ _ rfl; (try obtain ⟨f0, f1⟩ := f_); first | (go_simp; done) | (go_simp; rfl)); intro w22_ HSn; replace HS : Hid (St (SL.blk gx 99 #[.int .i64 r.f0, .int .i64 r.f1] :: SL.row k99 99 (.slice (some ad) rs.length c2) (cv rs) :: stp g rs :: []) w w22_) := Go.Lib.hid HSn; clear HSn; clear c0_0 c0_1; obtain ⟨c0_0, c0_1⟩ := HS.out.c2 0 _ _ _ _ rfl))
              go_roundw
              case rel => exact ⟨q + 1, hcl, by rw [HCC.out], rfl, HS.out.erase 0⟩
              case measure => simp [intOf]; omega
            · have d1 : (r.f0 == id_) = false := by rw [beq_eq_false_iff_ne]; exact hid
              rw [if_neg hid, Int.add_zero] at hcc
              have HCC := Go.Lib.hid hcc
              clear hcc hid htot hnn
              go_wp2_with (first | ((with_reducible refine gate_dst (N := 19) rfl ?_); refine Sl.box_st HS.out (by rfl) (cs := #[.int .i64 0, .int .i64 0]) (t := 99) ?hr ?_; (case hr => first | (go_simp; done) | (go_simp; rfl)); intro gx w21_ HSn HBn; clear HBn; replace HS : Hid (St (SL.blk gx 99 #[.int .i64 0, .int .i64 0] :: SL.row k99 99 (.slice (some ad) rs.length c2) (cv rs) :: stp g rs :: []) w w21_) := Go.Lib.hid HSn; clear HSn; obtain ⟨c0_0, c0_1⟩ := HS.out.c2 0 _ _ _ _ rfl) | ((with_reducible refine gate_store (p := 19) rfl ?_); refine Sl.storeAll_st HS.out 0 gx 99 _ rfl [.int .i64 r.f0, .int .i64 r.f1] rfl (by rfl) (by rfl) ?hr ?_; (case hr => have f_ := HS.out.f2 0 _ _ _ _ rfl; (try obtain ⟨f0, f1⟩ := f_); first | (go_simp; done) | (go_simp; rfl)); intro w22_ HSn; replace HS : Hid (St (SL.blk gx 99 #[.int .i64 r.f0, .int .i64 r.f1] :: SL.row k99 99 (.slice (some ad) rs.length c2) (cv rs) :: stp g rs :: []) w w22_) := Go.Lib.hid HSn; clear HSn; clear c0_0 c0_1; obtain ⟨c0_0, c0_1⟩ := HS.out.c2 0 _ _ _ _ rfl))
              go_roundw
              case rel => exact ⟨q + 1, hcl, by rw [HCC.out], rfl, HS.out.erase 0⟩
              case measure => simp [intOf]; omega
          · obtain rfl : q = rs.length := by omega
            rw [List.take_length]
            clear hql
            have hpk := partR_ok hk fr to_
            have e1 : ((atR rs at_).1 != (atR rs at_).1) = false := by simp
            have e2 : ((atR rs at_).2 != (atR rs at_).2) = false := by simp
            have e3 : (countR rs id_ != countR rs id_) = false := by simp
            have e4 : (total rs != total rs) = false := by simp
            go_upto_region 25 with (first | (go_at_call 38; refine (at_st HS.out 1 rfl hk).mono ?_; rintro e w1 ⟨rfl, HSn⟩; replace HS := Go.Lib.hid HSn; clear HSn) | (go_at_call 39; refine (at27_st HS.out 0 rfl hk hax).mono ?_; rintro e w1 ⟨rfl, HSn⟩; replace HS := Go.Lib.hid HSn; clear HSn) | (go_at_call 40; refine (part_st HS.out 1 rfl hk).mono ?_; rintro e w1 ⟨g2, rfl, HSn⟩; replace HS := Go.Lib.hid HSn; clear HSn))
            generalize (atR rs at_).1 = z1 at *
            generalize (atR rs at_).2 = z2 at *
            go_wp2_with fail
            refine (rows_st HS.out 0 rfl hpk).mono ?_; rintro e w2 ⟨A4, c4, rfl, HSn⟩; replace HS := Go.Lib.hid HSn; clear HSn
            go_wp2_with fail
            refine (part27_st HS.out 2 rfl hk).mono ?_; rintro e w3 ⟨A5, c5, rfl, HSn⟩; replace HS := Go.Lib.hid HSn; clear HSn
            go_wp2_with fail
            refine (same27_st HS.out 1 0 rfl rfl hpk).mono ?_; rintro e w4 ⟨rfl, HSn⟩; replace HS := Go.Lib.hid HSn; clear HSn
            go_wp2_with fail
            refine (count_st HS.out 4 rfl hk id_).mono ?_; rintro e w5 ⟨rfl, HSn⟩; replace HS := Go.Lib.hid HSn; clear HSn
            go_wp2_with fail
            refine (len_st HS.out 4 rfl hk).mono ?_; rintro e w6 ⟨rfl, HSn⟩; replace HS := Go.Lib.hid HSn; clear HSn
            go_wp2_with fail
            refine (len27_st HS.out 3 rfl hk).mono ?_; rintro e w7 ⟨rfl, HSn⟩; replace HS := Go.Lib.hid HSn; clear HSn
            go_wp2_with fail
            refine (rows_st HS.out 4 rfl hk).mono ?_; rintro e w8 ⟨A6, c6, rfl, HSn⟩; replace HS := Go.Lib.hid HSn; clear HSn
            go_wp2_with fail
            refine (same27_st HS.out 0 4 rfl rfl hk).mono ?_; rintro e w9 ⟨rfl, HSn⟩; replace HS := Go.Lib.hid HSn; clear HSn
            clear e1 e2 e3
            by_cases h3 : total rs ≤ 3000
            · have d3 : decide (3000 < total rs) = false := by simpa using h3
              have hwl := wordR_len hk.pos
              have hwn : (((wordR rs).length : Int) != total rs) = false := by rw [hwl]; simp
              have hwb : (wordR rs).length ≤ 3000 := by omega
              have HWL := Go.Lib.hid hwl
              clear hwl
              go_wp2_with fail
              refine (len27_st HS.out 4 rfl hk).mono ?_; rintro e w10 ⟨rfl, HSn⟩; replace HS := Go.Lib.hid HSn; clear HSn
              go_wp2_with fail
              refine (word_st HS.out 5 rfl hk h3).mono ?_; rintro e w11 ⟨A7, c7, rfl, HSn⟩; replace HS := Go.Lib.hid HSn; clear HSn
              go_wp2_with fail
              refine (len27_st HS.out 5 rfl hk).mono ?_; rintro e w12 ⟨rfl, HSn⟩; replace HS := Go.Lib.hid HSn; clear HSn
              go_wp2_with fail
              have hS : St [SL.row (Kd.int .i64) 3 (.slice A7 (wordR rs).length c7) (wordR rs), SL.row k99 99 (.slice A2 rs.length c2) (cv rs), stp g rs] w w12 := (((HS.out.erase 1).erase 1).erase 1).erase 1
              replace HS := Go.Lib.hid hS
              clear hS d3 hwn e4
              go_loopw [150] (fun i wr2 => ∃ q : Nat, q ≤ (wordR rs).length ∧ i = .int .i64 q ∧ St [SL.row (Kd.int .i64) 3 (.slice A7 (wordR rs).length c7) (wordR rs), SL.row k99 99 (.slice A2 rs.length c2) (cv rs), stp g rs] w wr2) (fun i _ => (wordR rs).length - (intOf i).toNat)
              case atStart => exact ⟨0, Nat.zero_le _, rfl, HS.out⟩
              case round =>
                clear HS
                obtain ⟨q, hql, rfl, hS⟩ := hrel
                have HS := Go.Lib.hid hS
                clear hS
                by_cases hlt : q < (wordR rs).length
                · obtain ⟨_, _, hv, _, hC⟩ := HS.out.rowC 0 rfl
                  injection hv with q1 _ q3
                  subst q1 q3
                  obtain ⟨ad, rfl, gl⟩ := Kd.at_int hC (q : Int) (by omega) (by omega)
                  have hwq : rd (wordR rs) (q : Int) = (atR rs (q : Int)).1 := word_at hk _ (by omega) (by have := HWL.out; omega)
                  rw [Int.toNat_natCast, hwq] at gl
                  have e1 : ((atR rs (q : Int)).1 != (atR rs (q : Int)).1) = false := by simp
                  clear hC hwq
                  go_wp2_with (go_at_call 39; refine (at27_st HS.out 1 rfl hk (by omega)).mono ?_; rintro e w1 ⟨rfl, HSn⟩; replace HS := Go.Lib.hid HSn; clear HSn)
                  go_roundw
                  case rel => exact ⟨q + 1, hlt, rfl, HS.out⟩
                  case measure => simp [intOf]; omega
                · clear hql
                  go_wp2_with fail
                  refine (of_st HS.out 0 rfl rfl (by omega)).mono ?_; rintro e w13 ⟨g3, rfl, HSn⟩
                  rw [ofR_word HNF.out hk] at HSn
                  replace HS := Go.Lib.hid HSn; clear HSn
                  go_wp2_with fail
                  refine (same_strips HS.out 0 3 rfl rfl true (same66_is _ (by omega) (by omega)) hk hk).mono ?_; rintro e w14 ⟨rfl, HSn⟩; replace HS := Go.Lib.hid HSn; clear HSn
                  go_wp2_with fail
                  refine (awake_st HS.out).mono ?_; rintro e w15 ⟨rfl, HSn⟩; replace HS := Go.Lib.hid HSn; clear HSn
                  go_wp2_with fail
                  go_ret
                  exact ⟨rfl, HS.out.below⟩
            · have d3 : decide (3000 < total rs) = true := by simpa using h3
              clear h3
              go_wp2_with fail
              refine (len27_st HS.out 4 rfl hk).mono ?_; rintro e w10 ⟨rfl, HSn⟩; replace HS := Go.Lib.hid HSn; clear HSn
              go_wp2_with fail
              refine (awake_st HS.out).mono ?_; rintro e w11 ⟨rfl, HSn⟩; replace HS := Go.Lib.hid HSn; clear HSn
              go_wp2_with fail
              go_ret
              exact ⟨rfl, HS.out.below⟩
end Go.Proofs.Ytolokohgphdngaa.Str
