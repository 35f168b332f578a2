/- All owners, tick by tick. -/
import Derived.Test.YtolokohgphdngaaStrC
namespace Go.Proofs.Ytolokohgphdngaa.Str
open Go.RowKit Go.Proofs.YtolokohgphdngaaW.PrintWords Go.Proofs.YtolokohgphdngaaW.PrintLast Go.Proofs.YtolokohgphdngaaW.PrintMore Go.Proofs.Ytolokohgphdngaa.Mine Go.Proofs.Ytolokohgphdngaa.PStripAdds
open Go.Proofs.Ytolokohgphdngaa.Sl (SL Stp Chg St No)
set_option linter.unusedVariables false
set_option linter.unusedSimpArgs false
attribute [local go_sem] max2_int min2_int max_two min_two max_three min_three max_four min_four
variable {l : List SL} {w0 w : World} {g : Nat} {rs : List S95}
open Win (cels cels_size make_ints infoInt cels_get)
/-- All owners, tick by tick. -/
def wordR (rs : List S95) : List Int := rs.flatMap fun r => List.replicate r.f1.toNat r.f0
theorem wordR_snoc (rs : List S95) (r : S95) : wordR (rs ++ [r]) = wordR rs ++ List.replicate r.f1.toNat r.f0 := by unfold wordR; simp
theorem wordR_len : ∀ {rs : List S95}, (∀ r ∈ rs, 1 ≤ r.f1) → ((wordR rs).length : Int) = total rs
  | [], _ => rfl
  | r :: l, h => by
    have h1 := h r (by simp)
    have h2 := wordR_len (rs := l) (fun x hx => h x (by simp [hx]))
    unfold wordR total at h2 ⊢
    simp only [List.flatMap_cons, List.length_append, List.length_replicate, List.map_cons, List.sum_cons]
    omega
set_option maxHeartbeats 3200000 in
set_option maxRecDepth 100000 in
theorem word_hd (h : St (stp g rs :: l) w0 w) (hk : Oks rs) (ht : total rs ≤ 3000) : Calls Try.prog 47 #[.pointer (some ⟨g, 0, none⟩)] w fun e w' => ∃ A c, e = .returned (.slice A (wordR rs).length c) ∧ St (SL.row (Kd.int .i64) 3 (.slice A (wordR rs).length c) (wordR rs) :: stp g rs :: l) w0 w' := by
  obtain ⟨A, c, B, d, hS⟩ := open_stp h
  have hlen := hk.len
  clear h
  have HS := Go.Lib.hid hS
  clear hS
  obtain ⟨c0, c1⟩ := HS.out.c2 0 _ _ _ _ rfl
  go_enter Try.func47, Try.ntmps47
  go_wp2_with fail
  clear c0 c1
  go_loopw [3, 11] (fun o i wr => ∃ (k : Nat) (Ao : Option Addr) (co : Nat), k ≤ rs.length ∧ o = .slice Ao (wordR (rs.take k)).length co ∧ i = .int .i64 k ∧ St (SL.row (Kd.int .i64) 3 (.slice Ao (wordR (rs.take k)).length co) (wordR (rs.take k)) :: SL.blk g 147 #[.slice A rs.length c, .slice B (ends rs).length d] :: SL.row k95 95 (.slice A rs.length c) rs :: SL.row (Kd.int .i64) 3 (.slice B (ends rs).length d) (ends rs) :: l) w0 wr) (fun _ i _ => rs.length - (intOf i).toNat)
  case atStart => exact ⟨0, none, 0, Nat.zero_le _, rfl, rfl, HS.out.nilrow (Kd.int .i64) 3⟩
  case round =>
    clear HS
    obtain ⟨k, Ao, co, hkl, rfl, rfl, hS⟩ := hrel
    have HS := Go.Lib.hid hS
    clear hS
    by_cases hlt : k < rs.length
    · obtain ⟨_, _, hv, _, hC⟩ := HS.out.rowC 2 rfl
      injection hv with q1 _ q3
      subst q1 q3
      obtain ⟨ad, rfl, g0, g1⟩ := at_T95 hC (k : Int) (by omega) (by omega)
      rw [Int.toNat_natCast] at g0 g1
      have htk := take_succ_rd rs k hlt
      have hok2 := take_ok hk (k + 1)
      have hwl := wordR_len (take_ok hk k).pos
      have htl : total (rs.take k) ≤ total rs := by have := total_take_le hk (show k ≤ rs.length by omega); rwa [List.take_length] at this
      have htl2 : total (rs.take (k + 1)) ≤ total rs := by have := total_take_le hk (show k + 1 ≤ rs.length by omega); rwa [List.take_length] at this
      have ht0 := (take_ok hk k).t0
      have hpos := hok2.pos (rd_T95 rs (k : Int)) (by rw [htk]; simp)
      have hts := total_snoc (rs.take k) (rd_T95 rs (k : Int))
      rw [← htk] at hts
      have hws := wordR_snoc (rs.take k) (rd_T95 rs (k : Int))
      rw [← htk] at hws
      generalize rd_T95 rs (k : Int) = r at *
      obtain ⟨id, q⟩ := r
      simp only at hpos hts hws g0 g1
      obtain ⟨p, rfl⟩ := Int.eq_ofNat_of_zero_le (show 0 ≤ q by omega)
      rw [Int.toNat_natCast] at hws
      have hp1 : 1 ≤ p := by omega
      have hp2 : p ≤ 1000000 := by omega
      have hp3 : (List.replicate p id).length ≤ 1000000000 := by rw [List.length_replicate]; omega
      have hwl2 : (wordR (rs.take k)).length ≤ 3000 := by omega
      have HWS := Go.Lib.hid hws
      clear hC htk hok2 hwl htl htl2 ht0 hpos hts hws
      obtain ⟨c1_0, c1_1⟩ := HS.out.c2 1 _ _ _ _ rfl
      go_wp2_with (first | ((with_reducible refine gate_dst (N := 5) rfl ?_); refine Sl.box_st HS.out (by rfl) (cs := #[.int .i64 0, .int .i64 0]) (t := 95) ?hr ?_; (case hr => first | (go_simp; done) | (go_simp; rfl)); intro gx w21_ HSn HBn; clear HBn; replace HS : Hid (St (SL.blk gx 95 #[.int .i64 0, .int .i64 0] :: SL.row (Kd.int .i64) 3 (.slice Ao (wordR (rs.take k)).length co) (wordR (rs.take k)) :: SL.blk g 147 #[.slice (some ad) rs.length c, .slice B (ends rs).length d] :: SL.row k95 95 (.slice (some ad) rs.length c) rs :: SL.row (Kd.int .i64) 3 (.slice B (ends rs).length d) (ends rs) :: l) w0 w21_) := Go.Lib.hid HSn; clear HSn; clear c1_0 c1_1; obtain ⟨c0_0, c0_1⟩ := HS.out.c2 0 _ _ _ _ rfl; obtain ⟨c2_0, c2_1⟩ := HS.out.c2 2 _ _ _ _ rfl) | ((with_reducible refine gate_store (p := 5) rfl ?_); refine Sl.storeAll_st HS.out 0 gx 95 _ rfl [.int .i64 id, .int .i64 (p : Int)] rfl (by rfl) (by rfl) ?hr ?_; (case hr => have f_ := HS.out.f2 0 _ _ _ _ rfl; (try obtain ⟨f0, f1⟩ := f_); first | (go_simp; done) | (go_simp; rfl)); intro w22_ HSn; replace HS : Hid (St (SL.blk gx 95 #[.int .i64 id, .int .i64 (p : Int)] :: SL.row (Kd.int .i64) 3 (.slice Ao (wordR (rs.take k)).length co) (wordR (rs.take k)) :: SL.blk g 147 #[.slice (some ad) rs.length c, .slice B (ends rs).length d] :: SL.row k95 95 (.slice (some ad) rs.length c) rs :: SL.row (Kd.int .i64) 3 (.slice B (ends rs).length d) (ends rs) :: l) w0 w22_) := Go.Lib.hid HSn; clear HSn; clear c0_0 c0_1 c2_0 c2_1; obtain ⟨c0_0, c0_1⟩ := HS.out.c2 0 _ _ _ _ rfl; obtain ⟨c2_0, c2_1⟩ := HS.out.c2 2 _ _ _ _ rfl) | ((with_reducible refine gate_dst (N := 18) rfl ?_); refine Sl.lit_st (Kd.int .i64) (flat_int .i64) HS.out 3 (by rfl) (xs := [id]) (inner := [.int .i64 id]) ?hr ?hp ?hm ?_; (case hr => first | (go_simp; done) | (go_simp; rfl)); (case hp => exact Reps.snoc (Reps.none _ _) rfl rfl); (case hm => first | decide | (simp; done)); intro v18_ w23_ HSn; obtain ⟨A18, c18, hv18, _⟩ := HSn.rowC 0 rfl; subst hv18; replace HS : Hid (St (SL.row (Kd.int .i64) 3 (.slice A18 1 c18) [id] :: SL.blk gx 95 #[.int .i64 id, .int .i64 (p : Int)] :: SL.row (Kd.int .i64) 3 (.slice Ao (wordR (rs.take k)).length co) (wordR (rs.take k)) :: SL.blk g 147 #[.slice (some ad) rs.length c, .slice B (ends rs).length d] :: SL.row k95 95 (.slice (some ad) rs.length c) rs :: SL.row (Kd.int .i64) 3 (.slice B (ends rs).length d) (ends rs) :: l) w0 w23_) := Go.Lib.hid HSn; clear HSn; clear c0_0 c0_1 c2_0 c2_1; obtain ⟨c1_0, c1_1⟩ := HS.out.c2 1 _ _ _ _ rfl; obtain ⟨c3_0, c3_1⟩ := HS.out.c2 3 _ _ _ _ rfl) | (go_at_call 65; refine (repeat_st HS.out 0 rfl p hp1 hp2).mono ?_; rintro e w24_ ⟨bq, rfl, HSn⟩; replace HSn := blk_row HSn hp3; have hrl : (List.replicate p id).length = p := List.length_replicate; replace HS : Hid (St (SL.row (Kd.int .i64) 3 (.slice (some ⟨bq, 0, none⟩) (List.replicate p id).length (List.replicate p id).length) (List.replicate p id) :: SL.row (Kd.int .i64) 3 (.slice A18 1 c18) [id] :: SL.blk gx 95 #[.int .i64 id, .int .i64 (p : Int)] :: SL.row (Kd.int .i64) 3 (.slice Ao (wordR (rs.take k)).length co) (wordR (rs.take k)) :: SL.blk g 147 #[.slice (some ad) rs.length c, .slice B (ends rs).length d] :: SL.row k95 95 (.slice (some ad) rs.length c) rs :: SL.row (Kd.int .i64) 3 (.slice B (ends rs).length d) (ends rs) :: l) w0 w24_) := Go.Lib.hid HSn; clear HSn; clear c1_0 c1_1 c3_0 c3_1; obtain ⟨c2_0, c2_1⟩ := HS.out.c2 2 _ _ _ _ rfl; obtain ⟨c4_0, c4_1⟩ := HS.out.c2 4 _ _ _ _ rfl) | ((with_reducible refine gate_dst (N := 22) rfl ?_); refine Sl.appends_st (Kd.int .i64) (flat_int .i64) HS.out 3 (.slice Ao (wordR (rs.take k)).length co) ((wordR (rs.take k))) ((List.replicate p id)) 3 rfl (by rfl) (.tmp 15) (.tmp 21) 108 (.int .i64 0) 8 rfl Try.underlying108 (by kernel_rfl) rfl (by decide) (by decide) (some ⟨bq, 0, none⟩) p p rfl rfl ?hR ?hb ?_; (case hR => exact (by obtain ⟨A_, c_, hv_, _, hC_⟩ := HS.out.rowC 0 rfl; injection hv_ with q1_ _ _; subst q1_; rw [List.length_replicate] at hC_; exact hC_)); (case hb => omega); intro v22_ w25_ HSn; obtain ⟨A9, c9, hv9, _⟩ := HSn.rowC 3 rfl; subst hv9; replace HS : Hid (St (SL.row (Kd.int .i64) 3 (.slice (some ⟨bq, 0, none⟩) (List.replicate p id).length (List.replicate p id).length) (List.replicate p id) :: SL.row (Kd.int .i64) 3 (.slice A18 1 c18) [id] :: SL.blk gx 95 #[.int .i64 id, .int .i64 (p : Int)] :: SL.row (Kd.int .i64) 3 (.slice A9 (wordR (rs.take k) ++ List.replicate p id).length c9) (wordR (rs.take k) ++ List.replicate p id) :: SL.blk g 147 #[.slice (some ad) rs.length c, .slice B (ends rs).length d] :: SL.row k95 95 (.slice (some ad) rs.length c) rs :: SL.row (Kd.int .i64) 3 (.slice B (ends rs).length d) (ends rs) :: l) w0 w25_) := Go.Lib.hid HSn; clear HSn; clear c2_0 c2_1 c4_0 c4_1; obtain ⟨c2_0, c2_1⟩ := HS.out.c2 2 _ _ _ _ rfl; obtain ⟨c4_0, c4_1⟩ := HS.out.c2 4 _ _ _ _ rfl))
      go_roundw
      case rel => exact ⟨k + 1, A9, c9, hlt, by rw [HWS.out]; simp, rfl, by rw [HWS.out]; exact ((HS.out.erase 0).erase 0).erase 0⟩
      case measure => simp [intOf]; omega
    · have hkn : k = rs.length := by omega
      have hfin : wordR (rs.take k) = wordR rs := by rw [hkn, List.take_length]
      have HF := Go.Lib.hid hfin
      clear hfin
      go_wp2_with fail
      go_ret
      refine ⟨Ao, co, by rw [HF.out]; rfl, ?_⟩
      have := HS.out
      rw [HF.out] at this
      exact St.back 1 (by simp) (shut_stp (((this.front 3 _ rfl).front 3 _ rfl).front 3 _ rfl))
end Go.Proofs.Ytolokohgphdngaa.Str
