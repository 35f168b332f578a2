/- A module's rules, made. -/
import Derived.Test.YtolokohgphdngaaLatA
namespace Go.Proofs.Ytolokohgphdngaa.Lat
open Go.RowKit Go.Proofs.YtolokohgphdngaaW.PrintWords Go.Proofs.YtolokohgphdngaaW.PrintLast Go.Proofs.YtolokohgphdngaaW.PrintMore Go.Proofs.Ytolokohgphdngaa.Mine Go.Proofs.Ytolokohgphdngaa.PLatchLast
open Go.Proofs.Ytolokohgphdngaa.Sl (SL Stp Chg St No MK look wpc_seal sealed)
set_option linter.unusedVariables false
set_option linter.unusedSimpArgs false
attribute [local go_sem] max2_int min2_int max_two min_two max_three min_three max_four min_four
variable {l : List SL} {w0 w : World}
set_option maxHeartbeats 400000 in
theorem clone59_calls (A : Option Addr) (n c : Nat) (xs : List S139) (w : World) (hC : (k139).C w A n xs) (hn : n * 16 ≤ 140737488355328) :
    Calls Try.prog 59 #[.slice A n c] w fun e w' => ∃ v, e = .returned v ∧ (k139).R 139 w' w.heap.size (fun _ => True) v xs ∧ Below w.heap.size w w' := by
  rcases A with _ | ad
  · have h0 : n = 0 := by
      rcases Nat.eq_zero_or_pos n with h0 | h0
      · exact h0
      · obtain ⟨_, h, _⟩ := hC.2.2 h0; cases h
    subst h0
    obtain rfl : xs = [] := List.eq_nil_of_length_eq_zero hC.1
    have hq := Go.Lib.run_eql_slice_nil (P := Try.prog) w 69 139 none 0 c 0 0 Try.underlying69
    go_enter Try.func59, Try.ntmps59
    go_wp2_with fail
    go_ret
    exact ⟨_, rfl, Kd.R_nil _ _ _ _ _, Below.refl _ _⟩
  · have HC := Go.Lib.hid hC
    clear hC
    have hq := Go.Lib.run_eql_slice_nil (P := Try.prog) w 69 139 (some ad) n c 0 0 Try.underlying69
    go_enter Try.func59, Try.ntmps59
    go_wp2_with (first | (at_builtin; refine append_clone (d := k139) (flat_iso (flat_pair (flat_int .i64) (flat_int .i64))) w rfl _ _ 69 139 (.agg #[.int .i64 0, .int .i64 0]) 16 rfl Try.underlying69 (by kernel_rfl) rfl (by decide) (by decide) xs ad n c rfl rfl HC.out hn ?_; intro v1 w1 hR1 hB1; have HR1 := Go.Lib.hid hR1; have HB1 := Go.Lib.hid hB1; clear hR1 hB1))
    go_ret
    exact ⟨_, rfl, HR1.out, HB1.out⟩
theorem clone59_st (h : St l w0 w) (A : Option Addr) (n c : Nat) (xs : List S139) (hC : k139.C w A n xs) (hn : n * 16 ≤ 140737488355328) : Calls Try.prog 59 #[.slice A n c] w fun e w' =>
    ∃ A' c', e = .returned (.slice A' xs.length c') ∧ St (SL.row k139 139 (.slice A' xs.length c') xs :: l) w0 w' := by
  refine (clone59_calls A n c xs w hC hn).mono ?_
  rintro e w' ⟨v, rfl, hR, hB⟩
  have HSn := h.row hR hB
  obtain ⟨A', c', rfl, _⟩ := HSn.rowC 0 rfl
  exact ⟨A', c', rfl, HSn⟩
theorem scheds_l0 {ss : List S134} (hs : ss.length ≤ 1000) : ∀ (d i k : Nat), i + d = ss.length → d + 1 ≤ k →
    check_Scheds.l0 k ((ss.take i).map S134.f0) ss (ss.length : Int) (i : Int) = some (ss.map S134.f0)
  | 0, i, k, h, hk => by
    obtain ⟨k, rfl⟩ : ∃ m, k = m + 1 := ⟨k - 1, by omega⟩
    simp only [check_Scheds.l0]
    rw [if_neg (by omega), List.take_of_length_le (by omega)]
  | d + 1, i, k, h, hk => by
    obtain ⟨k, rfl⟩ : ∃ m, k = m + 1 := ⟨k - 1, by omega⟩
    simp only [check_Scheds.l0]
    rw [if_pos (by omega), if_pos (by omega), if_pos (by omega), if_pos (by rw [List.length_map, List.length_take]; omega), wsucc (by omega)]
    have e : (ss.take i).map S134.f0 ++ [(rd_T134 ss i).f0] = (ss.take (i + 1)).map S134.f0 := by
      rw [List.take_succ_eq_append_getElem (by omega), List.map_append]
      unfold rd_T134
      rw [Int.toNat_natCast, List.getD_eq_getElem?_getD, List.getElem?_eq_getElem (by omega)]; rfl
    rw [e]
    exact scheds_l0 hs d (i + 1) k (by omega) (by omega)
theorem scheds_is {ep fi : Int} {ps : List S130} {ss : List S134} {qs : List S139} {av : List S190} (hs : ss.length ≤ 1000) (k : Nat) (hk : ss.length + 1 ≤ k) : check_Scheds.f k ep fi ps ss qs av = some (ss.map S134.f0) :=
  scheds_l0 hs ss.length 0 k (by omega) hk
/-- What latch.Of leaves: rules whose schedules are the module's. -/
def Rul (l : List SL) (w0 : World) (qs : List S139) (ids : List Int) (e : Ending) (w' : World) : Prop :=
  ∃ (g b8 b9 : Nat) (A : Option Addr) (c : Nat) (s m : List (Int × Bool)), e = .returned (.pointer (some ⟨g, 0, none⟩)) ∧ (∀ a, inS s a = true ↔ a ∈ ids) ∧
    St (SL.blk g 141 #[.map (some b8), .map (some b9), .slice A qs.length c] :: SL.map KI b8 (mv s) :: SL.map KI b9 (mv m) :: SL.row k139 139 (.slice A qs.length c) qs :: l) w0 w'
theorem inS_cons (s : List (Int × Bool)) (x : Int) (b : Bool) (a : Int) : inS ((x, b) :: s) a = if x = a then b else inS s a := by
  unfold inS
  rw [List.find?_cons]
  by_cases h : x = a
  · subst h; simp
  · rw [if_neg h]
    have h' : (x == a) = false := by simpa using h
    simp only [h']
set_option maxHeartbeats 3200000 in
set_option maxRecDepth 100000 in
theorem of_st (h : St l w0 w) (hw : w0.heap.size ≤ w.heap.size) (ep fi : Int) (A2 : Option Addr) (c2 : Nat) (ps : List S130) (A3 : Option Addr) (c3 : Nat) (ss : List S134) (A4 : Option Addr) (c4 : Nat) (qs : List S139) (A5 : Option Addr) (c5 : Nat) (av : List S190) (hr2 : Kd.C k130 w0 A2 ps.length ps) (hc2 : ps.length ≤ c2) (hr3 : Kd.C k134 w0 A3 ss.length ss) (hc3 : ss.length ≤ c3) (hr4 : Kd.C k139 w0 A4 qs.length qs) (hc4 : qs.length ≤ c4) (hr5 : Kd.C k190 w0 A5 av.length av) (hc5 : av.length ≤ c5) (bp : ps.length ≤ 40) (bs : ss.length ≤ 20) (bq : qs.length ≤ 250) (ba : av.length ≤ 520) (gp : ∀ p ∈ ps, (Lit.int .i64 p.f0).wf = true) (gs : ∀ s ∈ ss, (Lit.int .i64 s.f0).wf = true) :
    Calls Try.prog 28 #[.agg #[.int .u64 ep, .int .i64 fi, .slice A2 ps.length c2, .slice A3 ss.length c3, .slice A4 qs.length c4, .slice A5 av.length c5]] w (Rul l w0 qs (ss.map S134.f0)) := by
  obtain ⟨K_, hK_⟩ : ∃ K_, K_ = ss.length + 1 := ⟨_, rfl⟩
  have HK := Go.Lib.hid (scheds_is (ep := ep) (fi := fi) (ps := ps) (ss := ss) (qs := qs) (av := av) (by omega) K_ (by omega))
  have HR2 := Go.Lib.hid hr2
  have HR3 := Go.Lib.hid hr3
  have HR4 := Go.Lib.hid hr4
  have HR5 := Go.Lib.hid hr5
  have HS := Go.Lib.hid h
  clear h hr2 hr3 hr4 hr5 hK_
  go_enter Try.func28, Try.ntmps28
  go_wp2_with (first | ((with_reducible refine gate_dst (N := 1) rfl ?_); refine Sl.box_st HS.out (by rfl) (cs := #[.int .u64 ep, .int .i64 fi, .slice A2 ps.length c2, .slice A3 ss.length c3, .slice A4 qs.length c4, .slice A5 av.length c5]) (t := 72) ?hr ?_; (case hr => first | (go_simp; done) | (go_simp; rfl)); intro gM w1_ HSn HBn; clear HBn; replace HS : Hid (St (SL.blk gM 72 #[.int .u64 ep, .int .i64 fi, .slice A2 ps.length c2, .slice A3 ss.length c3, .slice A4 qs.length c4, .slice A5 av.length c5] :: l) w0 w1_) := Go.Lib.hid HSn; clear HSn; obtain ⟨c0_0, c0_1, c0_2, c0_3, c0_4, c0_5⟩ := HS.out.c6 0 _ _ _ _ _ _ _ _ rfl) | ((with_reducible refine gate_dst (N := 8) rfl ?_); refine Sl.map_st KI HS.out (by rfl) ?hr ?_; (case hr => first | (go_simp; done) | (go_simp; rfl)); intro b8 w2_ HSn HBn; clear HBn; replace HS : Hid (St (SL.map KI b8 (mv []) :: SL.blk gM 72 #[.int .u64 ep, .int .i64 fi, .slice A2 ps.length c2, .slice A3 ss.length c3, .slice A4 qs.length c4, .slice A5 av.length c5] :: l) w0 w2_) := Go.Lib.hid HSn; clear HSn; clear c0_0 c0_1 c0_2 c0_3 c0_4 c0_5; obtain ⟨c1_0, c1_1, c1_2, c1_3, c1_4, c1_5⟩ := HS.out.c6 1 _ _ _ _ _ _ _ _ rfl) | ((with_reducible refine gate_dst (N := 9) rfl ?_); refine Sl.map_st KI HS.out (by rfl) ?hr ?_; (case hr => first | (go_simp; done) | (go_simp; rfl)); intro b9 w3_ HSn HBn; clear HBn; replace HS : Hid (St (SL.map KI b9 (mv []) :: SL.map KI b8 (mv []) :: SL.blk gM 72 #[.int .u64 ep, .int .i64 fi, .slice A2 ps.length c2, .slice A3 ss.length c3, .slice A4 qs.length c4, .slice A5 av.length c5] :: l) w0 w3_) := Go.Lib.hid HSn; clear HSn; clear c1_0 c1_1 c1_2 c1_3 c1_4 c1_5; obtain ⟨c2_0, c2_1, c2_2, c2_3, c2_4, c2_5⟩ := HS.out.c6 2 _ _ _ _ _ _ _ _ rfl) | (go_at_call 59; refine (clone59_st HS.out A4 qs.length c4 qs (HS.out.C HR4.out) (by omega)).mono ?_; rintro e w4_ ⟨A, c, rfl, HSn⟩; replace HS : Hid (St (SL.row k139 139 (.slice A qs.length c) qs :: SL.map KI b9 (mv []) :: SL.map KI b8 (mv []) :: SL.blk gM 72 #[.int .u64 ep, .int .i64 fi, .slice A2 ps.length c2, .slice A3 ss.length c3, .slice A4 qs.length c4, .slice A5 av.length c5] :: l) w0 w4_) := Go.Lib.hid HSn; clear HSn; clear c2_0 c2_1 c2_2 c2_3 c2_4 c2_5; obtain ⟨c3_0, c3_1, c3_2, c3_3, c3_4, c3_5⟩ := HS.out.c6 3 _ _ _ _ _ _ _ _ rfl) | ((with_reducible refine gate_dst (N := 14) rfl ?_); refine Sl.box_st HS.out (by rfl) (cs := #[.map (some b8), .map (some b9), .slice A qs.length c]) (t := 141) ?hr ?_; (case hr => first | (go_simp; done) | (go_simp; rfl)); intro g w5_ HSn HBn; clear HBn; replace HS : Hid (St (SL.blk g 141 #[.map (some b8), .map (some b9), .slice A qs.length c] :: SL.row k139 139 (.slice A qs.length c) qs :: SL.map KI b9 (mv []) :: SL.map KI b8 (mv []) :: SL.blk gM 72 #[.int .u64 ep, .int .i64 fi, .slice A2 ps.length c2, .slice A3 ss.length c3, .slice A4 qs.length c4, .slice A5 av.length c5] :: l) w0 w5_) := Go.Lib.hid HSn; clear HSn; clear c3_0 c3_1 c3_2 c3_3 c3_4 c3_5; obtain ⟨c0_0, c0_1, c0_2⟩ := HS.out.c3 0 _ _ _ _ _ rfl; obtain ⟨c4_0, c4_1, c4_2, c4_3, c4_4, c4_5⟩ := HS.out.c6 4 _ _ _ _ _ _ _ _ rfl) | (go_at_call 60; refine (check_Scheds.calls K_ ep fi A2 c2 ps A3 c3 ss A4 c4 qs A5 c5 av (ss.map S134.f0) _ (HS.out.C HR2.out) hc2 (HS.out.C HR3.out) hc3 (HS.out.C HR4.out) hc4 (HS.out.C HR5.out) hc5 HK.out).mono ?_; rintro e w6_ ⟨v6, rfl, hR6, hB6⟩; have HSn := HS.out.row hR6 hB6; obtain ⟨A6, c6, hv6, _⟩ := HSn.rowC 0 rfl; subst hv6; replace HS : Hid (St (SL.row (Kd.int .i64) 3 (.slice A6 (ss.map S134.f0).length c6) (ss.map S134.f0) :: SL.blk g 141 #[.map (some b8), .map (some b9), .slice A qs.length c] :: SL.row k139 139 (.slice A qs.length c) qs :: SL.map KI b9 (mv []) :: SL.map KI b8 (mv []) :: SL.blk gM 72 #[.int .u64 ep, .int .i64 fi, .slice A2 ps.length c2, .slice A3 ss.length c3, .slice A4 qs.length c4, .slice A5 av.length c5] :: l) w0 w6_) := Go.Lib.hid HSn; clear HSn hR6 hB6; clear c0_0 c0_1 c0_2 c4_0 c4_1 c4_2 c4_3 c4_4 c4_5; obtain ⟨c1_0, c1_1, c1_2⟩ := HS.out.c3 1 _ _ _ _ _ rfl; obtain ⟨c5_0, c5_1, c5_2, c5_3, c5_4, c5_5⟩ := HS.out.c6 5 _ _ _ _ _ _ _ _ rfl))
  clear c1_0 c1_1 c1_2 c5_0 c5_1 c5_2 c5_3 c5_4 c5_5
  go_loopw [18] (fun i wr => ∃ (k : Nat) (s : List (Int × Bool)), k ≤ ss.length ∧ i = .int .i64 k ∧ s.length = k ∧ (∀ a, inS s a = true ↔ a ∈ (ss.map S134.f0).take k) ∧ St (SL.row (Kd.int .i64) 3 (.slice A6 (ss.map S134.f0).length c6) (ss.map S134.f0) :: SL.blk g 141 #[.map (some b8), .map (some b9), .slice A qs.length c] :: SL.row k139 139 (.slice A qs.length c) qs :: SL.map KI b9 (mv []) :: SL.map KI b8 (mv s) :: SL.blk gM 72 #[.int .u64 ep, .int .i64 fi, .slice A2 ps.length c2, .slice A3 ss.length c3, .slice A4 qs.length c4, .slice A5 av.length c5] :: l) w0 wr) (fun i _ => ss.length - (intOf i).toNat)
  case atStart => exact ⟨0, [], Nat.zero_le _, rfl, rfl, fun a => by simp [inS], HS.out⟩
  case round =>
    clear HS
    obtain ⟨k, s, hk, rfl, hsl, hsi, hS⟩ := hrel
    have HS := Go.Lib.hid hS
    have HSI := Go.Lib.hid hsi
    have HSL := Go.Lib.hid hsl
    clear hS hsi hsl
    obtain ⟨c1_0, c1_1, c1_2⟩ := HS.out.c3 1 _ _ _ _ _ rfl
    obtain ⟨c5_0, c5_1, c5_2, c5_3, c5_4, c5_5⟩ := HS.out.c6 5 _ _ _ _ _ _ _ _ rfl
    by_cases hlt : k < ss.length
    · obtain ⟨_, _, hv6, _, hC6⟩ := HS.out.rowC 0 rfl
      injection hv6 with q1 _ q2
      subst q1 q2
      obtain ⟨ad, rfl, g0⟩ := Kd.at_int hC6 (k : Int) (by omega) (by rw [List.length_map]; omega)
      rw [Int.toNat_natCast] at g0
      have hlt2 : k < (ss.map S134.f0).length := by rw [List.length_map]; exact hlt
      have hx : rd (ss.map S134.f0) (k : Int) = (ss.map S134.f0)[k] := by unfold rd; rw [Int.toNat_natCast, List.getD_eq_getElem?_getD, List.getElem?_eq_getElem hlt2]; rfl
      have htk : (ss.map S134.f0).take (k + 1) = (ss.map S134.f0).take k ++ [rd (ss.map S134.f0) (k : Int)] := by rw [List.take_succ_eq_append_getElem hlt2, hx]
      have hgx : (Lit.int .i64 (rd (ss.map S134.f0) (k : Int))).wf = true := by rw [hx, List.getElem_map]; exact gs _ (List.getElem_mem _)
      generalize rd (ss.map S134.f0) (k : Int) = x at *
      have HX : Hid (KI.ok x) := Go.Lib.hid hgx
      have HT := Go.Lib.hid htk
      have HM : Hid ((mv s).length < maxLen) := Go.Lib.hid (by unfold mv maxLen; rw [List.length_map, HSL.out]; omega)
      clear hx htk hgx hC6
      have hle : (ss.map S134.f0).length = ss.length := List.length_map _
      have h1le : (k : Int) < (((ss.map S134.f0).length : Nat) : Int) := by omega
      clear hle hlt2
      go_wp2_with (first | (at_mapUpdate; refine Sl.mapset_st HS.out 4 rfl 136 4 Try.underlying136 x (.bool true) HX.out HM.out rfl rfl (.tmp 25) (.tmp 26) (.const (.bool true)) rfl rfl rfl rfl ?_; intro w21_ HSn; replace HS : Hid (St (SL.row (Kd.int .i64) 3 (.slice (some ad) (ss.map S134.f0).length c6) (ss.map S134.f0) :: SL.blk g 141 #[.map (some b8), .map (some b9), .slice A qs.length c] :: SL.row k139 139 (.slice A qs.length c) qs :: SL.map KI b9 (mv []) :: SL.map KI b8 (mv ((x, true) :: s)) :: SL.blk gM 72 #[.int .u64 ep, .int .i64 fi, .slice A2 ps.length c2, .slice A3 ss.length c3, .slice A4 qs.length c4, .slice A5 av.length c5] :: l) w0 w21_) := Go.Lib.hid HSn; clear HSn; clear c1_0 c1_1 c1_2 c5_0 c5_1 c5_2 c5_3 c5_4 c5_5; obtain ⟨c1_0, c1_1, c1_2⟩ := HS.out.c3 1 _ _ _ _ _ rfl; obtain ⟨c5_0, c5_1, c5_2, c5_3, c5_4, c5_5⟩ := HS.out.c6 5 _ _ _ _ _ _ _ _ rfl))
      go_roundw
      case rel => exact ⟨k + 1, (x, true) :: s, hlt, rfl, by rw [List.length_cons, HSL.out], fun a => by rw [HT.out, inS_cons, List.mem_append, List.mem_singleton]; by_cases e : x = a; (· rw [if_pos e]; simp [e]); (· rw [if_neg e, HSI.out]; exact ⟨.inl, fun h => h.elim id (fun h => absurd h.symm e)⟩), HS.out⟩
      case measure => simp [intOf]; omega
    · obtain rfl : k = ss.length := by omega
      rw [show (ss.map S134.f0).take ss.length = (ss.map S134.f0) from List.take_of_length_le (by simp)] at HSI
      clear hk hlt HSL
      have hle2 : ¬ ((ss.length : Nat) : Int) < (((ss.map S134.f0).length : Nat) : Int) := by rw [List.length_map]; omega
      go_wp2_with fail
      clear hle2
      clear c1_0 c1_1 c1_2 c5_0 c5_1 c5_2 c5_3 c5_4 c5_5
      go_loopw [31] (fun i wr => ∃ (k : Nat) (m : List (Int × Bool)), k ≤ ps.length ∧ i = .int .i64 k ∧ m.length = k ∧ St (SL.row (Kd.int .i64) 3 (.slice A6 (ss.map S134.f0).length c6) (ss.map S134.f0) :: SL.blk g 141 #[.map (some b8), .map (some b9), .slice A qs.length c] :: SL.row k139 139 (.slice A qs.length c) qs :: SL.map KI b9 (mv m) :: SL.map KI b8 (mv s) :: SL.blk gM 72 #[.int .u64 ep, .int .i64 fi, .slice A2 ps.length c2, .slice A3 ss.length c3, .slice A4 qs.length c4, .slice A5 av.length c5] :: l) w0 wr) (fun i _ => ps.length - (intOf i).toNat)
      case atStart => exact ⟨0, [], Nat.zero_le _, rfl, rfl, HS.out⟩
      case round =>
        clear HS
        obtain ⟨k, m, hk, rfl, hml, hS⟩ := hrel
        have HS := Go.Lib.hid hS
        have HML := Go.Lib.hid hml
        clear hS hml
        obtain ⟨c1_0, c1_1, c1_2⟩ := HS.out.c3 1 _ _ _ _ _ rfl
        obtain ⟨c5_0, c5_1, c5_2, c5_3, c5_4, c5_5⟩ := HS.out.c6 5 _ _ _ _ _ _ _ _ rfl
        by_cases hlt : k < ps.length
        · obtain ⟨ad, B3, d3, rfl, g0, g1, g2, g3, _, _⟩ := at_T130 HR2.out (k : Int) (by omega) (by omega)
          rw [Int.toNat_natCast] at g0 g1 g2 g3
          replace g0 := HS.out.old g0
          replace g1 := HS.out.old g1
          replace g2 := HS.out.old g2
          replace g3 := HS.out.old g3
          have hgx : (Lit.int .i64 (rd_T130 ps (k : Int)).f0).wf = true := by unfold rd_T130; rw [Int.toNat_natCast, List.getD_eq_getElem?_getD, List.getElem?_eq_getElem hlt]; exact gp _ (List.getElem_mem _)
          generalize rd_T130 ps (k : Int) = x at *
          have HX : Hid (KI.ok x.f0) := Go.Lib.hid hgx
          have HM : Hid ((mv m).length < maxLen) := Go.Lib.hid (by unfold mv maxLen; rw [List.length_map, HML.out]; omega)
          clear hgx
          go_upto_region 10 with (first | ((with_reducible refine gate_dst (N := 7) rfl ?_); refine Sl.box_st HS.out (by rfl) (cs := #[.int .i64 0, .string ⟨#[]⟩, .bool false, .slice none 0 0]) (t := 130) ?hr ?_; (case hr => first | (go_simp; done) | (go_simp; rfl)); intro g7 w41_ HSn HBn; clear HBn; replace HS : Hid (St (SL.blk g7 130 #[.int .i64 0, .string ⟨#[]⟩, .bool false, .slice none 0 0] :: SL.row (Kd.int .i64) 3 (.slice A6 (ss.map S134.f0).length c6) (ss.map S134.f0) :: SL.blk g 141 #[.map (some b8), .map (some b9), .slice A qs.length c] :: SL.row k139 139 (.slice A qs.length c) qs :: SL.map KI b9 (mv m) :: SL.map KI b8 (mv s) :: SL.blk gM 72 #[.int .u64 ep, .int .i64 fi, .slice (some ad) ps.length c2, .slice A3 ss.length c3, .slice A4 qs.length c4, .slice A5 av.length c5] :: l) w0 w41_) := Go.Lib.hid HSn; clear HSn; clear c1_0 c1_1 c1_2 c5_0 c5_1 c5_2 c5_3 c5_4 c5_5; obtain ⟨c0_0, c0_1, c0_2, c0_3⟩ := HS.out.c4 0 _ _ _ _ _ _ rfl; obtain ⟨c2_0, c2_1, c2_2⟩ := HS.out.c3 2 _ _ _ _ _ rfl; obtain ⟨c6_0, c6_1, c6_2, c6_3, c6_4, c6_5⟩ := HS.out.c6 6 _ _ _ _ _ _ _ _ rfl) | ((with_reducible refine gate_store (p := 7) rfl ?_); refine Sl.storeAll_st HS.out 0 g7 130 _ rfl [.int .i64 x.f0, .string x.f1, .bool x.f2, .slice B3 x.f3.length d3] rfl (by rfl) (by rfl) ?hr ?_; (case hr => have f_ := HS.out.f4 0 _ _ _ _ _ _ rfl; (try obtain ⟨f0, f1, f2, f3⟩ := f_); first | (go_simp; done) | (go_simp; rfl)); intro w42_ HSn; replace HS : Hid (St (SL.blk g7 130 #[.int .i64 x.f0, .string x.f1, .bool x.f2, .slice B3 x.f3.length d3] :: SL.row (Kd.int .i64) 3 (.slice A6 (ss.map S134.f0).length c6) (ss.map S134.f0) :: SL.blk g 141 #[.map (some b8), .map (some b9), .slice A qs.length c] :: SL.row k139 139 (.slice A qs.length c) qs :: SL.map KI b9 (mv m) :: SL.map KI b8 (mv s) :: SL.blk gM 72 #[.int .u64 ep, .int .i64 fi, .slice (some ad) ps.length c2, .slice A3 ss.length c3, .slice A4 qs.length c4, .slice A5 av.length c5] :: l) w0 w42_) := Go.Lib.hid HSn; clear HSn; clear c0_0 c0_1 c0_2 c0_3 c2_0 c2_1 c2_2 c6_0 c6_1 c6_2 c6_3 c6_4 c6_5; obtain ⟨c0_0, c0_1, c0_2, c0_3⟩ := HS.out.c4 0 _ _ _ _ _ _ rfl; obtain ⟨c2_0, c2_1, c2_2⟩ := HS.out.c3 2 _ _ _ _ _ rfl; obtain ⟨c6_0, c6_1, c6_2, c6_3, c6_4, c6_5⟩ := HS.out.c6 6 _ _ _ _ _ _ _ _ rfl))
          clear g0 g1 g2 g3 c0_0 c0_1 c0_2 c0_3 c2_0 c2_1 c2_2 c6_0 c6_1 c6_2 c6_3 c6_4 c6_5
          replace HS := Go.Lib.hid HS.out.drew
          cases hb : inS m x.f0
          · have HB := Go.Lib.hid hb
            clear hb
            refine start_ (n := 18) (S := fun w' => (w'.cell? ⟨g7, 0, none⟩ = some (.int .i64 x.f0) ∧ w'.cell? ⟨g7, 1, none⟩ = some (.string x.f1) ∧ w'.cell? ⟨g7, 2, none⟩ = some (.bool x.f2)) ∧ (w'.cell? ⟨g, 0, none⟩ = some (.map (some b8)) ∧ w'.cell? ⟨g, 1, none⟩ = some (.map (some b9)) ∧ w'.cell? ⟨g, 2, none⟩ = some (.slice A qs.length c))) (ds := [17]) #[false, false, false, false, false, false, false, false, false, false, false, false, false, false, false, false, false, false] (by kernel_rfl) rfl rfl ⟨⟨HS.out.cell 0 _ _ _ rfl 0, HS.out.cell 0 _ _ _ rfl 1, HS.out.cell 0 _ _ _ rfl 2⟩, HS.out.c3 2 _ _ _ _ _ rfl⟩ (fun hHeld => ?_)
            generalize w42_.drew = W_ at *
            refine pure_ (i := 0) (N := some 35) (v := ?_) (a' := ?_) #[true, false, false, false, false, false, false, false, false, false, false, false, false, false, false, false, false, false] rfl rfl (by kernel_rfl) (fun _ _ _ h => h) (Or.inl ⟨by rfl, ?_⟩) ?_ ?_
            rotate_left
            · intro w'
              go_simp
              with_reducible rfl
            rotate_left
            · simp only [Act.put, List.setIfInBounds_toArray, List.set_cons_zero, List.set_cons_succ, i64_w, i32_w]
              rfl
            refine pure_ (i := 1) (N := some 36) (v := ?_) (a' := ?_) #[true, true, false, false, false, false, false, false, false, false, false, false, false, false, false, false, false, false] rfl rfl (by kernel_rfl) (fun _ _ _ h => h) (Or.inl ⟨by rfl, ?_⟩) ?_ ?_
            rotate_left
            · intro w'
              go_simp
              with_reducible rfl
            rotate_left
            · simp only [Act.put, List.setIfInBounds_toArray, List.set_cons_zero, List.set_cons_succ, i64_w, i32_w]
              rfl
            refine pure_ (i := 2) (N := some 37) (v := ?_) (a' := ?_) #[true, true, true, false, false, false, false, false, false, false, false, false, false, false, false, false, false, false] rfl rfl (by kernel_rfl) (fun _ _ _ h => h) (Or.inl ⟨by rfl, ?_⟩) ?_ ?_
            rotate_left
            · intro w'
              go_simp
              with_reducible rfl
            rotate_left
            · simp only [Act.put, List.setIfInBounds_toArray, List.set_cons_zero, List.set_cons_succ, i64_w, i32_w]
              rfl
            refine pure_ (i := 4) (N := some 39) (v := ?_) (a' := ?_) #[true, true, true, false, true, false, false, false, false, false, false, false, false, false, false, false, false, false] rfl rfl (by kernel_rfl) (fun _ _ _ h => h) (Or.inl ⟨by rfl, ?_⟩) ?_ ?_
            rotate_left
            · intro w'
              go_simp
              with_reducible rfl
            rotate_left
            · simp only [Act.put, List.setIfInBounds_toArray, List.set_cons_zero, List.set_cons_succ, i64_w, i32_w]
              rfl
            refine pure_ (i := 6) (N := some 41) (v := ?_) (a' := ?_) #[true, true, true, false, true, false, true, false, false, false, false, false, false, false, false, false, false, false] rfl rfl (by kernel_rfl) (fun _ _ _ h => h) (Or.inl ⟨by rfl, ?_⟩) ?_ ?_
            rotate_left
            · intro w'
              go_simp
              with_reducible rfl
            rotate_left
            · simp only [Act.put, List.setIfInBounds_toArray, List.set_cons_zero, List.set_cons_succ, i64_w, i32_w]
              rfl
            refine pure_ (i := 7) (N := some 42) (v := ?_) (a' := ?_) #[true, true, true, false, true, false, true, true, false, false, false, false, false, false, false, false, false, false] rfl rfl (by kernel_rfl) (fun _ _ _ h => h) (Or.inl ⟨by rfl, ?_⟩) ?_ ?_
            rotate_left
            · intro w'
              go_simp
              with_reducible rfl
            rotate_left
            · simp only [Act.put, List.setIfInBounds_toArray, List.set_cons_zero, List.set_cons_succ, i64_w, i32_w]
              rfl
            refine pure_ (i := 8) (N := some 43) (v := ?_) (a' := ?_) #[true, true, true, false, true, false, true, true, true, false, false, false, false, false, false, false, false, false] rfl rfl (by kernel_rfl) (fun _ _ _ h => h) (Or.inl ⟨by rfl, ?_⟩) ?_ ?_
            rotate_left
            · intro w'
              go_simp
              with_reducible rfl
            rotate_left
            · simp only [Act.put, List.setIfInBounds_toArray, List.set_cons_zero, List.set_cons_succ, i64_w, i32_w]
              rfl
            refine pure_ (i := 10) (N := some 45) (v := ?_) (a' := ?_) #[true, true, true, false, true, false, true, true, true, false, true, false, false, false, false, false, false, false] rfl rfl (by kernel_rfl) (fun _ _ _ h => h) (Or.inl ⟨by rfl, ?_⟩) ?_ ?_
            rotate_left
            · intro w'
              go_simp
              with_reducible rfl
            rotate_left
            · simp only [Act.put, List.setIfInBounds_toArray, List.set_cons_zero, List.set_cons_succ, i64_w, i32_w]
              rfl
            refine take_ (i := 3) (N := some 38) (v := ?_) (a' := ?_) #[true, true, true, true, true, false, true, true, true, false, true, false, false, false, false, false, false, false] rfl rfl (by kernel_rfl) (fun _ _ _ h => h) (Or.inl ⟨by rfl, ?_⟩) hHeld ?_ ?_
            rotate_left
            · rintro w' ⟨⟨s0, s1, s2⟩, s3, s4, s5⟩
              go_simp
              with_reducible rfl
            rotate_left
            · simp only [Act.put, List.setIfInBounds_toArray, List.set_cons_zero, List.set_cons_succ, i64_w, i32_w]
              rfl
            refine take_ (i := 5) (N := some 40) (v := ?_) (a' := ?_) #[true, true, true, true, true, true, true, true, true, false, true, false, false, false, false, false, false, false] rfl rfl (by kernel_rfl) (fun _ _ _ h => h) (Or.inl ⟨by rfl, ?_⟩) hHeld ?_ ?_
            rotate_left
            · rintro w' ⟨⟨s0, s1, s2⟩, s3, s4, s5⟩
              go_simp
              with_reducible rfl
            rotate_left
            · simp only [Act.put, List.setIfInBounds_toArray, List.set_cons_zero, List.set_cons_succ, i64_w, i32_w]
              rfl
            refine take_ (i := 9) (N := some 44) (v := ?_) (a' := ?_) #[true, true, true, true, true, true, true, true, true, true, true, false, false, false, false, false, false, false] rfl rfl (by kernel_rfl) (fun _ _ _ h => h) (Or.inl ⟨by rfl, ?_⟩) hHeld ?_ ?_
            rotate_left
            · rintro w' ⟨⟨s0, s1, s2⟩, s3, s4, s5⟩
              go_simp
              with_reducible rfl
            rotate_left
            · simp only [Act.put, List.setIfInBounds_toArray, List.set_cons_zero, List.set_cons_succ, i64_w, i32_w]
              rfl
            refine take_ (i := 11) (N := some 46) (v := ?_) (a' := ?_) #[true, true, true, true, true, true, true, true, true, true, true, true, false, false, false, false, false, false] rfl rfl (by kernel_rfl) (fun _ _ _ h => h) (Or.inl ⟨by rfl, ?_⟩) hHeld ?_ ?_
            rotate_left
            · rintro w' ⟨⟨s0, s1, s2⟩, s3, s4, s5⟩
              go_simp
              with_reducible rfl
            rotate_left
            · simp only [Act.put, List.setIfInBounds_toArray, List.set_cons_zero, List.set_cons_succ, i64_w, i32_w]
              rfl
            refine one_ (i := 12) (N := some 47) #[true, true, true, true, true, true, true, true, true, true, true, true, true, false, false, false, false, false] rfl rfl (by kernel_rfl) (by decide) (fun K hK => ?_)
            refine Sl.lookup_stp HS.out 4 rfl 136 4 Try.underlying136 (zero4 _) x.f0 HX.out (by rfl) (.tmp 44) (.tmp 46) rfl rfl rfl ?_
            rw [look_mv, HB.out]
            refine hK.out _ _ ⟨⟨HS.out.cell 0 _ _ _ rfl 0, HS.out.cell 0 _ _ _ rfl 1, HS.out.cell 0 _ _ _ rfl 2⟩, HS.out.c3 2 _ _ _ _ _ rfl⟩ (fun hHeld => ?_)
            clear hK K
            refine norm_ (a' := ?_) ?_ ?_
            rotate_left
            · show Act.put _ (some 47) _ = _
              simp only [Act.put, List.setIfInBounds_toArray, List.set_cons_zero, List.set_cons_succ, i64_w, i32_w]
              rfl
            refine pure_ (i := 13) (N := some 48) (v := ?_) (a' := ?_) #[true, true, true, true, true, true, true, true, true, true, true, true, true, true, false, false, false, false] rfl rfl (by kernel_rfl) (fun _ _ _ h => h) (Or.inl ⟨by rfl, ?_⟩) ?_ ?_
            rotate_left
            · intro w'
              go_simp
              with_reducible rfl
            rotate_left
            · simp only [Act.put, List.setIfInBounds_toArray, List.set_cons_zero, List.set_cons_succ, i64_w, i32_w]
              rfl
            refine pure_ (i := 14) (N := some 49) (v := ?_) (a' := ?_) #[true, true, true, true, true, true, true, true, true, true, true, true, true, true, true, false, false, false] rfl rfl (by kernel_rfl) (fun _ _ _ h => h) (Or.inl ⟨by rfl, ?_⟩) ?_ ?_
            rotate_left
            · intro w'
              go_simp
              with_reducible rfl
            rotate_left
            · simp only [Act.put, List.setIfInBounds_toArray, List.set_cons_zero, List.set_cons_succ, i64_w, i32_w]
              rfl
            refine take_ (i := 15) (N := some 50) (v := ?_) (a' := ?_) #[true, true, true, true, true, true, true, true, true, true, true, true, true, true, true, true, false, false] rfl rfl (by kernel_rfl) (fun _ _ _ h => h) (Or.inl ⟨by rfl, ?_⟩) hHeld ?_ ?_
            rotate_left
            · rintro w' ⟨⟨s0, s1, s2⟩, s3, s4, s5⟩
              go_simp
              with_reducible rfl
            rotate_left
            · simp only [Act.put, List.setIfInBounds_toArray, List.set_cons_zero, List.set_cons_succ, i64_w, i32_w]
              rfl
            refine pure_ (i := 16) (N := some 51) (v := ?_) (a' := ?_) #[true, true, true, true, true, true, true, true, true, true, true, true, true, true, true, true, true, false] rfl rfl (by kernel_rfl) (fun _ _ _ h => h) (Or.inl ⟨by rfl, ?_⟩) ?_ ?_
            rotate_left
            · intro w'
              go_simp
              with_reducible rfl
            rotate_left
            · simp only [Act.put, List.setIfInBounds_toArray, List.set_cons_zero, List.set_cons_succ, i64_w, i32_w]
              rfl
            refine last_ (i := 17) (N := none) #[true, true, true, true, true, true, true, true, true, true, true, true, true, true, true, true, true, true] rfl rfl (by kernel_rfl) (by decide) (fun K hK => ?_)
            refine Sl.mapset_stp HS.out 4 rfl 136 4 Try.underlying136 x.f0 (.bool x.f2) HX.out HM.out (by rfl) rfl (.tmp 38) (.tmp 40) (.tmp 51) rfl rfl rfl rfl ?_
            intro w81_ HSm
            refine hK.out _ _ ?_
            clear hK K
            refine done_ (by kernel_rfl) ?_
            replace HS := Go.Lib.hid HSm
            clear HSm
            go_wp2_with fail
            go_roundw
            case rel => exact ⟨k + 1, (x.f0, x.f2) :: m, hlt, rfl, by rw [List.length_cons, HML.out], HS.out.drop⟩
            case measure => simp [intOf]; omega
          · have HB := Go.Lib.hid hb
            clear hb
            refine start_ (n := 18) (S := fun w' => (w'.cell? ⟨g7, 0, none⟩ = some (.int .i64 x.f0) ∧ w'.cell? ⟨g7, 1, none⟩ = some (.string x.f1) ∧ w'.cell? ⟨g7, 2, none⟩ = some (.bool x.f2)) ∧ (w'.cell? ⟨g, 0, none⟩ = some (.map (some b8)) ∧ w'.cell? ⟨g, 1, none⟩ = some (.map (some b9)) ∧ w'.cell? ⟨g, 2, none⟩ = some (.slice A qs.length c))) (ds := [17]) #[false, false, false, false, false, false, false, false, false, false, false, false, false, false, false, false, false, false] (by kernel_rfl) rfl rfl ⟨⟨HS.out.cell 0 _ _ _ rfl 0, HS.out.cell 0 _ _ _ rfl 1, HS.out.cell 0 _ _ _ rfl 2⟩, HS.out.c3 2 _ _ _ _ _ rfl⟩ (fun hHeld => ?_)
            generalize w42_.drew = W_ at *
            refine pure_ (i := 0) (N := some 35) (v := ?_) (a' := ?_) #[true, false, false, false, false, false, false, false, false, false, false, false, false, false, false, false, false, false] rfl rfl (by kernel_rfl) (fun _ _ _ h => h) (Or.inl ⟨by rfl, ?_⟩) ?_ ?_
            rotate_left
            · intro w'
              go_simp
              with_reducible rfl
            rotate_left
            · simp only [Act.put, List.setIfInBounds_toArray, List.set_cons_zero, List.set_cons_succ, i64_w, i32_w]
              rfl
            refine pure_ (i := 1) (N := some 36) (v := ?_) (a' := ?_) #[true, true, false, false, false, false, false, false, false, false, false, false, false, false, false, false, false, false] rfl rfl (by kernel_rfl) (fun _ _ _ h => h) (Or.inl ⟨by rfl, ?_⟩) ?_ ?_
            rotate_left
            · intro w'
              go_simp
              with_reducible rfl
            rotate_left
            · simp only [Act.put, List.setIfInBounds_toArray, List.set_cons_zero, List.set_cons_succ, i64_w, i32_w]
              rfl
            refine pure_ (i := 2) (N := some 37) (v := ?_) (a' := ?_) #[true, true, true, false, false, false, false, false, false, false, false, false, false, false, false, false, false, false] rfl rfl (by kernel_rfl) (fun _ _ _ h => h) (Or.inl ⟨by rfl, ?_⟩) ?_ ?_
            rotate_left
            · intro w'
              go_simp
              with_reducible rfl
            rotate_left
            · simp only [Act.put, List.setIfInBounds_toArray, List.set_cons_zero, List.set_cons_succ, i64_w, i32_w]
              rfl
            refine pure_ (i := 4) (N := some 39) (v := ?_) (a' := ?_) #[true, true, true, false, true, false, false, false, false, false, false, false, false, false, false, false, false, false] rfl rfl (by kernel_rfl) (fun _ _ _ h => h) (Or.inl ⟨by rfl, ?_⟩) ?_ ?_
            rotate_left
            · intro w'
              go_simp
              with_reducible rfl
            rotate_left
            · simp only [Act.put, List.setIfInBounds_toArray, List.set_cons_zero, List.set_cons_succ, i64_w, i32_w]
              rfl
            refine pure_ (i := 6) (N := some 41) (v := ?_) (a' := ?_) #[true, true, true, false, true, false, true, false, false, false, false, false, false, false, false, false, false, false] rfl rfl (by kernel_rfl) (fun _ _ _ h => h) (Or.inl ⟨by rfl, ?_⟩) ?_ ?_
            rotate_left
            · intro w'
              go_simp
              with_reducible rfl
            rotate_left
            · simp only [Act.put, List.setIfInBounds_toArray, List.set_cons_zero, List.set_cons_succ, i64_w, i32_w]
              rfl
            refine pure_ (i := 7) (N := some 42) (v := ?_) (a' := ?_) #[true, true, true, false, true, false, true, true, false, false, false, false, false, false, false, false, false, false] rfl rfl (by kernel_rfl) (fun _ _ _ h => h) (Or.inl ⟨by rfl, ?_⟩) ?_ ?_
            rotate_left
            · intro w'
              go_simp
              with_reducible rfl
            rotate_left
            · simp only [Act.put, List.setIfInBounds_toArray, List.set_cons_zero, List.set_cons_succ, i64_w, i32_w]
              rfl
            refine pure_ (i := 8) (N := some 43) (v := ?_) (a' := ?_) #[true, true, true, false, true, false, true, true, true, false, false, false, false, false, false, false, false, false] rfl rfl (by kernel_rfl) (fun _ _ _ h => h) (Or.inl ⟨by rfl, ?_⟩) ?_ ?_
            rotate_left
            · intro w'
              go_simp
              with_reducible rfl
            rotate_left
            · simp only [Act.put, List.setIfInBounds_toArray, List.set_cons_zero, List.set_cons_succ, i64_w, i32_w]
              rfl
            refine pure_ (i := 10) (N := some 45) (v := ?_) (a' := ?_) #[true, true, true, false, true, false, true, true, true, false, true, false, false, false, false, false, false, false] rfl rfl (by kernel_rfl) (fun _ _ _ h => h) (Or.inl ⟨by rfl, ?_⟩) ?_ ?_
            rotate_left
            · intro w'
              go_simp
              with_reducible rfl
            rotate_left
            · simp only [Act.put, List.setIfInBounds_toArray, List.set_cons_zero, List.set_cons_succ, i64_w, i32_w]
              rfl
            refine take_ (i := 3) (N := some 38) (v := ?_) (a' := ?_) #[true, true, true, true, true, false, true, true, true, false, true, false, false, false, false, false, false, false] rfl rfl (by kernel_rfl) (fun _ _ _ h => h) (Or.inl ⟨by rfl, ?_⟩) hHeld ?_ ?_
            rotate_left
            · rintro w' ⟨⟨s0, s1, s2⟩, s3, s4, s5⟩
              go_simp
              with_reducible rfl
            rotate_left
            · simp only [Act.put, List.setIfInBounds_toArray, List.set_cons_zero, List.set_cons_succ, i64_w, i32_w]
              rfl
            refine take_ (i := 5) (N := some 40) (v := ?_) (a' := ?_) #[true, true, true, true, true, true, true, true, true, false, true, false, false, false, false, false, false, false] rfl rfl (by kernel_rfl) (fun _ _ _ h => h) (Or.inl ⟨by rfl, ?_⟩) hHeld ?_ ?_
            rotate_left
            · rintro w' ⟨⟨s0, s1, s2⟩, s3, s4, s5⟩
              go_simp
              with_reducible rfl
            rotate_left
            · simp only [Act.put, List.setIfInBounds_toArray, List.set_cons_zero, List.set_cons_succ, i64_w, i32_w]
              rfl
            refine take_ (i := 9) (N := some 44) (v := ?_) (a' := ?_) #[true, true, true, true, true, true, true, true, true, true, true, false, false, false, false, false, false, false] rfl rfl (by kernel_rfl) (fun _ _ _ h => h) (Or.inl ⟨by rfl, ?_⟩) hHeld ?_ ?_
            rotate_left
            · rintro w' ⟨⟨s0, s1, s2⟩, s3, s4, s5⟩
              go_simp
              with_reducible rfl
            rotate_left
            · simp only [Act.put, List.setIfInBounds_toArray, List.set_cons_zero, List.set_cons_succ, i64_w, i32_w]
              rfl
            refine take_ (i := 11) (N := some 46) (v := ?_) (a' := ?_) #[true, true, true, true, true, true, true, true, true, true, true, true, false, false, false, false, false, false] rfl rfl (by kernel_rfl) (fun _ _ _ h => h) (Or.inl ⟨by rfl, ?_⟩) hHeld ?_ ?_
            rotate_left
            · rintro w' ⟨⟨s0, s1, s2⟩, s3, s4, s5⟩
              go_simp
              with_reducible rfl
            rotate_left
            · simp only [Act.put, List.setIfInBounds_toArray, List.set_cons_zero, List.set_cons_succ, i64_w, i32_w]
              rfl
            refine one_ (i := 12) (N := some 47) #[true, true, true, true, true, true, true, true, true, true, true, true, true, false, false, false, false, false] rfl rfl (by kernel_rfl) (by decide) (fun K hK => ?_)
            refine Sl.lookup_stp HS.out 4 rfl 136 4 Try.underlying136 (zero4 _) x.f0 HX.out (by rfl) (.tmp 44) (.tmp 46) rfl rfl rfl ?_
            rw [look_mv, HB.out]
            refine hK.out _ _ ⟨⟨HS.out.cell 0 _ _ _ rfl 0, HS.out.cell 0 _ _ _ rfl 1, HS.out.cell 0 _ _ _ rfl 2⟩, HS.out.c3 2 _ _ _ _ _ rfl⟩ (fun hHeld => ?_)
            clear hK K
            refine norm_ (a' := ?_) ?_ ?_
            rotate_left
            · show Act.put _ (some 47) _ = _
              simp only [Act.put, List.setIfInBounds_toArray, List.set_cons_zero, List.set_cons_succ, i64_w, i32_w]
              rfl
            refine pure_ (i := 13) (N := some 48) (v := ?_) (a' := ?_) #[true, true, true, true, true, true, true, true, true, true, true, true, true, true, false, false, false, false] rfl rfl (by kernel_rfl) (fun _ _ _ h => h) (Or.inl ⟨by rfl, ?_⟩) ?_ ?_
            rotate_left
            · intro w'
              go_simp
              with_reducible rfl
            rotate_left
            · simp only [Act.put, List.setIfInBounds_toArray, List.set_cons_zero, List.set_cons_succ, i64_w, i32_w]
              rfl
            refine pure_ (i := 14) (N := some 49) (v := undef) (a' := ?_) #[true, true, true, true, true, true, true, true, true, true, true, true, true, true, true, false, false, false] rfl rfl (by kernel_rfl) (fun _ _ _ h => h) (Or.inr ⟨by rfl, rfl⟩) ?_ ?_
            rotate_left
            · show _ = _
              simp only [Act.put, List.setIfInBounds_toArray, List.set_cons_zero, List.set_cons_succ, i64_w, i32_w]
              rfl
            refine pure_ (i := 15) (N := some 50) (v := undef) (a' := ?_) #[true, true, true, true, true, true, true, true, true, true, true, true, true, true, true, true, false, false] rfl rfl (by kernel_rfl) (fun _ _ _ h => h) (Or.inr ⟨by rfl, rfl⟩) ?_ ?_
            rotate_left
            · show _ = _
              simp only [Act.put, List.setIfInBounds_toArray, List.set_cons_zero, List.set_cons_succ, i64_w, i32_w]
              rfl
            refine pure_ (i := 16) (N := some 51) (v := ?_) (a' := ?_) #[true, true, true, true, true, true, true, true, true, true, true, true, true, true, true, true, true, false] rfl rfl (by kernel_rfl) (fun _ _ _ h => h) (Or.inl ⟨by rfl, ?_⟩) ?_ ?_
            rotate_left
            · intro w'
              go_simp
              with_reducible rfl
            rotate_left
            · simp only [Act.put, List.setIfInBounds_toArray, List.set_cons_zero, List.set_cons_succ, i64_w, i32_w]
              rfl
            refine last_ (i := 17) (N := none) #[true, true, true, true, true, true, true, true, true, true, true, true, true, true, true, true, true, true] rfl rfl (by kernel_rfl) (by decide) (fun K hK => ?_)
            refine Sl.mapset_stp HS.out 4 rfl 136 4 Try.underlying136 x.f0 (.bool true) HX.out HM.out (by rfl) rfl (.tmp 38) (.tmp 40) (.tmp 51) rfl rfl rfl rfl ?_
            intro w81_ HSm
            refine hK.out _ _ ?_
            clear hK K
            refine done_ (by kernel_rfl) ?_
            replace HS := Go.Lib.hid HSm
            clear HSm
            go_wp2_with fail
            go_roundw
            case rel => exact ⟨k + 1, (x.f0, true) :: m, hlt, rfl, by rw [List.length_cons, HML.out], HS.out.drop⟩
            case measure => simp [intOf]; omega
        · obtain rfl : k = ps.length := by omega
          clear hk hlt
          go_wp2_with fail
          go_ret
          exact ⟨g, b8, b9, A, c, s, m, rfl, HSI.out, (((((HS.out.drop).erase 4).front 1 _ rfl).front 2 _ rfl).front 3 _ rfl).front 3 _ rfl⟩
end Go.Proofs.Ytolokohgphdngaa.Lat
