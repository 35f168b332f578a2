/- LatchLast: the walk. -/
import Derived.Test.YtolokohgphdngaaLatC
namespace Go.Proofs.Ytolokohgphdngaa.Lat
open Go.RowKit Go.Proofs.YtolokohgphdngaaW.PrintWords Go.Proofs.YtolokohgphdngaaW.PrintLast Go.Proofs.YtolokohgphdngaaW.PrintMore Go.Proofs.Ytolokohgphdngaa.Mine Go.Proofs.Ytolokohgphdngaa.PLatchLast
open Go.Proofs.Ytolokohgphdngaa.Sl (SL Stp Chg St No MK look wpc_seal sealed)
set_option linter.unusedVariables false
set_option linter.unusedSimpArgs false
attribute [local go_sem] max2_int min2_int max_two min_two max_three min_three max_four min_four
def Small {α : Type} (l : List α) : Prop := l.length ≤ 9223372036854775807
theorem long_l1 {ep fi : Int} {ps : List S130} {ss : List S134} {qs : List S139} {av : List S190} (hs : Small ss) : ∀ (d i k : Nat) (n : Int), i + d = ss.length → d + 1 ≤ k →
    ∃ b, countwheelref12_Long.l1 k n (i : Int) ep fi ps ss qs av = some b ∧ (b = false → ps.length ≤ 40 ∧ ss.length ≤ 20 ∧ qs.length ≤ 250 ∧ av.length ≤ 520)
  | 0, i, k, n, h, hk => by
    obtain ⟨k, rfl⟩ : ∃ m, k = m + 1 := ⟨k - 1, by omega⟩
    simp only [countwheelref12_Long.l1]
    rw [if_neg (by omega)]
    split
    · exact ⟨_, rfl, fun h => by cases h⟩
    · split
      · exact ⟨_, rfl, fun h => by cases h⟩
      · split
        · exact ⟨_, rfl, fun h => by cases h⟩
        · split
          · exact ⟨_, rfl, fun h => by cases h⟩
          · exact ⟨_, rfl, fun _ => by omega⟩
  | d + 1, i, k, n, h, hk => by
    have hs2 := hs
    unfold Small at hs2
    obtain ⟨k, rfl⟩ : ∃ m, k = m + 1 := ⟨k - 1, by omega⟩
    simp only [countwheelref12_Long.l1]
    rw [if_pos (by omega), if_pos (by omega), wsucc (by omega)]
    exact long_l1 hs d (i + 1) k _ (by omega) (by omega)
theorem long_l0 {ep fi : Int} {ps : List S130} {ss : List S134} {qs : List S139} {av : List S190} (hp : Small ps) (hs : Small ss) : ∀ (d i k : Nat) (n : Int), i + d = ps.length → d + ss.length + 2 ≤ k →
    ∃ b, countwheelref12_Long.l0 k n (i : Int) ep fi ps ss qs av = some b ∧ (b = false → ps.length ≤ 40 ∧ ss.length ≤ 20 ∧ qs.length ≤ 250 ∧ av.length ≤ 520)
  | 0, i, k, n, h, hk => by
    obtain ⟨k, rfl⟩ : ∃ m, k = m + 1 := ⟨k - 1, by omega⟩
    simp only [countwheelref12_Long.l0]
    rw [if_neg (by omega)]
    exact long_l1 hs ss.length 0 k n (by omega) (by omega)
  | d + 1, i, k, n, h, hk => by
    have hs2 := hp
    unfold Small at hs2
    obtain ⟨k, rfl⟩ : ∃ m, k = m + 1 := ⟨k - 1, by omega⟩
    simp only [countwheelref12_Long.l0]
    rw [if_pos (by omega), if_pos (by omega), wsucc (by omega)]
    exact long_l0 hp hs d (i + 1) k _ (by omega) (by omega)
theorem long_is {ep fi : Int} {ps : List S130} {ss : List S134} {qs : List S139} {av : List S190} (hp : Small ps) (hs : Small ss) (k : Nat) (hk : ps.length + ss.length + 2 ≤ k) :
    ∃ b, countwheelref12_Long.f k ep fi ps ss qs av = some b ∧ (b = false → ps.length ≤ 40 ∧ ss.length ≤ 20 ∧ qs.length ≤ 250 ∧ av.length ≤ 520) := by
  obtain ⟨b, h1, h2⟩ := long_l0 (ep := ep) (fi := fi) (qs := qs) (av := av) hp hs ps.length 0 k 0 (by omega) (by omega)
  exact ⟨b, h1, h2⟩
structure S82 where
  f0 : Bool
  f1 : Int
  f2 : Int
  f3 : Int
def z82 : S82 := ⟨false, 0, 0, 0⟩
def k82 : Kd S82 := Kd.iso (Kd.pair (Kd.bool) (Kd.pair (Kd.int .i64) (Kd.pair (Kd.int .i64) (Kd.int .u64)))) (fun x : S82 => (x.f0, x.f1, x.f2, x.f3))
theorem k82_open {w : World} {x : S82} {cs : List Value} (h : k82.K w x cs) : cs = [.bool x.f0, .int .i64 x.f1, .int .i64 x.f2, .int .u64 x.f3] := by
  obtain ⟨_, _, rfl, rfl, ⟨_, _, rfl, rfl, ⟨_, _, rfl, rfl, rfl⟩⟩⟩ := h
  exact rfl
theorem k82_mk (w : World) (x : S82) : k82.K w x [.bool x.f0, .int .i64 x.f1, .int .i64 x.f2, .int .u64 x.f3] := ⟨[.bool x.f0], [.int .i64 x.f1, .int .i64 x.f2, .int .u64 x.f3], rfl, rfl, ⟨[.int .i64 x.f1], [.int .i64 x.f2, .int .u64 x.f3], rfl, rfl, ⟨[.int .i64 x.f2], [.int .u64 x.f3], rfl, rfl, rfl⟩⟩⟩
def rd_T82 (xs : List S82) (i : Int) : S82 := xs.getD i.toNat z82
theorem at_T82 {w : World} {A : Option Addr} {n : Nat} {xs : List S82} (h : Kd.C k82 w A n xs) (i : Int) (h0 : 0 ≤ i) (h1 : i < n) : ∃ ad , A = some ad ∧ w.cell? (ad.add (i.toNat * 4)) = some (.bool (rd_T82 xs i).f0) ∧
    w.cell? ⟨(ad.add (i.toNat * 4)).block, (ad.add (i.toNat * 4)).off + 1, none⟩ = some (.int .i64 (rd_T82 xs i).f1) ∧
    w.cell? ⟨(ad.add (i.toNat * 4)).block, (ad.add (i.toNat * 4)).off + 2, none⟩ = some (.int .i64 (rd_T82 xs i).f2) ∧
    w.cell? ⟨(ad.add (i.toNat * 4)).block, (ad.add (i.toNat * 4)).off + 3, none⟩ = some (.int .u64 (rd_T82 xs i).f3) := by
  obtain ⟨ad, c, e, _, hK, hc0⟩ := Kd.C_get h z82 i h0 h1
  have hc : ∀ j u, c[j]? = some u → w.cell? (ad.add (i.toNat * 4 + j)) = some u := hc0
  obtain rfl := k82_open hK
  exact ⟨ad, e, hc 0 _ rfl, by rw [← add_field _ _ 1 (by omega)]; exact hc 1 _ rfl, by rw [← add_field _ _ 2 (by omega)]; exact hc 2 _ rfl, by rw [← add_field _ _ 3 (by omega)]; exact hc 3 _ rfl⟩
theorem field85_1 (a b c : Value) (w : World) : (Instr.field 85 (.agg #[a, b, c]) 1).run Try.prog w = .ok b w := by kernel_rfl
theorem field85_2 (a b c : Value) (w : World) : (Instr.field 85 (.agg #[a, b, c]) 2).run Try.prog w = .ok c w := by kernel_rfl
attribute [local go_sem] field85_1 field85_2
theorem inS_of_code {s m : List (Int × Bool)} {ps : List S139} {a b id : Int} (h : codeV s m ps a b id = 0) : inS s id = true := by
  unfold codeV at h
  cases hi : inS s id
  · rw [if_pos hi] at h; omega
  · rfl
set_option maxHeartbeats 6400000 in
set_option maxRecDepth 100000 in
theorem latch_raw (w : World) (ep fi : Int) (A2 : Option Addr) (c2 : Nat) (ps : List S130) (A3 : Option Addr) (c3 : Nat) (ss : List S134) (A4 : Option Addr) (c4 : Nat) (qs : List S139) (A5 : Option Addr) (c5 : Nat) (av : List S190) (hr2 : Kd.C k130 w A2 ps.length ps) (hc2 : ps.length ≤ c2) (hr3 : Kd.C k134 w A3 ss.length ss) (hc3 : ss.length ≤ c3) (hr4 : Kd.C k139 w A4 qs.length qs) (hc4 : qs.length ≤ c4) (hr5 : Kd.C k190 w A5 av.length av) (hc5 : av.length ≤ c5) (gp : ∀ p ∈ ps, (Lit.int .i64 p.f0).wf = true) (gs : ∀ s ∈ ss, (Lit.int .i64 s.f0).wf = true) (hfi : (Lit.int .i64 fi).wf = true)
    (AO : Option Addr) (no co : Nat) (os : List S82) (hO : k82.C w AO no os) (hgo : ∀ z ∈ os, (Lit.int .i64 z.f1).wf = true ∧ (Lit.int .i64 z.f2).wf = true ∧ (Lit.int .u64 z.f3).wf = true) (caller : Int) (hca : (Lit.int .i64 caller).wf = true) :
    Calls Try.prog 6 #[.agg #[.int .u64 ep, .int .i64 fi, .slice A2 ps.length c2, .slice A3 ss.length c3, .slice A4 qs.length c4, .slice A5 av.length c5], .slice AO no co, .int .i64 caller] w fun e w' => e = .returned (.bool true) ∧ Below w.heap.size w w' := by
  obtain ⟨KL, hKL⟩ : ∃ KL, KL = ps.length + ss.length + 2 := ⟨_, rfl⟩
  obtain ⟨bl, hlg, hlf⟩ := long_is (ep := ep) (fi := fi) (qs := qs) (av := av) (show Small ps from hr2.2.1) (show Small ss from hr3.2.1) KL (by omega)
  have HLG := Go.Lib.hid hlg
  have HGP := Go.Lib.hid gp
  have HGS := Go.Lib.hid gs
  have HFI := Go.Lib.hid hfi
  have HCA := Go.Lib.hid hca
  have HO := Go.Lib.hid hO
  have HGO := Go.Lib.hid hgo
  have HR2 := Go.Lib.hid hr2
  have HR3 := Go.Lib.hid hr3
  have HR4 := Go.Lib.hid hr4
  have HR5 := Go.Lib.hid hr5
  have HS := Go.Lib.hid (St.start w)
  clear hlg gp gs hfi hca hO hgo hr2 hr3 hr4 hr5 hKL
  cases bl
  · skip
    obtain ⟨bp, bs, bq, ba⟩ := hlf rfl
    clear hlf
    by_cases h100 : (100 : Int) < (no : Int)
    · have d100 : decide ((100 : Int) < (no : Int)) = true := by simpa using h100
      clear h100
      go_enter Try.func6, Try.ntmps6
      go_wp2_with (first | ((with_reducible refine gate_dst (N := 3) rfl ?_); refine Sl.box_st HS.out (by rfl) (cs := #[.int .u64 ep, .int .i64 fi, .slice A2 ps.length c2, .slice A3 ss.length c3, .slice A4 qs.length c4, .slice A5 av.length c5]) (t := 72) ?hr ?_; (case hr => first | (go_simp; done) | (go_simp; rfl)); intro gM w1_ HSn HBn; clear HBn; replace HS : Hid (St (SL.blk gM 72 #[.int .u64 ep, .int .i64 fi, .slice A2 ps.length c2, .slice A3 ss.length c3, .slice A4 qs.length c4, .slice A5 av.length c5] :: []) w w1_) := Go.Lib.hid HSn; clear HSn; obtain ⟨c0_0, c0_1, c0_2, c0_3, c0_4, c0_5⟩ := HS.out.c6 0 _ _ _ _ _ _ _ _ rfl) | (go_at_call 26; refine (countwheelref12_Long.calls KL ep fi A2 c2 ps A3 c3 ss A4 c4 qs A5 c5 av _ _ (HS.out.C HR2.out) hc2 (HS.out.C HR3.out) hc3 (HS.out.C HR4.out) hc4 (HS.out.C HR5.out) hc5 HLG.out).mono ?_; rintro e w' ⟨rfl, hB⟩; replace HS := Go.Lib.hid (HS.out.then_ hB); clear hB; clear c0_0 c0_1 c0_2 c0_3 c0_4 c0_5; obtain ⟨c0_0, c0_1, c0_2, c0_3, c0_4, c0_5⟩ := HS.out.c6 0 _ _ _ _ _ _ _ _ rfl) | (go_at_call 27; refine (awake_st HS.out (HS.out.size)).mono ?_; rintro e w7_ ⟨rfl, hS⟩; replace HS := Go.Lib.hid hS; clear hS))
      go_ret
      exact ⟨rfl, HS.out.below⟩
    · have d100 : decide ((100 : Int) < (no : Int)) = false := by simpa using h100
      have hno : no ≤ 100 := by omega
      clear h100
      go_enter Try.func6, Try.ntmps6
      go_wp2_with (first | ((with_reducible refine gate_dst (N := 3) rfl ?_); refine Sl.box_st HS.out (by rfl) (cs := #[.int .u64 ep, .int .i64 fi, .slice A2 ps.length c2, .slice A3 ss.length c3, .slice A4 qs.length c4, .slice A5 av.length c5]) (t := 72) ?hr ?_; (case hr => first | (go_simp; done) | (go_simp; rfl)); intro gM w1_ HSn HBn; clear HBn; replace HS : Hid (St (SL.blk gM 72 #[.int .u64 ep, .int .i64 fi, .slice A2 ps.length c2, .slice A3 ss.length c3, .slice A4 qs.length c4, .slice A5 av.length c5] :: []) w w1_) := Go.Lib.hid HSn; clear HSn; obtain ⟨c0_0, c0_1, c0_2, c0_3, c0_4, c0_5⟩ := HS.out.c6 0 _ _ _ _ _ _ _ _ rfl) | (go_at_call 26; refine (countwheelref12_Long.calls KL ep fi A2 c2 ps A3 c3 ss A4 c4 qs A5 c5 av _ _ (HS.out.C HR2.out) hc2 (HS.out.C HR3.out) hc3 (HS.out.C HR4.out) hc4 (HS.out.C HR5.out) hc5 HLG.out).mono ?_; rintro e w' ⟨rfl, hB⟩; replace HS := Go.Lib.hid (HS.out.then_ hB); clear hB; clear c0_0 c0_1 c0_2 c0_3 c0_4 c0_5; obtain ⟨c0_0, c0_1, c0_2, c0_3, c0_4, c0_5⟩ := HS.out.c6 0 _ _ _ _ _ _ _ _ rfl))
      clear c0_0 c0_1 c0_2 c0_3 c0_4 c0_5
      refine (of_st HS.out HS.out.size ep fi A2 c2 ps A3 c3 ss A4 c4 qs A5 c5 av HR2.out hc2 HR3.out hc3 HR4.out hc4 HR5.out hc5 bp bs bq ba HGP.out HGS.out).mono ?_
      rintro e w2_ ⟨g, b8, b9, A, c, s, m, rfl, hsi, hS⟩
      replace HS := Go.Lib.hid hS
      clear hsi hS
      obtain ⟨c0_0, c0_1, c0_2⟩ := HS.out.c3 0 _ _ _ _ _ rfl
      obtain ⟨c4_0, c4_1, c4_2, c4_3, c4_4, c4_5⟩ := HS.out.c6 4 _ _ _ _ _ _ _ _ rfl
      go_wp2_with fail
      have HRI : InL (SL.blk g 141 #[.map (some b8), .map (some b9), .slice A qs.length c] :: SL.map KI b8 (mv s) :: SL.map KI b9 (mv m) :: SL.row k139 139 (.slice A qs.length c) qs :: SL.blk gM 72 #[.int .u64 ep, .int .i64 fi, .slice A2 ps.length c2, .slice A3 ss.length c3, .slice A4 qs.length c4, .slice A5 av.length c5] :: []) g s m qs := ⟨0, 1, 2, 3, b8, b9, A, c, rfl, rfl, rfl, rfl⟩
      cases hin : inS s fi
      · have HIN := Go.Lib.hid hin
        clear hin
        refine (new_no HS.out HRI fi HFI.out HIN.out).mono ?_
        rintro e w' ⟨rfl, rfl⟩
        go_wp2_with (go_at_call 27; refine (awake_st HS.out (HS.out.size)).mono ?_; rintro e w7_ ⟨rfl, hS⟩; replace HS := Go.Lib.hid hS; clear hS)
        go_ret
        exact ⟨rfl, HS.out.below⟩
      · have HIN := Go.Lib.hid hin
        clear hin
        refine (new_yes HS.out HRI fi HFI.out HIN.out).mono ?_
        rintro e w3_ ⟨gl, rfl, hS⟩
        replace HS := Go.Lib.hid hS
        clear hS HRI c0_0 c0_1 c0_2 c4_0 c4_1 c4_2 c4_3 c4_4 c4_5
        obtain ⟨c0_0, c0_1, c0_2, c0_3⟩ := HS.out.c4 0 _ _ _ _ _ _ rfl
        obtain ⟨c1_0, c1_1, c1_2⟩ := HS.out.c3 1 _ _ _ _ _ rfl
        obtain ⟨c5_0, c5_1, c5_2, c5_3, c5_4, c5_5⟩ := HS.out.c6 5 _ _ _ _ _ _ _ _ rfl
        go_wp2_with fail
        clear c0_0 c0_1 c0_2 c0_3 c1_0 c1_1 c1_2 c5_0 c5_1 c5_2 c5_3 c5_4 c5_5
        go_loopw [10, 49] (fun d i wr => ∃ (k : Nat) (due : Int), k ≤ no ∧ d = .int .i64 due ∧ i = .int .i64 k ∧ inS s due = true ∧ (Lit.int .i64 due).wf = true ∧ St (SL.blk gl 144 #[.pointer (some ⟨g, 0, none⟩), .int .u64 0, .int .i64 fi, .int .i64 due] :: SL.blk g 141 #[.map (some b8), .map (some b9), .slice A qs.length c] :: SL.map KI b8 (mv s) :: SL.map KI b9 (mv m) :: SL.row k139 139 (.slice A qs.length c) qs :: SL.blk gM 72 #[.int .u64 ep, .int .i64 fi, .slice A2 ps.length c2, .slice A3 ss.length c3, .slice A4 qs.length c4, .slice A5 av.length c5] :: []) w wr) (fun _ i _ => no - (intOf i).toNat)
        case atStart => exact ⟨0, fi, Nat.zero_le _, rfl, rfl, HIN.out, HFI.out, HS.out⟩
        case round =>
          clear HS
          obtain ⟨k, due, hk, rfl, rfl, hdi, hdw, hS⟩ := hrel
          have HS := Go.Lib.hid hS
          have HDI := Go.Lib.hid hdi
          have HDW := Go.Lib.hid hdw
          clear hS hdi hdw
          refine Sl.wpc_round (fn := Try.f6) (R := fun e w' => e = .returned (.bool true) ∧ Below w.heap.size w w') (fun a w h => h) ?_
          intro N_ X_ R_ hnorm hexit hret
          obtain ⟨c0_0, c0_1, c0_2, c0_3⟩ := HS.out.c4 0 _ _ _ _ _ _ rfl
          obtain ⟨c1_0, c1_1, c1_2⟩ := HS.out.c3 1 _ _ _ _ _ rfl
          obtain ⟨c5_0, c5_1, c5_2, c5_3, c5_4, c5_5⟩ := HS.out.c6 5 _ _ _ _ _ _ _ _ rfl
          by_cases hlt : k < no
          · obtain ⟨ad, rfl, g0, g1, g2, g3⟩ := at_T82 HO.out (k : Int) (by omega) (by omega)
            rw [Int.toNat_natCast] at g0 g1 g2 g3
            replace g0 := HS.out.old g0
            replace g1 := HS.out.old g1
            replace g2 := HS.out.old g2
            replace g3 := HS.out.old g3
            have hgx : rd_T82 os (k : Int) ∈ os := by unfold rd_T82; rw [Int.toNat_natCast, List.getD_eq_getElem?_getD, List.getElem?_eq_getElem (by rw [HO.out.1]; exact hlt)]; exact List.getElem_mem _
            have hgw := HGO.out _ hgx
            generalize rd_T82 os (k : Int) = x at *
            have HX := Go.Lib.hid (And.intro hgw.1 hgw.2.1)
            clear hgx hgw
            obtain ⟨kk, hkk⟩ : ∃ kk, kk = codeV s m qs x.f1 fi x.f2 := ⟨_, rfl⟩
            have HKK := Go.Lib.hid hkk.symm
            clear hkk
            cases hz : kk == 0
            · go_wp2_with (first | ((with_reducible refine gate_dst (N := 12) rfl ?_); refine Sl.box_st HS.out (by rfl) (cs := #[.bool false, .int .i64 0, .int .i64 0, .int .u64 0]) (t := 82) ?hr ?_; (case hr => first | (go_simp; done) | (go_simp; rfl)); intro g12 w41_ HSn HBn; clear HBn; replace HS : Hid (St (SL.blk g12 82 #[.bool false, .int .i64 0, .int .i64 0, .int .u64 0] :: SL.blk gl 144 #[.pointer (some ⟨g, 0, none⟩), .int .u64 0, .int .i64 fi, .int .i64 due] :: SL.blk g 141 #[.map (some b8), .map (some b9), .slice A qs.length c] :: SL.map KI b8 (mv s) :: SL.map KI b9 (mv m) :: SL.row k139 139 (.slice A qs.length c) qs :: SL.blk gM 72 #[.int .u64 ep, .int .i64 fi, .slice A2 ps.length c2, .slice A3 ss.length c3, .slice A4 qs.length c4, .slice A5 av.length c5] :: []) w w41_) := Go.Lib.hid HSn; clear HSn; clear c0_0 c0_1 c0_2 c0_3 c1_0 c1_1 c1_2 c5_0 c5_1 c5_2 c5_3 c5_4 c5_5; obtain ⟨c0_0, c0_1, c0_2, c0_3⟩ := HS.out.c4 0 _ _ _ _ _ _ rfl; obtain ⟨c1_0, c1_1, c1_2, c1_3⟩ := HS.out.c4 1 _ _ _ _ _ _ rfl; obtain ⟨c2_0, c2_1, c2_2⟩ := HS.out.c3 2 _ _ _ _ _ rfl; obtain ⟨c6_0, c6_1, c6_2, c6_3, c6_4, c6_5⟩ := HS.out.c6 6 _ _ _ _ _ _ _ _ rfl) | ((with_reducible refine gate_store (p := 12) rfl ?_); refine Sl.storeAll_st HS.out 0 g12 82 _ rfl [.bool x.f0, .int .i64 x.f1, .int .i64 x.f2, .int .u64 x.f3] rfl (by rfl) (by rfl) ?hr ?_; (case hr => have f_ := HS.out.f4 0 _ _ _ _ _ _ rfl; (try obtain ⟨f0, f1, f2, f3⟩ := f_); first | (go_simp; done) | (go_simp; rfl)); intro w42_ HSn; replace HS : Hid (St (SL.blk g12 82 #[.bool x.f0, .int .i64 x.f1, .int .i64 x.f2, .int .u64 x.f3] :: SL.blk gl 144 #[.pointer (some ⟨g, 0, none⟩), .int .u64 0, .int .i64 fi, .int .i64 due] :: SL.blk g 141 #[.map (some b8), .map (some b9), .slice A qs.length c] :: SL.map KI b8 (mv s) :: SL.map KI b9 (mv m) :: SL.row k139 139 (.slice A qs.length c) qs :: SL.blk gM 72 #[.int .u64 ep, .int .i64 fi, .slice A2 ps.length c2, .slice A3 ss.length c3, .slice A4 qs.length c4, .slice A5 av.length c5] :: []) w w42_) := Go.Lib.hid HSn; clear HSn; clear c0_0 c0_1 c0_2 c0_3 c1_0 c1_1 c1_2 c1_3 c2_0 c2_1 c2_2 c6_0 c6_1 c6_2 c6_3 c6_4 c6_5; obtain ⟨c0_0, c0_1, c0_2, c0_3⟩ := HS.out.c4 0 _ _ _ _ _ _ rfl; obtain ⟨c1_0, c1_1, c1_2, c1_3⟩ := HS.out.c4 1 _ _ _ _ _ _ rfl; obtain ⟨c2_0, c2_1, c2_2⟩ := HS.out.c3 2 _ _ _ _ _ rfl; obtain ⟨c6_0, c6_1, c6_2, c6_3, c6_4, c6_5⟩ := HS.out.c6 6 _ _ _ _ _ _ _ _ rfl) | (go_at_call 30; refine (ask_no HS.out 1 gl 0 fi due rfl (⟨2, 3, 4, 5, b8, b9, A, c, rfl, rfl, rfl, rfl⟩ : InL (SL.blk g12 82 #[.bool x.f0, .int .i64 x.f1, .int .i64 x.f2, .int .u64 x.f3] :: SL.blk gl 144 #[.pointer (some ⟨g, 0, none⟩), .int .u64 0, .int .i64 fi, .int .i64 due] :: SL.blk g 141 #[.map (some b8), .map (some b9), .slice A qs.length c] :: SL.map KI b8 (mv s) :: SL.map KI b9 (mv m) :: SL.row k139 139 (.slice A qs.length c) qs :: SL.blk gM 72 #[.int .u64 ep, .int .i64 fi, .slice A2 ps.length c2, .slice A3 ss.length c3, .slice A4 qs.length c4, .slice A5 av.length c5] :: []) g s m qs) (by omega) x.f1 x.f2 ⟨HX.out.1, HFI.out, HX.out.2⟩ kk HKK.out hz).mono ?_; rintro e w43_ ⟨rfl, HSn⟩; replace HS : Hid (St (SL.blk g12 82 #[.bool x.f0, .int .i64 x.f1, .int .i64 x.f2, .int .u64 x.f3] :: SL.blk gl 144 #[.pointer (some ⟨g, 0, none⟩), .int .u64 0, .int .i64 fi, .int .i64 due] :: SL.blk g 141 #[.map (some b8), .map (some b9), .slice A qs.length c] :: SL.map KI b8 (mv s) :: SL.map KI b9 (mv m) :: SL.row k139 139 (.slice A qs.length c) qs :: SL.blk gM 72 #[.int .u64 ep, .int .i64 fi, .slice A2 ps.length c2, .slice A3 ss.length c3, .slice A4 qs.length c4, .slice A5 av.length c5] :: []) w w43_) := Go.Lib.hid HSn; clear HSn; clear c0_0 c0_1 c0_2 c0_3 c1_0 c1_1 c1_2 c1_3 c2_0 c2_1 c2_2 c6_0 c6_1 c6_2 c6_3 c6_4 c6_5; obtain ⟨c0_0, c0_1, c0_2, c0_3⟩ := HS.out.c4 0 _ _ _ _ _ _ rfl; obtain ⟨c1_0, c1_1, c1_2, c1_3⟩ := HS.out.c4 1 _ _ _ _ _ _ rfl; obtain ⟨c2_0, c2_1, c2_2⟩ := HS.out.c3 2 _ _ _ _ _ rfl; obtain ⟨c6_0, c6_1, c6_2, c6_3, c6_4, c6_5⟩ := HS.out.c6 6 _ _ _ _ _ _ _ _ rfl) | (go_at_call 31; refine (status_st HS.out 1 gl 0 fi due rfl).mono ?_; rintro e w44_ ⟨rfl, HSn⟩; replace HS : Hid (St (SL.blk g12 82 #[.bool x.f0, .int .i64 x.f1, .int .i64 x.f2, .int .u64 x.f3] :: SL.blk gl 144 #[.pointer (some ⟨g, 0, none⟩), .int .u64 0, .int .i64 fi, .int .i64 due] :: SL.blk g 141 #[.map (some b8), .map (some b9), .slice A qs.length c] :: SL.map KI b8 (mv s) :: SL.map KI b9 (mv m) :: SL.row k139 139 (.slice A qs.length c) qs :: SL.blk gM 72 #[.int .u64 ep, .int .i64 fi, .slice A2 ps.length c2, .slice A3 ss.length c3, .slice A4 qs.length c4, .slice A5 av.length c5] :: []) w w44_) := Go.Lib.hid HSn; clear HSn; clear c0_0 c0_1 c0_2 c0_3 c1_0 c1_1 c1_2 c1_3 c2_0 c2_1 c2_2 c6_0 c6_1 c6_2 c6_3 c6_4 c6_5; obtain ⟨c0_0, c0_1, c0_2, c0_3⟩ := HS.out.c4 0 _ _ _ _ _ _ rfl; obtain ⟨c1_0, c1_1, c1_2, c1_3⟩ := HS.out.c4 1 _ _ _ _ _ _ rfl; obtain ⟨c2_0, c2_1, c2_2⟩ := HS.out.c3 2 _ _ _ _ _ rfl; obtain ⟨c6_0, c6_1, c6_2, c6_3, c6_4, c6_5⟩ := HS.out.c6 6 _ _ _ _ _ _ _ _ rfl) | ((with_reducible refine gate_dst (N := 13) rfl ?_); refine Sl.box_st HS.out (by rfl) (cs := #[.int .u64 0, .int .i64 0, .int .i64 0]) (t := 85) ?hr ?_; (case hr => first | (go_simp; done) | (go_simp; rfl)); intro g13 w45_ HSn HBn; clear HBn; replace HS : Hid (St (SL.blk g13 85 #[.int .u64 0, .int .i64 0, .int .i64 0] :: SL.blk g12 82 #[.bool x.f0, .int .i64 x.f1, .int .i64 x.f2, .int .u64 x.f3] :: SL.blk gl 144 #[.pointer (some ⟨g, 0, none⟩), .int .u64 0, .int .i64 fi, .int .i64 due] :: SL.blk g 141 #[.map (some b8), .map (some b9), .slice A qs.length c] :: SL.map KI b8 (mv s) :: SL.map KI b9 (mv m) :: SL.row k139 139 (.slice A qs.length c) qs :: SL.blk gM 72 #[.int .u64 ep, .int .i64 fi, .slice A2 ps.length c2, .slice A3 ss.length c3, .slice A4 qs.length c4, .slice A5 av.length c5] :: []) w w45_) := Go.Lib.hid HSn; clear HSn; clear c0_0 c0_1 c0_2 c0_3 c1_0 c1_1 c1_2 c1_3 c2_0 c2_1 c2_2 c6_0 c6_1 c6_2 c6_3 c6_4 c6_5; obtain ⟨c0_0, c0_1, c0_2⟩ := HS.out.c3 0 _ _ _ _ _ rfl; obtain ⟨c1_0, c1_1, c1_2, c1_3⟩ := HS.out.c4 1 _ _ _ _ _ _ rfl; obtain ⟨c2_0, c2_1, c2_2, c2_3⟩ := HS.out.c4 2 _ _ _ _ _ _ rfl; obtain ⟨c3_0, c3_1, c3_2⟩ := HS.out.c3 3 _ _ _ _ _ rfl; obtain ⟨c7_0, c7_1, c7_2, c7_3, c7_4, c7_5⟩ := HS.out.c6 7 _ _ _ _ _ _ _ _ rfl) | ((with_reducible refine gate_store (p := 13) rfl ?_); refine Sl.storeAll_st HS.out 0 g13 85 _ rfl [.int .u64 0, .int .i64 fi, .int .i64 due] rfl (by rfl) (by rfl) ?hr ?_; (case hr => have f_ := HS.out.f3 0 _ _ _ _ _ rfl; (try obtain ⟨f0, f1, f2⟩ := f_); first | (go_simp; done) | (go_simp; rfl)); intro w46_ HSn; replace HS : Hid (St (SL.blk g13 85 #[.int .u64 0, .int .i64 fi, .int .i64 due] :: SL.blk g12 82 #[.bool x.f0, .int .i64 x.f1, .int .i64 x.f2, .int .u64 x.f3] :: SL.blk gl 144 #[.pointer (some ⟨g, 0, none⟩), .int .u64 0, .int .i64 fi, .int .i64 due] :: SL.blk g 141 #[.map (some b8), .map (some b9), .slice A qs.length c] :: SL.map KI b8 (mv s) :: SL.map KI b9 (mv m) :: SL.row k139 139 (.slice A qs.length c) qs :: SL.blk gM 72 #[.int .u64 ep, .int .i64 fi, .slice A2 ps.length c2, .slice A3 ss.length c3, .slice A4 qs.length c4, .slice A5 av.length c5] :: []) w w46_) := Go.Lib.hid HSn; clear HSn; clear c0_0 c0_1 c0_2 c1_0 c1_1 c1_2 c1_3 c2_0 c2_1 c2_2 c2_3 c3_0 c3_1 c3_2 c7_0 c7_1 c7_2 c7_3 c7_4 c7_5; obtain ⟨c0_0, c0_1, c0_2⟩ := HS.out.c3 0 _ _ _ _ _ rfl; obtain ⟨c1_0, c1_1, c1_2, c1_3⟩ := HS.out.c4 1 _ _ _ _ _ _ rfl; obtain ⟨c2_0, c2_1, c2_2, c2_3⟩ := HS.out.c4 2 _ _ _ _ _ _ rfl; obtain ⟨c3_0, c3_1, c3_2⟩ := HS.out.c3 3 _ _ _ _ _ rfl; obtain ⟨c7_0, c7_1, c7_2, c7_3, c7_4, c7_5⟩ := HS.out.c6 7 _ _ _ _ _ _ _ _ rfl))
              (try simp only [Exit.inBlock, Exit.then, Sl.sealed]); refine hnorm.out _ _ ?_; go_roundw
              case rel => exact ⟨k + 1, due, hlt, rfl, rfl, HDI.out, HDW.out, HS.out.drop.drop⟩
              case measure => simp [intOf]; omega
            · have HIO : Hid (inS s x.f2 = true) := Go.Lib.hid (inS_of_code (HKK.out.trans (by simpa using hz)))
              go_wp2_with (first | ((with_reducible refine gate_dst (N := 12) rfl ?_); refine Sl.box_st HS.out (by rfl) (cs := #[.bool false, .int .i64 0, .int .i64 0, .int .u64 0]) (t := 82) ?hr ?_; (case hr => first | (go_simp; done) | (go_simp; rfl)); intro g12 w41_ HSn HBn; clear HBn; replace HS : Hid (St (SL.blk g12 82 #[.bool false, .int .i64 0, .int .i64 0, .int .u64 0] :: SL.blk gl 144 #[.pointer (some ⟨g, 0, none⟩), .int .u64 0, .int .i64 fi, .int .i64 due] :: SL.blk g 141 #[.map (some b8), .map (some b9), .slice A qs.length c] :: SL.map KI b8 (mv s) :: SL.map KI b9 (mv m) :: SL.row k139 139 (.slice A qs.length c) qs :: SL.blk gM 72 #[.int .u64 ep, .int .i64 fi, .slice A2 ps.length c2, .slice A3 ss.length c3, .slice A4 qs.length c4, .slice A5 av.length c5] :: []) w w41_) := Go.Lib.hid HSn; clear HSn; clear c0_0 c0_1 c0_2 c0_3 c1_0 c1_1 c1_2 c5_0 c5_1 c5_2 c5_3 c5_4 c5_5; obtain ⟨c0_0, c0_1, c0_2, c0_3⟩ := HS.out.c4 0 _ _ _ _ _ _ rfl; obtain ⟨c1_0, c1_1, c1_2, c1_3⟩ := HS.out.c4 1 _ _ _ _ _ _ rfl; obtain ⟨c2_0, c2_1, c2_2⟩ := HS.out.c3 2 _ _ _ _ _ rfl; obtain ⟨c6_0, c6_1, c6_2, c6_3, c6_4, c6_5⟩ := HS.out.c6 6 _ _ _ _ _ _ _ _ rfl) | ((with_reducible refine gate_store (p := 12) rfl ?_); refine Sl.storeAll_st HS.out 0 g12 82 _ rfl [.bool x.f0, .int .i64 x.f1, .int .i64 x.f2, .int .u64 x.f3] rfl (by rfl) (by rfl) ?hr ?_; (case hr => have f_ := HS.out.f4 0 _ _ _ _ _ _ rfl; (try obtain ⟨f0, f1, f2, f3⟩ := f_); first | (go_simp; done) | (go_simp; rfl)); intro w42_ HSn; replace HS : Hid (St (SL.blk g12 82 #[.bool x.f0, .int .i64 x.f1, .int .i64 x.f2, .int .u64 x.f3] :: SL.blk gl 144 #[.pointer (some ⟨g, 0, none⟩), .int .u64 0, .int .i64 fi, .int .i64 due] :: SL.blk g 141 #[.map (some b8), .map (some b9), .slice A qs.length c] :: SL.map KI b8 (mv s) :: SL.map KI b9 (mv m) :: SL.row k139 139 (.slice A qs.length c) qs :: SL.blk gM 72 #[.int .u64 ep, .int .i64 fi, .slice A2 ps.length c2, .slice A3 ss.length c3, .slice A4 qs.length c4, .slice A5 av.length c5] :: []) w w42_) := Go.Lib.hid HSn; clear HSn; clear c0_0 c0_1 c0_2 c0_3 c1_0 c1_1 c1_2 c1_3 c2_0 c2_1 c2_2 c6_0 c6_1 c6_2 c6_3 c6_4 c6_5; obtain ⟨c0_0, c0_1, c0_2, c0_3⟩ := HS.out.c4 0 _ _ _ _ _ _ rfl; obtain ⟨c1_0, c1_1, c1_2, c1_3⟩ := HS.out.c4 1 _ _ _ _ _ _ rfl; obtain ⟨c2_0, c2_1, c2_2⟩ := HS.out.c3 2 _ _ _ _ _ rfl; obtain ⟨c6_0, c6_1, c6_2, c6_3, c6_4, c6_5⟩ := HS.out.c6 6 _ _ _ _ _ _ _ _ rfl) | (go_at_call 30; refine (ask_ok HS.out 1 gl 0 fi due rfl (⟨2, 3, 4, 5, b8, b9, A, c, rfl, rfl, rfl, rfl⟩ : InL (SL.blk g12 82 #[.bool x.f0, .int .i64 x.f1, .int .i64 x.f2, .int .u64 x.f3] :: SL.blk gl 144 #[.pointer (some ⟨g, 0, none⟩), .int .u64 0, .int .i64 fi, .int .i64 due] :: SL.blk g 141 #[.map (some b8), .map (some b9), .slice A qs.length c] :: SL.map KI b8 (mv s) :: SL.map KI b9 (mv m) :: SL.row k139 139 (.slice A qs.length c) qs :: SL.blk gM 72 #[.int .u64 ep, .int .i64 fi, .slice A2 ps.length c2, .slice A3 ss.length c3, .slice A4 qs.length c4, .slice A5 av.length c5] :: []) g s m qs) (by omega) x.f1 x.f2 ⟨HX.out.1, HFI.out, HX.out.2⟩ kk HKK.out hz).mono ?_; rintro e w43_ ⟨rfl, HSn⟩; replace HS : Hid (St (SL.blk g12 82 #[.bool x.f0, .int .i64 x.f1, .int .i64 x.f2, .int .u64 x.f3] :: SL.blk gl 144 #[.pointer (some ⟨g, 0, none⟩), .int .u64 0, .int .i64 fi, .int .i64 x.f2] :: SL.blk g 141 #[.map (some b8), .map (some b9), .slice A qs.length c] :: SL.map KI b8 (mv s) :: SL.map KI b9 (mv m) :: SL.row k139 139 (.slice A qs.length c) qs :: SL.blk gM 72 #[.int .u64 ep, .int .i64 fi, .slice A2 ps.length c2, .slice A3 ss.length c3, .slice A4 qs.length c4, .slice A5 av.length c5] :: []) w w43_) := Go.Lib.hid HSn; clear HSn; clear c0_0 c0_1 c0_2 c0_3 c1_0 c1_1 c1_2 c1_3 c2_0 c2_1 c2_2 c6_0 c6_1 c6_2 c6_3 c6_4 c6_5; obtain ⟨c0_0, c0_1, c0_2, c0_3⟩ := HS.out.c4 0 _ _ _ _ _ _ rfl; obtain ⟨c1_0, c1_1, c1_2, c1_3⟩ := HS.out.c4 1 _ _ _ _ _ _ rfl; obtain ⟨c2_0, c2_1, c2_2⟩ := HS.out.c3 2 _ _ _ _ _ rfl; obtain ⟨c6_0, c6_1, c6_2, c6_3, c6_4, c6_5⟩ := HS.out.c6 6 _ _ _ _ _ _ _ _ rfl) | (go_at_call 31; refine (status_st HS.out 1 gl 0 fi x.f2 rfl).mono ?_; rintro e w44_ ⟨rfl, HSn⟩; replace HS : Hid (St (SL.blk g12 82 #[.bool x.f0, .int .i64 x.f1, .int .i64 x.f2, .int .u64 x.f3] :: SL.blk gl 144 #[.pointer (some ⟨g, 0, none⟩), .int .u64 0, .int .i64 fi, .int .i64 x.f2] :: SL.blk g 141 #[.map (some b8), .map (some b9), .slice A qs.length c] :: SL.map KI b8 (mv s) :: SL.map KI b9 (mv m) :: SL.row k139 139 (.slice A qs.length c) qs :: SL.blk gM 72 #[.int .u64 ep, .int .i64 fi, .slice A2 ps.length c2, .slice A3 ss.length c3, .slice A4 qs.length c4, .slice A5 av.length c5] :: []) w w44_) := Go.Lib.hid HSn; clear HSn; clear c0_0 c0_1 c0_2 c0_3 c1_0 c1_1 c1_2 c1_3 c2_0 c2_1 c2_2 c6_0 c6_1 c6_2 c6_3 c6_4 c6_5; obtain ⟨c0_0, c0_1, c0_2, c0_3⟩ := HS.out.c4 0 _ _ _ _ _ _ rfl; obtain ⟨c1_0, c1_1, c1_2, c1_3⟩ := HS.out.c4 1 _ _ _ _ _ _ rfl; obtain ⟨c2_0, c2_1, c2_2⟩ := HS.out.c3 2 _ _ _ _ _ rfl; obtain ⟨c6_0, c6_1, c6_2, c6_3, c6_4, c6_5⟩ := HS.out.c6 6 _ _ _ _ _ _ _ _ rfl) | ((with_reducible refine gate_dst (N := 13) rfl ?_); refine Sl.box_st HS.out (by rfl) (cs := #[.int .u64 0, .int .i64 0, .int .i64 0]) (t := 85) ?hr ?_; (case hr => first | (go_simp; done) | (go_simp; rfl)); intro g13 w45_ HSn HBn; clear HBn; replace HS : Hid (St (SL.blk g13 85 #[.int .u64 0, .int .i64 0, .int .i64 0] :: SL.blk g12 82 #[.bool x.f0, .int .i64 x.f1, .int .i64 x.f2, .int .u64 x.f3] :: SL.blk gl 144 #[.pointer (some ⟨g, 0, none⟩), .int .u64 0, .int .i64 fi, .int .i64 x.f2] :: SL.blk g 141 #[.map (some b8), .map (some b9), .slice A qs.length c] :: SL.map KI b8 (mv s) :: SL.map KI b9 (mv m) :: SL.row k139 139 (.slice A qs.length c) qs :: SL.blk gM 72 #[.int .u64 ep, .int .i64 fi, .slice A2 ps.length c2, .slice A3 ss.length c3, .slice A4 qs.length c4, .slice A5 av.length c5] :: []) w w45_) := Go.Lib.hid HSn; clear HSn; clear c0_0 c0_1 c0_2 c0_3 c1_0 c1_1 c1_2 c1_3 c2_0 c2_1 c2_2 c6_0 c6_1 c6_2 c6_3 c6_4 c6_5; obtain ⟨c0_0, c0_1, c0_2⟩ := HS.out.c3 0 _ _ _ _ _ rfl; obtain ⟨c1_0, c1_1, c1_2, c1_3⟩ := HS.out.c4 1 _ _ _ _ _ _ rfl; obtain ⟨c2_0, c2_1, c2_2, c2_3⟩ := HS.out.c4 2 _ _ _ _ _ _ rfl; obtain ⟨c3_0, c3_1, c3_2⟩ := HS.out.c3 3 _ _ _ _ _ rfl; obtain ⟨c7_0, c7_1, c7_2, c7_3, c7_4, c7_5⟩ := HS.out.c6 7 _ _ _ _ _ _ _ _ rfl) | ((with_reducible refine gate_store (p := 13) rfl ?_); refine Sl.storeAll_st HS.out 0 g13 85 _ rfl [.int .u64 0, .int .i64 fi, .int .i64 x.f2] rfl (by rfl) (by rfl) ?hr ?_; (case hr => have f_ := HS.out.f3 0 _ _ _ _ _ rfl; (try obtain ⟨f0, f1, f2⟩ := f_); first | (go_simp; done) | (go_simp; rfl)); intro w46_ HSn; replace HS : Hid (St (SL.blk g13 85 #[.int .u64 0, .int .i64 fi, .int .i64 x.f2] :: SL.blk g12 82 #[.bool x.f0, .int .i64 x.f1, .int .i64 x.f2, .int .u64 x.f3] :: SL.blk gl 144 #[.pointer (some ⟨g, 0, none⟩), .int .u64 0, .int .i64 fi, .int .i64 x.f2] :: SL.blk g 141 #[.map (some b8), .map (some b9), .slice A qs.length c] :: SL.map KI b8 (mv s) :: SL.map KI b9 (mv m) :: SL.row k139 139 (.slice A qs.length c) qs :: SL.blk gM 72 #[.int .u64 ep, .int .i64 fi, .slice A2 ps.length c2, .slice A3 ss.length c3, .slice A4 qs.length c4, .slice A5 av.length c5] :: []) w w46_) := Go.Lib.hid HSn; clear HSn; clear c0_0 c0_1 c0_2 c1_0 c1_1 c1_2 c1_3 c2_0 c2_1 c2_2 c2_3 c3_0 c3_1 c3_2 c7_0 c7_1 c7_2 c7_3 c7_4 c7_5; obtain ⟨c0_0, c0_1, c0_2⟩ := HS.out.c3 0 _ _ _ _ _ rfl; obtain ⟨c1_0, c1_1, c1_2, c1_3⟩ := HS.out.c4 1 _ _ _ _ _ _ rfl; obtain ⟨c2_0, c2_1, c2_2, c2_3⟩ := HS.out.c4 2 _ _ _ _ _ _ rfl; obtain ⟨c3_0, c3_1, c3_2⟩ := HS.out.c3 3 _ _ _ _ _ rfl; obtain ⟨c7_0, c7_1, c7_2, c7_3, c7_4, c7_5⟩ := HS.out.c6 7 _ _ _ _ _ _ _ _ rfl))
              (try simp only [Exit.inBlock, Exit.then, Sl.sealed]); refine hnorm.out _ _ ?_; go_roundw
              case rel => exact ⟨k + 1, x.f2, hlt, rfl, rfl, HIO.out, HX.out.2, HS.out.drop.drop⟩
              case measure => simp [intOf]; omega
          · obtain rfl : k = no := by omega
            clear hk hlt
            by_cases hde : due = fi
            · have hdf : fi = due := hde.symm
              subst hdf
              clear hde
              obtain ⟨c0_0, c0_1, c0_2, c0_3⟩ := HS.out.c4 0 _ _ _ _ _ _ rfl
              obtain ⟨c1_0, c1_1, c1_2⟩ := HS.out.c3 1 _ _ _ _ _ rfl
              obtain ⟨c5_0, c5_1, c5_2, c5_3, c5_4, c5_5⟩ := HS.out.c6 5 _ _ _ _ _ _ _ _ rfl
              go_wp2_with fail
              refine hexit.out _ _ _ ?_
              go_upto_region 19 with (fail)
              clear c0_0 c0_1 c0_2 c0_3 c1_0 c1_1 c1_2 c5_0 c5_1 c5_2 c5_3 c5_4 c5_5
              replace HS := Go.Lib.hid HS.out.drew
              refine start_ (n := 18) (S := fun w' => w'.cell? ⟨gM, 0, none⟩ = some (.int .u64 ep) ∧ w'.cell? ⟨gM, 1, none⟩ = some (.int .i64 fi) ∧ w'.cell? ⟨gM, 2, none⟩ = some (.slice A2 ps.length c2) ∧ w'.cell? ⟨gM, 3, none⟩ = some (.slice A3 ss.length c3) ∧ w'.cell? ⟨gM, 4, none⟩ = some (.slice A4 qs.length c4) ∧ w'.cell? ⟨gM, 5, none⟩ = some (.slice A5 av.length c5)) (ds := []) #[false, false, false, false, false, false, false, false, false, false, false, false, false, false, false, false, false, false] (by kernel_rfl) rfl rfl (HS.out.c6 5 _ _ _ _ _ _ _ _ rfl) (fun hHeld => ?_)
              generalize wr.drew = W_ at *
              refine pure_ (i := 0) (N := some 81) (v := ?_) (a' := ?_) #[true, false, false, false, false, false, false, false, false, false, false, false, false, false, false, false, false, false] rfl rfl (by kernel_rfl) (fun _ _ _ h => h) (Or.inl ⟨by rfl, ?_⟩) ?_ ?_
              rotate_left
              · intro w'
                go_simp
                with_reducible rfl
              rotate_left
              · simp only [Act.put, List.setIfInBounds_toArray, List.set_cons_zero, List.set_cons_succ, i64_w, i32_w]
                rfl
              refine pure_ (i := 2) (N := some 83) (v := ?_) (a' := ?_) #[true, false, true, false, false, false, false, false, false, false, false, false, false, false, false, false, false, false] rfl rfl (by kernel_rfl) (fun _ _ _ h => h) (Or.inl ⟨by rfl, ?_⟩) ?_ ?_
              rotate_left
              · intro w'
                go_simp
                with_reducible rfl
              rotate_left
              · simp only [Act.put, List.setIfInBounds_toArray, List.set_cons_zero, List.set_cons_succ, i64_w, i32_w]
                rfl
              refine pure_ (i := 3) (N := some 84) (v := ?_) (a' := ?_) #[true, false, true, true, false, false, false, false, false, false, false, false, false, false, false, false, false, false] rfl rfl (by kernel_rfl) (fun _ _ _ h => h) (Or.inl ⟨by rfl, ?_⟩) ?_ ?_
              rotate_left
              · intro w'
                go_simp
                with_reducible rfl
              rotate_left
              · simp only [Act.put, List.setIfInBounds_toArray, List.set_cons_zero, List.set_cons_succ, i64_w, i32_w]
                rfl
              refine take_ (i := 4) (N := some 85) (v := ?_) (a' := ?_) #[true, false, true, true, true, false, false, false, false, false, false, false, false, false, false, false, false, false] rfl rfl (by kernel_rfl) (fun _ _ _ h => h) (Or.inl ⟨by rfl, ?_⟩) hHeld ?_ ?_
              rotate_left
              · rintro w' ⟨s0, s1, s2, s3, s4, s5⟩
                go_simp
                with_reducible rfl
              rotate_left
              · simp only [Act.put, List.setIfInBounds_toArray, List.set_cons_zero, List.set_cons_succ, i64_w, i32_w]
                rfl
              refine pure_ (i := 5) (N := some 86) (v := ?_) (a' := ?_) #[true, false, true, true, true, true, false, false, false, false, false, false, false, false, false, false, false, false] rfl rfl (by kernel_rfl) (fun _ _ _ h => h) (Or.inl ⟨by rfl, ?_⟩) ?_ ?_
              rotate_left
              · intro w'
                go_simp
                with_reducible rfl
              rotate_left
              · simp only [Act.put, List.setIfInBounds_toArray, List.set_cons_zero, List.set_cons_succ, i64_w, i32_w]
                rfl
              refine one_ (i := 1) (N := some 82) #[true, true, true, true, true, true, false, false, false, false, false, false, false, false, false, false, false, false] rfl rfl (by kernel_rfl) (by decide) (fun K hK => ?_)
              refine goes_ Try.func32 (by kernel_rfl) rfl #[.pointer (some ⟨gl, 0, none⟩), .int .u64 9] (by rfl) rfl rfl (by (try simp only [List.map_toArray, List.map_cons, List.map_nil]); first | done | rfl) ?_
              refine (bound_no HS.out 0 gl 0 fi fi 9 rfl (by simp)).mono ?_
              rintro e w91_ ⟨rfl, hS9⟩
              have HS1 : Hid (St (SL.blk gl 144 #[.pointer (some ⟨g, 0, none⟩), .int .u64 0, .int .i64 fi, .int .i64 fi] :: SL.blk g 141 #[.map (some b8), .map (some b9), .slice A qs.length c] :: SL.map KI b8 (mv s) :: SL.map KI b9 (mv m) :: SL.row k139 139 (.slice A qs.length c) qs :: SL.blk gM 72 #[.int .u64 ep, .int .i64 fi, .slice A2 ps.length c2, .slice A3 ss.length c3, .slice A4 qs.length c4, .slice A5 av.length c5] :: []) w w91_) := Go.Lib.hid hS9
              clear hS9
              refine ⟨_, rfl, ?_⟩
              refine hK.out _ _ (HS1.out.c6 5 _ _ _ _ _ _ _ _ rfl) (fun hHeld => ?_)
              clear hK K
              refine norm_ (a' := ?_) ?_ ?_
              rotate_left
              · show Act.put _ (some 82) _ = _
                simp only [Act.put, List.setIfInBounds_toArray, List.set_cons_zero, List.set_cons_succ, i64_w, i32_w]
                rfl
              refine pure_ (i := 6) (N := some 87) (v := ?_) (a' := ?_) #[true, true, true, true, true, true, true, false, false, false, false, false, false, false, false, false, false, false] rfl rfl (by kernel_rfl) (fun _ _ _ h => h) (Or.inl ⟨by rfl, ?_⟩) ?_ ?_
              rotate_left
              · intro w'
                go_simp
                with_reducible rfl
              rotate_left
              · simp only [Act.put, List.setIfInBounds_toArray, List.set_cons_zero, List.set_cons_succ, i64_w, i32_w]
                rfl
              refine pure_ (i := 7) (N := some 88) (v := ?_) (a' := ?_) #[true, true, true, true, true, true, true, true, false, false, false, false, false, false, false, false, false, false] rfl rfl (by kernel_rfl) (fun _ _ _ h => h) (Or.inl ⟨by rfl, ?_⟩) ?_ ?_
              rotate_left
              · intro w'
                go_simp
                with_reducible rfl
              rotate_left
              · simp only [Act.put, List.setIfInBounds_toArray, List.set_cons_zero, List.set_cons_succ, i64_w, i32_w]
                rfl
              refine pure_ (i := 8) (N := some 89) (v := ?_) (a' := ?_) #[true, true, true, true, true, true, true, true, true, false, false, false, false, false, false, false, false, false] rfl rfl (by kernel_rfl) (fun _ _ _ h => h) (Or.inl ⟨by rfl, ?_⟩) ?_ ?_
              rotate_left
              · intro w'
                go_simp
                with_reducible rfl
              rotate_left
              · simp only [Act.put, List.setIfInBounds_toArray, List.set_cons_zero, List.set_cons_succ, i64_w, i32_w]
                rfl
              refine pure_ (i := 11) (N := some 92) (v := ?_) (a' := ?_) #[true, true, true, true, true, true, true, true, true, false, false, true, false, false, false, false, false, false] rfl rfl (by kernel_rfl) (fun _ _ _ h => h) (Or.inl ⟨by rfl, ?_⟩) ?_ ?_
              rotate_left
              · intro w'
                go_simp
                with_reducible rfl
              rotate_left
              · simp only [Act.put, List.setIfInBounds_toArray, List.set_cons_zero, List.set_cons_succ, i64_w, i32_w]
                rfl
              refine one_ (i := 9) (N := some 90) #[true, true, true, true, true, true, true, true, true, true, false, true, false, false, false, false, false, false] rfl rfl (by kernel_rfl) (by decide) (fun K hK => ?_)
              refine goes_ Try.func31 (by kernel_rfl) rfl #[.pointer (some ⟨gl, 0, none⟩)] (by rfl) rfl rfl (by (try simp only [List.map_toArray, List.map_cons, List.map_nil]); first | done | rfl) ?_
              refine (status_st HS1.out 0 gl 0 fi fi rfl).mono ?_
              rintro e w92_ ⟨rfl, hS9⟩
              have HS2 : Hid (St (SL.blk gl 144 #[.pointer (some ⟨g, 0, none⟩), .int .u64 0, .int .i64 fi, .int .i64 fi] :: SL.blk g 141 #[.map (some b8), .map (some b9), .slice A qs.length c] :: SL.map KI b8 (mv s) :: SL.map KI b9 (mv m) :: SL.row k139 139 (.slice A qs.length c) qs :: SL.blk gM 72 #[.int .u64 ep, .int .i64 fi, .slice A2 ps.length c2, .slice A3 ss.length c3, .slice A4 qs.length c4, .slice A5 av.length c5] :: []) w w92_) := Go.Lib.hid hS9
              clear hS9
              refine ⟨_, rfl, ?_⟩
              refine hK.out _ _ (HS2.out.c6 5 _ _ _ _ _ _ _ _ rfl) (fun hHeld => ?_)
              clear hK K
              refine norm_ (a' := ?_) ?_ ?_
              rotate_left
              · show Act.put _ (some 90) _ = _
                simp only [Act.put, List.setIfInBounds_toArray, List.set_cons_zero, List.set_cons_succ, i64_w, i32_w]
                rfl
              refine pure_ (i := 10) (N := some 91) (v := ?_) (a' := ?_) #[true, true, true, true, true, true, true, true, true, true, true, true, false, false, false, false, false, false] rfl rfl (by kernel_rfl) (fun _ _ _ h => h) (Or.inl ⟨by rfl, ?_⟩) ?_ ?_
              rotate_left
              · intro w'
                go_simp
                with_reducible rfl
              rotate_left
              · simp only [Act.put, List.setIfInBounds_toArray, List.set_cons_zero, List.set_cons_succ, i64_w, i32_w]
                rfl
              refine pure_ (i := 12) (N := some 93) (v := ?_) (a' := ?_) #[true, true, true, true, true, true, true, true, true, true, true, true, true, false, false, false, false, false] rfl rfl (by kernel_rfl) (fun _ _ _ h => h) (Or.inl ⟨by rfl, ?_⟩) ?_ ?_
              rotate_left
              · intro w'
                go_simp
                with_reducible rfl
              rotate_left
              · simp only [Act.put, List.setIfInBounds_toArray, List.set_cons_zero, List.set_cons_succ, i64_w, i32_w]
                rfl
              refine pure_ (i := 13) (N := some 94) (v := ?_) (a' := ?_) #[true, true, true, true, true, true, true, true, true, true, true, true, true, true, false, false, false, false] rfl rfl (by kernel_rfl) (fun _ _ _ h => h) (Or.inl ⟨by rfl, ?_⟩) ?_ ?_
              rotate_left
              · intro w'
                go_simp
                with_reducible rfl
              rotate_left
              · simp only [Act.put, List.setIfInBounds_toArray, List.set_cons_zero, List.set_cons_succ, i64_w, i32_w]
                rfl
              refine pure_ (i := 14) (N := some 95) (v := ?_) (a' := ?_) #[true, true, true, true, true, true, true, true, true, true, true, true, true, true, true, false, false, false] rfl rfl (by kernel_rfl) (fun _ _ _ h => h) (Or.inl ⟨by rfl, ?_⟩) ?_ ?_
              rotate_left
              · intro w'
                go_simp
                with_reducible rfl
              rotate_left
              · simp only [Act.put, List.setIfInBounds_toArray, List.set_cons_zero, List.set_cons_succ, i64_w, i32_w]
                rfl
              refine pure_ (i := 15) (N := some 96) (v := ?_) (a' := ?_) #[true, true, true, true, true, true, true, true, true, true, true, true, true, true, true, true, false, false] rfl rfl (by kernel_rfl) (fun _ _ _ h => h) (Or.inl ⟨by rfl, ?_⟩) ?_ ?_
              rotate_left
              · intro w'
                go_simp
                with_reducible rfl
              rotate_left
              · simp only [Act.put, List.setIfInBounds_toArray, List.set_cons_zero, List.set_cons_succ, i64_w, i32_w]
                rfl
              refine one_ (i := 16) (N := some 97) #[true, true, true, true, true, true, true, true, true, true, true, true, true, true, true, true, true, false] rfl rfl (by kernel_rfl) (by decide) (fun K hK => ?_)
              refine goes_ Try.func32 (by kernel_rfl) rfl #[.pointer (some ⟨gl, 0, none⟩), .int .u64 10] (by rfl) rfl rfl (by (try simp only [List.map_toArray, List.map_cons, List.map_nil]); first | done | rfl) ?_
              refine (bound_no HS2.out 0 gl 0 fi fi 10 rfl (by simp)).mono ?_
              rintro e w93_ ⟨rfl, hS9⟩
              have HS3 : Hid (St (SL.blk gl 144 #[.pointer (some ⟨g, 0, none⟩), .int .u64 0, .int .i64 fi, .int .i64 fi] :: SL.blk g 141 #[.map (some b8), .map (some b9), .slice A qs.length c] :: SL.map KI b8 (mv s) :: SL.map KI b9 (mv m) :: SL.row k139 139 (.slice A qs.length c) qs :: SL.blk gM 72 #[.int .u64 ep, .int .i64 fi, .slice A2 ps.length c2, .slice A3 ss.length c3, .slice A4 qs.length c4, .slice A5 av.length c5] :: []) w w93_) := Go.Lib.hid hS9
              clear hS9
              refine ⟨_, rfl, ?_⟩
              refine hK.out _ _ (HS3.out.c6 5 _ _ _ _ _ _ _ _ rfl) (fun hHeld => ?_)
              clear hK K
              refine norm_ (a' := ?_) ?_ ?_
              rotate_left
              · show Act.put _ (some 97) _ = _
                simp only [Act.put, List.setIfInBounds_toArray, List.set_cons_zero, List.set_cons_succ, i64_w, i32_w]
                rfl
              refine pure_ (i := 17) (N := some 98) (v := ?_) (a' := ?_) #[true, true, true, true, true, true, true, true, true, true, true, true, true, true, true, true, true, true] rfl rfl (by kernel_rfl) (fun _ _ _ h => h) (Or.inl ⟨by rfl, ?_⟩) ?_ ?_
              rotate_left
              · intro w'
                go_simp
                with_reducible rfl
              rotate_left
              · simp only [Act.put, List.setIfInBounds_toArray, List.set_cons_zero, List.set_cons_succ, i64_w, i32_w]
                rfl
              refine done_ (by kernel_rfl) ?_
              replace HS := HS3
              clear HS1 HS2 HS3
              cases hmy : inS m caller
              · have HMY := Go.Lib.hid hmy
                clear hmy
                have hcd : codeV s m qs caller fi fi = 4 := by unfold codeV; rw [if_neg (by rw [HIN.out]; simp), if_pos HMY.out]
                have HCD := Go.Lib.hid hcd
                clear hcd
                go_wp2_with (first | (go_at_call 33; refine (may_is HS.out (⟨1, 2, 3, 4, b8, b9, A, c, rfl, rfl, rfl, rfl⟩ : InL (SL.blk gl 144 #[.pointer (some ⟨g, 0, none⟩), .int .u64 0, .int .i64 fi, .int .i64 fi] :: SL.blk g 141 #[.map (some b8), .map (some b9), .slice A qs.length c] :: SL.map KI b8 (mv s) :: SL.map KI b9 (mv m) :: SL.row k139 139 (.slice A qs.length c) qs :: SL.blk gM 72 #[.int .u64 ep, .int .i64 fi, .slice A2 ps.length c2, .slice A3 ss.length c3, .slice A4 qs.length c4, .slice A5 av.length c5] :: []) g s m qs) caller HCA.out).mono ?_; rintro e w' ⟨rfl, rfl⟩; rw [HMY.out]) | (go_at_call 30; refine (ask_no HS.out 0 gl 0 fi fi rfl (⟨1, 2, 3, 4, b8, b9, A, c, rfl, rfl, rfl, rfl⟩ : InL (SL.blk gl 144 #[.pointer (some ⟨g, 0, none⟩), .int .u64 0, .int .i64 fi, .int .i64 fi] :: SL.blk g 141 #[.map (some b8), .map (some b9), .slice A qs.length c] :: SL.map KI b8 (mv s) :: SL.map KI b9 (mv m) :: SL.row k139 139 (.slice A qs.length c) qs :: SL.blk gM 72 #[.int .u64 ep, .int .i64 fi, .slice A2 ps.length c2, .slice A3 ss.length c3, .slice A4 qs.length c4, .slice A5 av.length c5] :: []) g s m qs) (by omega) caller fi ⟨HCA.out, HFI.out, HFI.out⟩ 4 HCD.out rfl).mono ?_; rintro e w94_ ⟨rfl, HSn⟩; replace HS := Go.Lib.hid HSn; clear HSn) | (go_at_call 31; refine (status_st HS.out 0 gl 0 fi fi rfl).mono ?_; rintro e w95_ ⟨rfl, HSn⟩; replace HS := Go.Lib.hid HSn; clear HSn) | (go_at_call 27; refine (awake_st HS.out (HS.out.size)).mono ?_; rintro e w7_ ⟨rfl, hS⟩; replace HS := Go.Lib.hid hS; clear hS))
                go_ret
                exact ⟨rfl, HS.out.below⟩
              · have HMY := Go.Lib.hid hmy
                clear hmy
                have hcd : codeV s m qs caller fi fi = 1 := by unfold codeV; rw [if_neg (by rw [HIN.out]; simp), if_neg (by rw [HMY.out]; simp), if_pos rfl]
                have HCD := Go.Lib.hid hcd
                clear hcd
                go_wp2_with (first | (go_at_call 33; refine (may_is HS.out (⟨1, 2, 3, 4, b8, b9, A, c, rfl, rfl, rfl, rfl⟩ : InL (SL.blk gl 144 #[.pointer (some ⟨g, 0, none⟩), .int .u64 0, .int .i64 fi, .int .i64 fi] :: SL.blk g 141 #[.map (some b8), .map (some b9), .slice A qs.length c] :: SL.map KI b8 (mv s) :: SL.map KI b9 (mv m) :: SL.row k139 139 (.slice A qs.length c) qs :: SL.blk gM 72 #[.int .u64 ep, .int .i64 fi, .slice A2 ps.length c2, .slice A3 ss.length c3, .slice A4 qs.length c4, .slice A5 av.length c5] :: []) g s m qs) caller HCA.out).mono ?_; rintro e w' ⟨rfl, rfl⟩; rw [HMY.out]) | (go_at_call 30; refine (ask_no HS.out 0 gl 0 fi fi rfl (⟨1, 2, 3, 4, b8, b9, A, c, rfl, rfl, rfl, rfl⟩ : InL (SL.blk gl 144 #[.pointer (some ⟨g, 0, none⟩), .int .u64 0, .int .i64 fi, .int .i64 fi] :: SL.blk g 141 #[.map (some b8), .map (some b9), .slice A qs.length c] :: SL.map KI b8 (mv s) :: SL.map KI b9 (mv m) :: SL.row k139 139 (.slice A qs.length c) qs :: SL.blk gM 72 #[.int .u64 ep, .int .i64 fi, .slice A2 ps.length c2, .slice A3 ss.length c3, .slice A4 qs.length c4, .slice A5 av.length c5] :: []) g s m qs) (by omega) caller fi ⟨HCA.out, HFI.out, HFI.out⟩ 1 HCD.out rfl).mono ?_; rintro e w94_ ⟨rfl, HSn⟩; replace HS := Go.Lib.hid HSn; clear HSn) | (go_at_call 31; refine (status_st HS.out 0 gl 0 fi fi rfl).mono ?_; rintro e w95_ ⟨rfl, HSn⟩; replace HS := Go.Lib.hid HSn; clear HSn) | (go_at_call 27; refine (awake_st HS.out (HS.out.size)).mono ?_; rintro e w7_ ⟨rfl, hS⟩; replace HS := Go.Lib.hid hS; clear hS))
                go_ret
                exact ⟨rfl, HS.out.below⟩
            · have HNE : Hid ((due != fi) = true) := Go.Lib.hid (by simpa using hde)
              have hne1 : (due != fi) = true := HNE.out
              clear hde
              obtain ⟨c0_0, c0_1, c0_2, c0_3⟩ := HS.out.c4 0 _ _ _ _ _ _ rfl
              obtain ⟨c1_0, c1_1, c1_2⟩ := HS.out.c3 1 _ _ _ _ _ rfl
              obtain ⟨c5_0, c5_1, c5_2, c5_3, c5_4, c5_5⟩ := HS.out.c6 5 _ _ _ _ _ _ _ _ rfl
              go_wp2_with fail
              refine hexit.out _ _ _ ?_
              go_upto_region 19 with (fail)
              clear c0_0 c0_1 c0_2 c0_3 c1_0 c1_1 c1_2 c5_0 c5_1 c5_2 c5_3 c5_4 c5_5
              replace HS := Go.Lib.hid HS.out.drew
              refine start_ (n := 18) (S := fun w' => w'.cell? ⟨gM, 0, none⟩ = some (.int .u64 ep) ∧ w'.cell? ⟨gM, 1, none⟩ = some (.int .i64 fi) ∧ w'.cell? ⟨gM, 2, none⟩ = some (.slice A2 ps.length c2) ∧ w'.cell? ⟨gM, 3, none⟩ = some (.slice A3 ss.length c3) ∧ w'.cell? ⟨gM, 4, none⟩ = some (.slice A4 qs.length c4) ∧ w'.cell? ⟨gM, 5, none⟩ = some (.slice A5 av.length c5)) (ds := []) #[false, false, false, false, false, false, false, false, false, false, false, false, false, false, false, false, false, false] (by kernel_rfl) rfl rfl (HS.out.c6 5 _ _ _ _ _ _ _ _ rfl) (fun hHeld => ?_)
              generalize wr.drew = W_ at *
              refine pure_ (i := 0) (N := some 81) (v := ?_) (a' := ?_) #[true, false, false, false, false, false, false, false, false, false, false, false, false, false, false, false, false, false] rfl rfl (by kernel_rfl) (fun _ _ _ h => h) (Or.inl ⟨by rfl, ?_⟩) ?_ ?_
              rotate_left
              · intro w'
                go_simp
                with_reducible rfl
              rotate_left
              · simp only [Act.put, List.setIfInBounds_toArray, List.set_cons_zero, List.set_cons_succ, i64_w, i32_w]
                rfl
              refine pure_ (i := 2) (N := some 83) (v := ?_) (a' := ?_) #[true, false, true, false, false, false, false, false, false, false, false, false, false, false, false, false, false, false] rfl rfl (by kernel_rfl) (fun _ _ _ h => h) (Or.inl ⟨by rfl, ?_⟩) ?_ ?_
              rotate_left
              · intro w'
                go_simp
                with_reducible rfl
              rotate_left
              · simp only [Act.put, List.setIfInBounds_toArray, List.set_cons_zero, List.set_cons_succ, i64_w, i32_w]
                rfl
              refine pure_ (i := 3) (N := some 84) (v := ?_) (a' := ?_) #[true, false, true, true, false, false, false, false, false, false, false, false, false, false, false, false, false, false] rfl rfl (by kernel_rfl) (fun _ _ _ h => h) (Or.inl ⟨by rfl, ?_⟩) ?_ ?_
              rotate_left
              · intro w'
                go_simp
                with_reducible rfl
              rotate_left
              · simp only [Act.put, List.setIfInBounds_toArray, List.set_cons_zero, List.set_cons_succ, i64_w, i32_w]
                rfl
              refine take_ (i := 4) (N := some 85) (v := ?_) (a' := ?_) #[true, false, true, true, true, false, false, false, false, false, false, false, false, false, false, false, false, false] rfl rfl (by kernel_rfl) (fun _ _ _ h => h) (Or.inl ⟨by rfl, ?_⟩) hHeld ?_ ?_
              rotate_left
              · rintro w' ⟨s0, s1, s2, s3, s4, s5⟩
                go_simp
                with_reducible rfl
              rotate_left
              · simp only [Act.put, List.setIfInBounds_toArray, List.set_cons_zero, List.set_cons_succ, i64_w, i32_w]
                rfl
              refine pure_ (i := 5) (N := some 86) (v := ?_) (a' := ?_) #[true, false, true, true, true, true, false, false, false, false, false, false, false, false, false, false, false, false] rfl rfl (by kernel_rfl) (fun _ _ _ h => h) (Or.inl ⟨by rfl, ?_⟩) ?_ ?_
              rotate_left
              · intro w'
                go_simp
                with_reducible rfl
              rotate_left
              · simp only [Act.put, List.setIfInBounds_toArray, List.set_cons_zero, List.set_cons_succ, i64_w, i32_w]
                rfl
              refine one_ (i := 1) (N := some 82) #[true, true, true, true, true, true, false, false, false, false, false, false, false, false, false, false, false, false] rfl rfl (by kernel_rfl) (by decide) (fun K hK => ?_)
              refine goes_ Try.func32 (by kernel_rfl) rfl #[.pointer (some ⟨gl, 0, none⟩), .int .u64 9] (by rfl) rfl rfl (by (try simp only [List.map_toArray, List.map_cons, List.map_nil]); first | done | rfl) ?_
              refine (bound_yes HS.out 0 gl 0 fi due 9 rfl HNE.out).mono ?_
              rintro e w91_ ⟨rfl, hS9⟩
              have HS1 : Hid (St (SL.blk gl 144 #[.pointer (some ⟨g, 0, none⟩), .int .u64 9, .int .i64 due, .int .i64 due] :: SL.blk g 141 #[.map (some b8), .map (some b9), .slice A qs.length c] :: SL.map KI b8 (mv s) :: SL.map KI b9 (mv m) :: SL.row k139 139 (.slice A qs.length c) qs :: SL.blk gM 72 #[.int .u64 ep, .int .i64 fi, .slice A2 ps.length c2, .slice A3 ss.length c3, .slice A4 qs.length c4, .slice A5 av.length c5] :: []) w w91_) := Go.Lib.hid hS9
              clear hS9
              refine ⟨_, rfl, ?_⟩
              refine hK.out _ _ (HS1.out.c6 5 _ _ _ _ _ _ _ _ rfl) (fun hHeld => ?_)
              clear hK K
              refine norm_ (a' := ?_) ?_ ?_
              rotate_left
              · show Act.put _ (some 82) _ = _
                simp only [Act.put, List.setIfInBounds_toArray, List.set_cons_zero, List.set_cons_succ, i64_w, i32_w]
                rfl
              refine pure_ (i := 6) (N := some 87) (v := ?_) (a' := ?_) #[true, true, true, true, true, true, true, false, false, false, false, false, false, false, false, false, false, false] rfl rfl (by kernel_rfl) (fun _ _ _ h => h) (Or.inl ⟨by rfl, ?_⟩) ?_ ?_
              rotate_left
              · intro w'
                go_simp
                with_reducible rfl
              rotate_left
              · simp only [Act.put, List.setIfInBounds_toArray, List.set_cons_zero, List.set_cons_succ, i64_w, i32_w]
                rfl
              refine pure_ (i := 7) (N := some 88) (v := ?_) (a' := ?_) #[true, true, true, true, true, true, true, true, false, false, false, false, false, false, false, false, false, false] rfl rfl (by kernel_rfl) (fun _ _ _ h => h) (Or.inl ⟨by rfl, ?_⟩) ?_ ?_
              rotate_left
              · intro w'
                go_simp
                with_reducible rfl
              rotate_left
              · simp only [Act.put, List.setIfInBounds_toArray, List.set_cons_zero, List.set_cons_succ, i64_w, i32_w]
                rfl
              refine pure_ (i := 8) (N := some 89) (v := ?_) (a' := ?_) #[true, true, true, true, true, true, true, true, true, false, false, false, false, false, false, false, false, false] rfl rfl (by kernel_rfl) (fun _ _ _ h => h) (Or.inl ⟨by rfl, ?_⟩) ?_ ?_
              rotate_left
              · intro w'
                go_simp
                with_reducible rfl
              rotate_left
              · simp only [Act.put, List.setIfInBounds_toArray, List.set_cons_zero, List.set_cons_succ, i64_w, i32_w]
                rfl
              refine pure_ (i := 11) (N := some 92) (v := ?_) (a' := ?_) #[true, true, true, true, true, true, true, true, true, false, false, true, false, false, false, false, false, false] rfl rfl (by kernel_rfl) (fun _ _ _ h => h) (Or.inl ⟨by rfl, ?_⟩) ?_ ?_
              rotate_left
              · intro w'
                go_simp
                with_reducible rfl
              rotate_left
              · simp only [Act.put, List.setIfInBounds_toArray, List.set_cons_zero, List.set_cons_succ, i64_w, i32_w]
                rfl
              refine one_ (i := 9) (N := some 90) #[true, true, true, true, true, true, true, true, true, true, false, true, false, false, false, false, false, false] rfl rfl (by kernel_rfl) (by decide) (fun K hK => ?_)
              refine goes_ Try.func31 (by kernel_rfl) rfl #[.pointer (some ⟨gl, 0, none⟩)] (by rfl) rfl rfl (by (try simp only [List.map_toArray, List.map_cons, List.map_nil]); first | done | rfl) ?_
              refine (status_st HS1.out 0 gl 9 due due rfl).mono ?_
              rintro e w92_ ⟨rfl, hS9⟩
              have HS2 : Hid (St (SL.blk gl 144 #[.pointer (some ⟨g, 0, none⟩), .int .u64 9, .int .i64 due, .int .i64 due] :: SL.blk g 141 #[.map (some b8), .map (some b9), .slice A qs.length c] :: SL.map KI b8 (mv s) :: SL.map KI b9 (mv m) :: SL.row k139 139 (.slice A qs.length c) qs :: SL.blk gM 72 #[.int .u64 ep, .int .i64 fi, .slice A2 ps.length c2, .slice A3 ss.length c3, .slice A4 qs.length c4, .slice A5 av.length c5] :: []) w w92_) := Go.Lib.hid hS9
              clear hS9
              refine ⟨_, rfl, ?_⟩
              refine hK.out _ _ (HS2.out.c6 5 _ _ _ _ _ _ _ _ rfl) (fun hHeld => ?_)
              clear hK K
              refine norm_ (a' := ?_) ?_ ?_
              rotate_left
              · show Act.put _ (some 90) _ = _
                simp only [Act.put, List.setIfInBounds_toArray, List.set_cons_zero, List.set_cons_succ, i64_w, i32_w]
                rfl
              refine pure_ (i := 10) (N := some 91) (v := ?_) (a' := ?_) #[true, true, true, true, true, true, true, true, true, true, true, true, false, false, false, false, false, false] rfl rfl (by kernel_rfl) (fun _ _ _ h => h) (Or.inl ⟨by rfl, ?_⟩) ?_ ?_
              rotate_left
              · intro w'
                go_simp
                with_reducible rfl
              rotate_left
              · simp only [Act.put, List.setIfInBounds_toArray, List.set_cons_zero, List.set_cons_succ, i64_w, i32_w]
                rfl
              refine pure_ (i := 12) (N := some 93) (v := ?_) (a' := ?_) #[true, true, true, true, true, true, true, true, true, true, true, true, true, false, false, false, false, false] rfl rfl (by kernel_rfl) (fun _ _ _ h => h) (Or.inl ⟨by rfl, ?_⟩) ?_ ?_
              rotate_left
              · intro w'
                go_simp
                with_reducible rfl
              rotate_left
              · simp only [Act.put, List.setIfInBounds_toArray, List.set_cons_zero, List.set_cons_succ, i64_w, i32_w]
                rfl
              refine pure_ (i := 13) (N := some 94) (v := ?_) (a' := ?_) #[true, true, true, true, true, true, true, true, true, true, true, true, true, true, false, false, false, false] rfl rfl (by kernel_rfl) (fun _ _ _ h => h) (Or.inl ⟨by rfl, ?_⟩) ?_ ?_
              rotate_left
              · intro w'
                go_simp
                with_reducible rfl
              rotate_left
              · simp only [Act.put, List.setIfInBounds_toArray, List.set_cons_zero, List.set_cons_succ, i64_w, i32_w]
                rfl
              refine pure_ (i := 14) (N := some 95) (v := ?_) (a' := ?_) #[true, true, true, true, true, true, true, true, true, true, true, true, true, true, true, false, false, false] rfl rfl (by kernel_rfl) (fun _ _ _ h => h) (Or.inl ⟨by rfl, ?_⟩) ?_ ?_
              rotate_left
              · intro w'
                go_simp
                with_reducible rfl
              rotate_left
              · simp only [Act.put, List.setIfInBounds_toArray, List.set_cons_zero, List.set_cons_succ, i64_w, i32_w]
                rfl
              refine pure_ (i := 15) (N := some 96) (v := ?_) (a' := ?_) #[true, true, true, true, true, true, true, true, true, true, true, true, true, true, true, true, false, false] rfl rfl (by kernel_rfl) (fun _ _ _ h => h) (Or.inl ⟨by rfl, ?_⟩) ?_ ?_
              rotate_left
              · intro w'
                go_simp
                with_reducible rfl
              rotate_left
              · simp only [Act.put, List.setIfInBounds_toArray, List.set_cons_zero, List.set_cons_succ, i64_w, i32_w]
                rfl
              refine one_ (i := 16) (N := some 97) #[true, true, true, true, true, true, true, true, true, true, true, true, true, true, true, true, true, false] rfl rfl (by kernel_rfl) (by decide) (fun K hK => ?_)
              refine goes_ Try.func32 (by kernel_rfl) rfl #[.pointer (some ⟨gl, 0, none⟩), .int .u64 10] (by rfl) rfl rfl (by (try simp only [List.map_toArray, List.map_cons, List.map_nil]); first | done | rfl) ?_
              refine (bound_no HS2.out 0 gl 9 due due 10 rfl (by simp)).mono ?_
              rintro e w93_ ⟨rfl, hS9⟩
              have HS3 : Hid (St (SL.blk gl 144 #[.pointer (some ⟨g, 0, none⟩), .int .u64 9, .int .i64 due, .int .i64 due] :: SL.blk g 141 #[.map (some b8), .map (some b9), .slice A qs.length c] :: SL.map KI b8 (mv s) :: SL.map KI b9 (mv m) :: SL.row k139 139 (.slice A qs.length c) qs :: SL.blk gM 72 #[.int .u64 ep, .int .i64 fi, .slice A2 ps.length c2, .slice A3 ss.length c3, .slice A4 qs.length c4, .slice A5 av.length c5] :: []) w w93_) := Go.Lib.hid hS9
              clear hS9
              refine ⟨_, rfl, ?_⟩
              refine hK.out _ _ (HS3.out.c6 5 _ _ _ _ _ _ _ _ rfl) (fun hHeld => ?_)
              clear hK K
              refine norm_ (a' := ?_) ?_ ?_
              rotate_left
              · show Act.put _ (some 97) _ = _
                simp only [Act.put, List.setIfInBounds_toArray, List.set_cons_zero, List.set_cons_succ, i64_w, i32_w]
                rfl
              refine pure_ (i := 17) (N := some 98) (v := ?_) (a' := ?_) #[true, true, true, true, true, true, true, true, true, true, true, true, true, true, true, true, true, true] rfl rfl (by kernel_rfl) (fun _ _ _ h => h) (Or.inl ⟨by rfl, ?_⟩) ?_ ?_
              rotate_left
              · intro w'
                go_simp
                with_reducible rfl
              rotate_left
              · simp only [Act.put, List.setIfInBounds_toArray, List.set_cons_zero, List.set_cons_succ, i64_w, i32_w]
                rfl
              refine done_ (by kernel_rfl) ?_
              replace HS := HS3
              clear HS1 HS2 HS3
              cases hmy : inS m caller
              · have HMY := Go.Lib.hid hmy
                clear hmy
                have hcd : codeV s m qs caller due due = 4 := by unfold codeV; rw [if_neg (by rw [HDI.out]; simp), if_pos HMY.out]
                have HCD := Go.Lib.hid hcd
                clear hcd
                go_wp2_with (first | (go_at_call 33; refine (may_is HS.out (⟨1, 2, 3, 4, b8, b9, A, c, rfl, rfl, rfl, rfl⟩ : InL (SL.blk gl 144 #[.pointer (some ⟨g, 0, none⟩), .int .u64 9, .int .i64 due, .int .i64 due] :: SL.blk g 141 #[.map (some b8), .map (some b9), .slice A qs.length c] :: SL.map KI b8 (mv s) :: SL.map KI b9 (mv m) :: SL.row k139 139 (.slice A qs.length c) qs :: SL.blk gM 72 #[.int .u64 ep, .int .i64 fi, .slice A2 ps.length c2, .slice A3 ss.length c3, .slice A4 qs.length c4, .slice A5 av.length c5] :: []) g s m qs) caller HCA.out).mono ?_; rintro e w' ⟨rfl, rfl⟩; rw [HMY.out]) | (go_at_call 30; refine (ask_no HS.out 0 gl 9 due due rfl (⟨1, 2, 3, 4, b8, b9, A, c, rfl, rfl, rfl, rfl⟩ : InL (SL.blk gl 144 #[.pointer (some ⟨g, 0, none⟩), .int .u64 9, .int .i64 due, .int .i64 due] :: SL.blk g 141 #[.map (some b8), .map (some b9), .slice A qs.length c] :: SL.map KI b8 (mv s) :: SL.map KI b9 (mv m) :: SL.row k139 139 (.slice A qs.length c) qs :: SL.blk gM 72 #[.int .u64 ep, .int .i64 fi, .slice A2 ps.length c2, .slice A3 ss.length c3, .slice A4 qs.length c4, .slice A5 av.length c5] :: []) g s m qs) (by omega) caller due ⟨HCA.out, HDW.out, HDW.out⟩ 4 HCD.out rfl).mono ?_; rintro e w94_ ⟨rfl, HSn⟩; replace HS := Go.Lib.hid HSn; clear HSn) | (go_at_call 31; refine (status_st HS.out 0 gl 9 due due rfl).mono ?_; rintro e w95_ ⟨rfl, HSn⟩; replace HS := Go.Lib.hid HSn; clear HSn) | (go_at_call 27; refine (awake_st HS.out (HS.out.size)).mono ?_; rintro e w7_ ⟨rfl, hS⟩; replace HS := Go.Lib.hid hS; clear hS))
                go_ret
                exact ⟨rfl, HS.out.below⟩
              · have HMY := Go.Lib.hid hmy
                clear hmy
                have hcd : codeV s m qs caller due due = 1 := by unfold codeV; rw [if_neg (by rw [HDI.out]; simp), if_neg (by rw [HMY.out]; simp), if_pos rfl]
                have HCD := Go.Lib.hid hcd
                clear hcd
                go_wp2_with (first | (go_at_call 33; refine (may_is HS.out (⟨1, 2, 3, 4, b8, b9, A, c, rfl, rfl, rfl, rfl⟩ : InL (SL.blk gl 144 #[.pointer (some ⟨g, 0, none⟩), .int .u64 9, .int .i64 due, .int .i64 due] :: SL.blk g 141 #[.map (some b8), .map (some b9), .slice A qs.length c] :: SL.map KI b8 (mv s) :: SL.map KI b9 (mv m) :: SL.row k139 139 (.slice A qs.length c) qs :: SL.blk gM 72 #[.int .u64 ep, .int .i64 fi, .slice A2 ps.length c2, .slice A3 ss.length c3, .slice A4 qs.length c4, .slice A5 av.length c5] :: []) g s m qs) caller HCA.out).mono ?_; rintro e w' ⟨rfl, rfl⟩; rw [HMY.out]) | (go_at_call 30; refine (ask_no HS.out 0 gl 9 due due rfl (⟨1, 2, 3, 4, b8, b9, A, c, rfl, rfl, rfl, rfl⟩ : InL (SL.blk gl 144 #[.pointer (some ⟨g, 0, none⟩), .int .u64 9, .int .i64 due, .int .i64 due] :: SL.blk g 141 #[.map (some b8), .map (some b9), .slice A qs.length c] :: SL.map KI b8 (mv s) :: SL.map KI b9 (mv m) :: SL.row k139 139 (.slice A qs.length c) qs :: SL.blk gM 72 #[.int .u64 ep, .int .i64 fi, .slice A2 ps.length c2, .slice A3 ss.length c3, .slice A4 qs.length c4, .slice A5 av.length c5] :: []) g s m qs) (by omega) caller due ⟨HCA.out, HDW.out, HDW.out⟩ 1 HCD.out rfl).mono ?_; rintro e w94_ ⟨rfl, HSn⟩; replace HS := Go.Lib.hid HSn; clear HSn) | (go_at_call 31; refine (status_st HS.out 0 gl 9 due due rfl).mono ?_; rintro e w95_ ⟨rfl, HSn⟩; replace HS := Go.Lib.hid HSn; clear HSn) | (go_at_call 27; refine (awake_st HS.out (HS.out.size)).mono ?_; rintro e w7_ ⟨rfl, hS⟩; replace HS := Go.Lib.hid hS; clear hS))
                go_ret
                exact ⟨rfl, HS.out.below⟩
  · skip
    clear hlf
    go_enter Try.func6, Try.ntmps6
    go_wp2_with (first | ((with_reducible refine gate_dst (N := 3) rfl ?_); refine Sl.box_st HS.out (by rfl) (cs := #[.int .u64 ep, .int .i64 fi, .slice A2 ps.length c2, .slice A3 ss.length c3, .slice A4 qs.length c4, .slice A5 av.length c5]) (t := 72) ?hr ?_; (case hr => first | (go_simp; done) | (go_simp; rfl)); intro gM w1_ HSn HBn; clear HBn; replace HS : Hid (St (SL.blk gM 72 #[.int .u64 ep, .int .i64 fi, .slice A2 ps.length c2, .slice A3 ss.length c3, .slice A4 qs.length c4, .slice A5 av.length c5] :: []) w w1_) := Go.Lib.hid HSn; clear HSn; obtain ⟨c0_0, c0_1, c0_2, c0_3, c0_4, c0_5⟩ := HS.out.c6 0 _ _ _ _ _ _ _ _ rfl) | (go_at_call 26; refine (countwheelref12_Long.calls KL ep fi A2 c2 ps A3 c3 ss A4 c4 qs A5 c5 av _ _ (HS.out.C HR2.out) hc2 (HS.out.C HR3.out) hc3 (HS.out.C HR4.out) hc4 (HS.out.C HR5.out) hc5 HLG.out).mono ?_; rintro e w' ⟨rfl, hB⟩; replace HS := Go.Lib.hid (HS.out.then_ hB); clear hB; clear c0_0 c0_1 c0_2 c0_3 c0_4 c0_5; obtain ⟨c0_0, c0_1, c0_2, c0_3, c0_4, c0_5⟩ := HS.out.c6 0 _ _ _ _ _ _ _ _ rfl) | (go_at_call 27; refine (awake_st HS.out (HS.out.size)).mono ?_; rintro e w7_ ⟨rfl, hS⟩; replace HS := Go.Lib.hid hS; clear hS))
    go_ret
    exact ⟨rfl, HS.out.below⟩
end Go.Proofs.Ytolokohgphdngaa.Lat
