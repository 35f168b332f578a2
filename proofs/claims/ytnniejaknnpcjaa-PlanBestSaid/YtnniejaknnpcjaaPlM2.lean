/- plan.Make. -/
import Derived.Test.YtnniejaknnpcjaaPlM1
namespace Go.Proofs.Ytnniejaknnpcjaa.PlW
open Go.RowKit Go.Proofs.YtnniejaknnpcjaaW.PrintWords Go.Proofs.YtnniejaknnpcjaaW.PrintLast Go.Proofs.YtnniejaknnpcjaaW.PrintMore Go.Proofs.Ytnniejaknnpcjaa.Mine Go.Proofs.Ytnniejaknnpcjaa.PPlanWords
open Go.Proofs.Ytnniejaknnpcjaa.Sl (SL Stp Chg St No)
set_option linter.unusedVariables false
set_option linter.unusedSimpArgs false
attribute [local go_sem] max2_int min2_int max_two min_two max_three min_three max_four min_four
/-- What is left lies between none and a period. -/
def LB (l : List Int) : Prop := ∀ i : Nat, 0 ≤ l.getD i 0 ∧ l.getD i 0 ≤ 4096
theorem LB.set {l : List Int} (h : LB l) (j : Nat) (x : Int) (h0 : 0 ≤ x) (h1 : x ≤ 4096) : LB (l.set j x) := by
  intro i
  rw [List.getD_eq_getElem?_getD, List.getElem?_set]
  split
  · split
    · exact ⟨h0, h1⟩
    · exact ⟨Int.le_refl _, by decide⟩
  · have := h i; rwa [List.getD_eq_getElem?_getD] at this
def Bud (ns : List S69) : Prop := ∀ n ∈ ns, 0 ≤ n.f2 ∧ n.f2 ≤ 4096
theorem refill_lb {ns : List S69} {t : Nat} {left : List Int} (hb : Bud ns) (h : LB left) : ∀ i l, i ≤ ns.length → refill ns t left i = some l → LB l
  | 0, l, _, hr => by simp only [refill, Option.some.injEq] at hr; rw [← hr]; exact h
  | i + 1, l, hi, hr => by
    simp only [refill] at hr
    cases hq : refill ns t left i with
    | none => rw [hq] at hr; cases hr
    | some l2 =>
      have ih := refill_lb hb h i l2 (by omega) hq
      rw [hq] at hr
      simp only [Option.bind_some] at hr
      split at hr
      · split at hr
        · cases hr
        · cases hr
          have := hb _ (getD_mem ns z69 i (by omega))
          exact ih.set _ _ this.1 this.2
      · cases hr; exact ih
theorem mk_lb {ns : List S69} (hb : Bud ns) : ∀ t s, mk ns t = some s → LB s.1
  | 0, s, h => by
    simp only [mk, Option.some.injEq] at h; subst h
    intro i
    rw [List.getD_eq_getElem?_getD, List.getElem?_replicate]
    split <;> exact ⟨Int.le_refl _, by decide⟩
  | t + 1, s, h => by
    simp only [mk] at h
    cases hm : mk ns t with
    | none => rw [hm] at h; cases h
    | some s2 =>
      have ih := mk_lb hb t s2 hm
      rw [hm] at h
      simp only [Option.bind_some] at h
      cases hr : refill ns t s2.1 ns.length with
      | none => rw [hr] at h; cases h
      | some l =>
        have h2 := refill_lb hb ih _ l (Nat.le_refl _) hr
        rw [hr] at h
        simp only [Option.bind_some, Option.some.injEq] at h
        subst h
        unfold tickR
        split
        · rename_i hc
          have h3 := (nextR_lt ns l t ns.length hc).2
          have h4 := h2 (nextR ns l t ns.length).1
          exact h2.set _ _ (by omega) (by omega)
        · exact h2
theorem bud_of {fr : Nat} {ns : List S69} (hf : 1 ≤ fr) (hf2 : fr ≤ 4096) (h : ∀ i, i < ns.length → Right fr ns i) : Bud ns := by
  intro n hn
  have hp := (per_of hf hf2 h) n hn
  obtain ⟨i, hi, rfl⟩ := List.mem_iff_getElem.1 hn
  obtain ⟨_, _, _, _, _, h6, h7⟩ := h i hi
  rw [List.getD_eq_getElem?_getD, List.getElem?_eq_getElem hi, Option.getD_some] at h6 h7
  exact ⟨h6, by omega⟩
theorem mk_step {ns : List S69} {t fr : Nat} {s sf : List Int × List Int} (hm : mk ns t = some s) (hf : mk ns fr = some sf) (hlt : t < fr) : ∃ l, refill ns t s.1 ns.length = some l ∧ mk ns (t + 1) = some (tickR ns t l s.2) := by
  have h1 : mk ns (t + 1) ≠ none := fun h => by rw [mk_none ns h fr (by omega)] at hf; cases hf
  simp only [mk] at h1 ⊢
  rw [hm] at h1 ⊢
  simp only [Option.bind_some] at h1 ⊢
  cases hr : refill ns t s.1 ns.length with
  | none => rw [hr] at h1; exact absurd rfl h1
  | some l => exact ⟨l, rfl, rfl⟩
theorem refill_step {ns : List S69} {t i : Nat} {left l2 l3 : List Int} (h : refill ns t left i = some l2) (hf : refill ns t left ns.length = some l3) (hi : i < ns.length) :
    ((t : Int) % (ns.getD i z69).f1 = 0 → l2.getD i 0 ≤ 0 ∧ refill ns t left (i + 1) = some (l2.set i (ns.getD i z69).f2)) ∧ ((t : Int) % (ns.getD i z69).f1 ≠ 0 → refill ns t left (i + 1) = some l2) := by
  have h1 : refill ns t left (i + 1) ≠ none := fun hh => by rw [refill_none ns t left hh ns.length (by omega)] at hf; cases hf
  simp only [refill] at h1 ⊢
  rw [h] at h1 ⊢
  simp only [Option.bind_some] at h1 ⊢
  refine ⟨fun hc => ?_, fun hc => by rw [if_neg hc]⟩
  rw [if_pos hc] at h1 ⊢
  by_cases c : 0 < l2.getD i 0
  · rw [if_pos c] at h1; exact absurd rfl h1
  · rw [if_neg c]; exact ⟨by omega, rfl⟩
set_option maxHeartbeats 6400000 in
set_option maxRecDepth 100000 in
theorem make_ok (fr : Nat) (hf : 1 ≤ fr) (hf2 : fr ≤ 4096) (A : Option Addr) (c : Nat) (ns : List S69) (hn : ns.length ≤ 1000) (hc : ns.length ≤ c) (hR : ∀ i, i < ns.length → Right fr ns i) (w : World) (hC : Kd.C k69 w A ns.length ns)
    (sf : List Int × List Int) (hmk : mk ns fr = some sf) (hlf : ∀ x ∈ sf.1, x ≤ 0) :
    Calls Try.prog 40 #[.int .i64 fr, .slice A ns.length c] w fun e w' => ∃ A2 c2, e = .returned (.tuple #[.slice A2 sf.2.length c2, .nilIface]) ∧ St [SL.row (Kd.int .i64) 3 (.slice A2 sf.2.length c2) sf.2] w w' := by
  have HPER := Go.Lib.hid (per_of hf hf2 hR)
  have HBUD := Go.Lib.hid (bud_of hf hf2 hR)
  have HC := Go.Lib.hid hC
  have HR := Go.Lib.hid hR
  have HMK := Go.Lib.hid hmk
  have HLF := Go.Lib.hid hlf
  have HS := Go.Lib.hid (St.start w)
  clear hC hR hmk hlf
  go_enter Try.func40, Try.ntmps40
  go_wp2_with (first | (go_at_call 69; refine (all_ok fr hf hf2 A c ns hn hc HR.out _ HC.out).mono ?_; rintro e w1_ ⟨rfl, hB⟩; replace HS := Go.Lib.hid (HS.out.then_ hB); clear hB) | ((with_reducible refine gate_dst (N := 24) rfl ?_); refine Sl.make_st (Kd.int .i64) (flat_int .i64) HS.out 3 (by rfl) 29 (.tmp 23) (.tmp 23) rfl (ns.length : Int) rfl rfl Try.underlying29 (.int .i64 0) 8 (by kernel_rfl) rfl (by decide) (by decide) 0 rfl (by omega) (by omega) rfl ?_; intro v24_ w2_ HSn; obtain ⟨B, d, hv_, _⟩ := HSn.rowC 0 rfl; subst hv_; replace HS : Hid (St (SL.row (Kd.int .i64) 3 (.slice B (List.replicate (ns.length : Int).toNat (0 : Int)).length d) (List.replicate (ns.length : Int).toNat (0 : Int)) :: []) w w2_) := Go.Lib.hid HSn; clear HSn))
  have hS : St [SL.row (Kd.int .i64) 3 (.slice B ns.length d) (List.replicate ns.length 0)] w w2_ := by
    have h := HS.out
    rw [List.length_replicate, Int.toNat_natCast] at h
    exact h
  replace HS := Go.Lib.hid hS
  clear hS
  go_loopw [8, 26] (fun o i wr => ∃ (t : Nat) (left out : List Int) (A8 : Option Addr) (c8 : Nat), t ≤ fr ∧ mk ns t = some (left, out) ∧ o = .slice A8 out.length c8 ∧ i = .int .i64 t ∧ St [SL.row (Kd.int .i64) 3 (.slice A8 out.length c8) out, SL.row (Kd.int .i64) 3 (.slice B ns.length d) left] w wr) (fun _ i _ => fr - (intOf i).toNat)
  case atStart => exact ⟨0, _, [], none, 0, Nat.zero_le _, rfl, rfl, rfl, HS.out.nilrow (Kd.int .i64) 3⟩
  case round =>
    clear HS
    obtain ⟨t, left, out, A8, c8, ht, hm, rfl, rfl, hS⟩ := hrel
    have HS := Go.Lib.hid hS
    have HM := Go.Lib.hid hm
    clear hS hm
    by_cases hlt : t < fr
    · obtain ⟨l3, hl3, hnx⟩ := mk_step HM.out HMK.out hlt
      have HL3 := Go.Lib.hid hl3
      have HNX := Go.Lib.hid hnx
      have hlen := (mk_len ns t _ HM.out).1
      have hlo := (mk_len ns t _ HM.out).2
      simp only at hlen hlo
      have hl3n := refill_len ns t left _ l3 hl3
      have hlb3 := refill_lb HBUD.out (mk_lb HBUD.out t _ HM.out) _ l3 (Nat.le_refl _) hl3
      have HLEN := Go.Lib.hid hlen
      have HL3N := Go.Lib.hid (hl3n.trans hlen)
      have HLB3 := Go.Lib.hid hlb3
      have hbo : (out.length + 1) * 8 ≤ 140737488355328 := by omega
      clear hl3 hnx hlen hl3n hlb3 hlo
      go_wp2_with fail
      go_loopw [31] (fun j wi => ∃ (i : Nat) (l2 : List Int), i ≤ ns.length ∧ j = .int .i64 i ∧ refill ns t left i = some l2 ∧ St [SL.row (Kd.int .i64) 3 (.slice A8 out.length c8) out, SL.row (Kd.int .i64) 3 (.slice B ns.length d) l2] w wi) (fun j _ => ns.length - (intOf j).toNat)
      case atStart => exact ⟨0, left, Nat.zero_le _, rfl, rfl, HS.out⟩
      case round =>
        clear HS
        obtain ⟨i, l2, hi, rfl, hr, hS⟩ := hrel
        have HS := Go.Lib.hid hS
        have HRF := Go.Lib.hid hr
        clear hS
        have hl2 : l2.length = ns.length := (refill_len ns t left i l2 hr).trans HLEN.out
        clear hr
        by_cases hlt2 : i < ns.length
        · obtain ⟨h1, h2⟩ := refill_step HRF.out HL3.out hlt2
          obtain ⟨ad, rfl, g0, g1, g2⟩ := at_T69 HC.out (i : Int) (by omega) (by omega)
          have hper := HPER.out _ (getD_mem ns z69 i hlt2)
          have hbud := HBUD.out _ (getD_mem ns z69 i hlt2)
          unfold rd_T69 at g0 g1 g2
          rw [Int.toNat_natCast] at g0 g1 g2
          replace g0 := HS.out.old g0
          replace g1 := HS.out.old g1
          replace g2 := HS.out.old g2
          generalize ns.getD i z69 = n at *
          obtain ⟨hp1, hp2⟩ := hper
          obtain ⟨hb1, hb2⟩ := hbud
          by_cases hmz : (t : Int) % n.f1 = 0
          · obtain ⟨hle, hst⟩ := h1 hmz
            have HST := Go.Lib.hid hst
            have dm : ((t : Int) % n.f1 != 0) = false := by rw [bne_eq_false_iff_eq]; exact hmz
            have hle2 : rd l2 (i : Int) ≤ 0 := by unfold rd; rw [Int.toNat_natCast]; exact hle
            clear h1 h2 hst
            go_upto_region 13 with (first | ((with_reducible refine gate_dst (N := 11) rfl ?_); refine Sl.box_st HS.out (by rfl) (cs := #[.int .i64 0, .int .i64 0, .int .i64 0]) (t := 69) ?hr ?_; (case hr => first | (go_simp; done) | (go_simp; rfl)); intro g11 w21_ HSn HBn; clear HBn; replace HS : Hid (St (SL.blk g11 69 #[.int .i64 0, .int .i64 0, .int .i64 0] :: SL.row (Kd.int .i64) 3 (.slice A8 out.length c8) out :: SL.row (Kd.int .i64) 3 (.slice B ns.length d) l2 :: []) w w21_) := Go.Lib.hid HSn; clear HSn; obtain ⟨c0_0, c0_1, c0_2⟩ := HS.out.c3 0 _ _ _ _ _ rfl) | ((with_reducible refine gate_store (p := 11) rfl ?_); refine Sl.storeAll_st HS.out 0 g11 69 _ rfl [.int .i64 n.f0, .int .i64 n.f1, .int .i64 n.f2] rfl (by rfl) (by rfl) ?hr ?_; (case hr => have f_ := HS.out.f3 0 _ _ _ _ _ rfl; (try obtain ⟨f0, f1, f2⟩ := f_); first | (go_simp; done) | (go_simp; rfl)); intro w22_ HSn; replace HS : Hid (St (SL.blk g11 69 #[.int .i64 n.f0, .int .i64 n.f1, .int .i64 n.f2] :: SL.row (Kd.int .i64) 3 (.slice A8 out.length c8) out :: SL.row (Kd.int .i64) 3 (.slice B ns.length d) l2 :: []) w w22_) := Go.Lib.hid HSn; clear HSn; clear c0_0 c0_1 c0_2; obtain ⟨c0_0, c0_1, c0_2⟩ := HS.out.c3 0 _ _ _ _ _ rfl))
            clear g0 g1 g2
            have hS2 := HS.out
            rw [← hl2] at hS2
            obtain ⟨b_, cap_, hv_, _, hcc, hff, hput⟩ := hS2.put 2 rfl ((i : Nat) : Int) (by omega) (by omega)
            injection hv_ with q1 _ q3
            subst q1 q3
            obtain ⟨lv, hrl⟩ : ∃ lv, lv = l2.getD i 0 := ⟨_, rfl⟩
            have hrd : rd l2 ((i : Nat) : Int) = lv := by rw [hrl]; unfold rd; rw [Int.toNat_natCast]
            rw [Int.toNat_natCast] at hcc hff
            rw [hrd] at hcc
            have hp := hput (n.f2)
            rw [Int.toNat_natCast, hl2] at hp
            have HP := Go.Lib.hid hp
            clear hput hp hS2 hrd
            have hle3 : lv ≤ 0 := by rw [hrl]; exact hle
            have dl : decide (0 < lv) = false := by simpa using hle3
            clear hle hle2 hle3 hmz hrl
            go_wp2_with ((with_reducible refine gate_store (p := 53) rfl ?_); refine Sl.store_run (w1 := w22_.setCell ⟨b_, i, none⟩ (.int .i64 n.f2)) (by rfl) (by rfl) (by first | (go_simp; done) | (go_simp; rfl)) ?_; have hS3 := HP.out; generalize w22_.setCell ⟨b_, i, none⟩ (.int .i64 n.f2) = w23_ at *; replace HS := Go.Lib.hid hS3; clear hS3 HP hcc hff)
            go_roundw
            case rel => exact ⟨i + 1, l2.set i n.f2, hlt2, rfl, HST.out, HS.out.drop⟩
            case measure => simp [intOf]; omega
          · have hst := h2 hmz
            have HST := Go.Lib.hid hst
            have dm : ((t : Int) % n.f1 != 0) = true := by rw [bne_iff_ne]; exact hmz
            clear h1 h2 hst hmz
            go_wp2_with (first | ((with_reducible refine gate_dst (N := 11) rfl ?_); refine Sl.box_st HS.out (by rfl) (cs := #[.int .i64 0, .int .i64 0, .int .i64 0]) (t := 69) ?hr ?_; (case hr => first | (go_simp; done) | (go_simp; rfl)); intro g11 w21_ HSn HBn; clear HBn; replace HS : Hid (St (SL.blk g11 69 #[.int .i64 0, .int .i64 0, .int .i64 0] :: SL.row (Kd.int .i64) 3 (.slice A8 out.length c8) out :: SL.row (Kd.int .i64) 3 (.slice B ns.length d) l2 :: []) w w21_) := Go.Lib.hid HSn; clear HSn; obtain ⟨c0_0, c0_1, c0_2⟩ := HS.out.c3 0 _ _ _ _ _ rfl) | ((with_reducible refine gate_store (p := 11) rfl ?_); refine Sl.storeAll_st HS.out 0 g11 69 _ rfl [.int .i64 n.f0, .int .i64 n.f1, .int .i64 n.f2] rfl (by rfl) (by rfl) ?hr ?_; (case hr => have f_ := HS.out.f3 0 _ _ _ _ _ rfl; (try obtain ⟨f0, f1, f2⟩ := f_); first | (go_simp; done) | (go_simp; rfl)); intro w22_ HSn; replace HS : Hid (St (SL.blk g11 69 #[.int .i64 n.f0, .int .i64 n.f1, .int .i64 n.f2] :: SL.row (Kd.int .i64) 3 (.slice A8 out.length c8) out :: SL.row (Kd.int .i64) 3 (.slice B ns.length d) l2 :: []) w w22_) := Go.Lib.hid HSn; clear HSn; clear c0_0 c0_1 c0_2; obtain ⟨c0_0, c0_1, c0_2⟩ := HS.out.c3 0 _ _ _ _ _ rfl))
            go_roundw
            case rel => exact ⟨i + 1, l2, hlt2, rfl, HST.out, HS.out.drop⟩
            case measure => simp [intOf]; omega
        · obtain rfl : i = ns.length := by omega
          have he : l2 = l3 := by have := HRF.out; rw [HL3.out] at this; exact (Option.some.inj this).symm
          subst he
          clear hi hlt2
          obtain ⟨KN, hKN⟩ : ∃ KN, KN = ns.length + 1 := ⟨_, rfl⟩
          have HNI := Go.Lib.hid (next_is HPER.out HL3N.out hn (show t ≤ 4096 by omega) KN (by omega))
          have hnl := nextR_lt ns l2 t ns.length
          clear hKN
          obtain ⟨nb, hnb⟩ : ∃ nb, nb = (nextR ns l2 t ns.length).1 := ⟨_, rfl⟩
          obtain ⟨nk, hnk⟩ : ∃ nk, nk = (nextR ns l2 t ns.length).2 := ⟨_, rfl⟩
          have htk : tickR ns t l2 out = if nk = true then (l2.set nb (l2.getD nb 0 - 1), out ++ [(ns.getD nb z69).f0]) else (l2, out ++ [-1]) := by rw [hnb, hnk]; rfl
          have HTK := Go.Lib.hid htk
          rw [← hnb, ← hnk] at HNI hnl
          have HNL := Go.Lib.hid hnl
          clear hnb hnk htk hnl
          go_upto_region 18 with (fail)
          go_wp2_with fail
          obtain ⟨_, _, hv, _, hCl⟩ := HS.out.rowC 1 rfl
          injection hv with q1 q2 q3
          subst q1 q3
          have hcall := plan_next.calls KN A c ns B d l2 (t : Int) (nb : Int) nk _ (HS.out.C HC.out) hc hCl (by rw [HL3N.out]; omega) HNI.out
          rw [HL3N.out] at hcall
          refine hcall.mono ?_
          rintro e w5 ⟨rfl, hB⟩
          replace HS := Go.Lib.hid (HS.out.then_ hB)
          clear hB hCl q2
          cases nk
          · go_wp2_with (first | ((with_reducible refine gate_dst (N := 77) rfl ?_); refine Sl.append_st (Kd.int .i64) (flat_int .i64) HS.out 0 ((.slice A8 out.length c8)) (out) 3 rfl (by rfl) (.tmp 74) (.tmp 76) 29 (.int .i64 0) 8 rfl Try.underlying29 (by kernel_rfl) rfl (by decide) (by decide) ((-1)) [.int .i64 (-1)] rfl rfl ?hp ?hb ?_; (case hp => first | rfl | exact k3_mk _ _); (case hb => exact hbo); intro v1_ w61_ HSn; obtain ⟨A9_, c9_, hv2_, _⟩ := HSn.rowC 0 rfl; subst hv2_; replace HS : Hid (St (SL.row (Kd.int .i64) 3 (.slice A9_ (out ++ [(-1)]).length c9_) (out ++ [(-1)]) :: SL.row (Kd.int .i64) 3 (.slice B ns.length d) l2 :: []) w w61_) := Go.Lib.hid HSn; clear HSn))
            go_roundw
            case rel => exact ⟨t + 1, l2, out ++ [-1], A9_, c9_, hlt, by rw [HNX.out, HTK.out]; rfl, by rw [List.length_append]; rfl, rfl, HS.out⟩
            case measure => simp [intOf]; omega
          · obtain ⟨hnb, hnp⟩ := HNL.out (by first | rfl | trivial)
            have hlb := HLB3.out nb
            obtain ⟨ad, rfl, g0, _⟩ := at_T69 HC.out (nb : Int) (by omega) (by omega)
            unfold rd_T69 at g0
            rw [Int.toNat_natCast] at g0
            replace g0 := HS.out.old g0
            have HI := Go.Lib.hid (show (ns.getD nb z69).f0 = (ns.getD nb z69).f0 from rfl)
            obtain ⟨nid, hnid⟩ : ∃ nid, nid = (ns.getD nb z69).f0 := ⟨_, rfl⟩
            have HNID := Go.Lib.hid hnid
            rw [← hnid] at g0
            have hS2 := HS.out
            rw [← HL3N.out] at hS2
            obtain ⟨b_, cap_, hv_, _, hcc, hff, hput⟩ := hS2.put 1 rfl ((nb : Nat) : Int) (by omega) (by omega)
            injection hv_ with q1 _ q3
            subst q1 q3
            obtain ⟨lv, hrl⟩ : ∃ lv, lv = l2.getD nb 0 := ⟨_, rfl⟩
            have hrd : rd l2 ((nb : Nat) : Int) = lv := by rw [hrl]; unfold rd; rw [Int.toNat_natCast]
            rw [Int.toNat_natCast] at hcc hff
            rw [hrd] at hcc
            have hp := hput (lv - 1)
            rw [Int.toNat_natCast, HL3N.out] at hp
            have HP := Go.Lib.hid hp
            clear hput hp hS2 hrd
            have HLV := Go.Lib.hid hrl
            have hlb2 : 0 < lv ∧ lv ≤ 4096 := by rw [hrl]; exact ⟨hnp, hlb.2⟩
            have b0 : 0 ≤ lv - 1 := by omega
            have b1 : lv - 1 ≤ 4096 := by omega
            clear hlb hlb2 hnp hrl hnid HI
            go_upto_region 22 with ((with_reducible refine gate_store (p := 73) rfl ?_); refine Sl.store_run (w1 := w5.setCell ⟨b_, nb, none⟩ (.int .i64 (lv - 1))) (by rfl) (by rfl) (by first | (go_simp; done) | (go_simp; rfl)) ?_; have hS3 := HP.out; generalize w5.setCell ⟨b_, nb, none⟩ (.int .i64 (lv - 1)) = w6 at *; replace HS := Go.Lib.hid hS3; clear hS3 HP hcc hff)
            go_wp2_with (first | ((with_reducible refine gate_dst (N := 77) rfl ?_); refine Sl.append_st (Kd.int .i64) (flat_int .i64) HS.out 0 ((.slice A8 out.length c8)) (out) 3 rfl (by rfl) (.tmp 74) (.tmp 76) 29 (.int .i64 0) 8 rfl Try.underlying29 (by kernel_rfl) rfl (by decide) (by decide) (nid) [.int .i64 nid] rfl rfl ?hp ?hb ?_; (case hp => first | rfl | exact k3_mk _ _); (case hb => exact hbo); intro v1_ w61_ HSn; obtain ⟨A9_, c9_, hv2_, _⟩ := HSn.rowC 0 rfl; subst hv2_; replace HS : Hid (St (SL.row (Kd.int .i64) 3 (.slice A9_ (out ++ [nid]).length c9_) (out ++ [nid]) :: SL.row (Kd.int .i64) 3 (.slice (some ⟨b_, 0, none⟩) ns.length d) (l2.set nb (lv - 1)) :: []) w w61_) := Go.Lib.hid HSn; clear HSn))
            go_roundw
            case rel => exact ⟨t + 1, l2.set nb (lv - 1), out ++ [nid], A9_, c9_, hlt, by rw [HNX.out, HTK.out, HLV.out, HNID.out]; rfl, by rw [List.length_append]; rfl, rfl, HS.out⟩
            case measure => simp [intOf]; omega
    · obtain rfl : t = fr := by omega
      have hs := HMK.out
      rw [HM.out] at hs
      obtain rfl := Option.some.inj hs
      have hlen := (mk_len ns t _ HM.out).1
      simp only at hlen
      obtain ⟨_, _, hv, _, hCl⟩ := HS.out.rowC 1 rfl
      injection hv with q1 q2 q3
      subst q1 q3
      have hix := index_none B d left wr hCl HLF.out
      rw [hlen] at hix
      have HIX := Go.Lib.hid hix
      clear hCl q2 hix hlen hs
      go_wp2_with (go_at_call 73; refine HIX.out.mono ?_; rintro e w' ⟨rfl, rfl⟩)
      go_ret2
      exact ⟨_, _, rfl, HS.out.erase 1⟩
end Go.Proofs.Ytnniejaknnpcjaa.PlW
