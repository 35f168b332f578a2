/- CrewIgnores: the walk. -/
import Derived.Test.YtkmhgolohppliaaCrwH
namespace Go.Proofs.Ytkmhgolohppliaa.Crw
open Go.RowKit Go.Proofs.Ytkmhgolohppliaa.PCellsPlays Go.Proofs.YtkmhgolohppliaaW.PrintWords Go.Proofs.YtkmhgolohppliaaW.PrintLast Go.Proofs.YtkmhgolohppliaaW.PrintMore Go.Proofs.Ytkmhgolohppliaa.Mine Go.Proofs.Ytkmhgolohppliaa.Cel Go.Proofs.Ytkmhgolohppliaa.Cls
open Go.Proofs.Ytkmhgolohppliaa.Prt (PS new_hd setMode_at act_at write_at shot_at id_st)
open Go.Proofs.Ytkmhgolohppliaa.Sl (SL Stp Chg St No wpc_seal wpc_round sealed MK look)
open Go.Proofs.YtkmhgolohppliaaW.PrintWords (results_list Vals)
set_option linter.unusedVariables false
set_option linter.unusedSimpArgs false
attribute [local go_sem] max2_int min2_int max_two min_two max_three min_three max_four min_four
attribute [local go_sem high] eqA108
def bound (xs : List S63) : Nat := xs.length
theorem few_l0 {xs : List S63} (hl : xs.length ≤ 9223372036854775807) : ∀ (d i k : Nat), i + d = xs.length → d + 1 ≤ k → (∀ j : Nat, j < i → (xs.getD j z63).f3.length ≤ 20) →
    ∃ r, countwheellaw22_few.l0 k xs xs (xs.length : Int) (i : Int) = some r ∧ (r = true → xs.length ≤ 20 ∧ ∀ j : Nat, j < xs.length → (xs.getD j z63).f3.length ≤ 20)
  | 0, i, k, h, hk, hp => by
    obtain ⟨k, rfl⟩ : ∃ m, k = m + 1 := ⟨k - 1, by omega⟩
    simp only [countwheellaw22_few.l0]
    rw [if_neg (by omega)]
    exact ⟨_, rfl, fun h2 => ⟨by have := of_decide_eq_true h2; omega, fun j hj => hp j (by omega)⟩⟩
  | d + 1, i, k, h, hk, hp => by
    obtain ⟨k, rfl⟩ : ∃ m, k = m + 1 := ⟨k - 1, by omega⟩
    have e : rd_T63 xs (i : Int) = xs.getD i z63 := by unfold rd_T63; rw [Int.toNat_natCast]
    simp only [countwheellaw22_few.l0]
    rw [if_pos (by omega), if_pos (by omega), if_pos (by omega), e]
    by_cases c : ((xs.getD i z63).f3.length : Int) > 20
    · rw [if_pos c]; exact ⟨_, rfl, fun h => by cases h⟩
    · rw [if_neg c, show wrap64 ((i : Int) + 1) = ((i + 1 : Nat) : Int) by unfold wrap64; omega]
      refine few_l0 hl d (i + 1) k (by omega) (by omega) (fun j hj => ?_)
      rcases Nat.lt_or_ge j i with q | q
      · exact hp j q
      · obtain rfl : j = i := by omega
        omega
theorem few_is (xs : List S63) (hl : xs.length ≤ 9223372036854775807) : ∃ k r, countwheellaw22_few.f k xs = some r ∧ (r = true → xs.length ≤ 20 ∧ ∀ x ∈ xs, x.f3.length ≤ 20) := by
  obtain ⟨r, h1, h2⟩ := few_l0 hl xs.length 0 (xs.length + 1) (by omega) (Nat.le_refl _) (fun j hj => absurd hj (Nat.not_lt_zero _))
  refine ⟨_, r, h1, fun hr => ⟨(h2 hr).1, fun x hx => ?_⟩⟩
  obtain ⟨j, hj, rfl⟩ := List.getElem_of_mem hx
  have := (h2 hr).2 j hj
  rwa [List.getD_eq_getElem?_getD, List.getElem?_eq_getElem hj] at this
/-- A partition that was called on so often at most. -/
structure FineB (B : Int) (x : CP) : Prop where
  s0 : 0 ≤ x.s.starts
  s1 : x.s.starts ≤ B
  n : x.p.f3.length ≤ 20
  len : x.s.now.length = x.p.f3.length
  wr0 : 0 ≤ x.s.wr
theorem FineB.fine {B : Int} {x : CP} (h : FineB B x) (hB : B ≤ 100000) : Fine x := ⟨h.s0, by have := h.s1; omega, by have := h.n; omega, h.len, h.wr0⟩
theorem FineB.up {B : Int} {x : CP} (h : FineB B x) : FineB (B + 1) x := ⟨h.s0, by have := h.s1; omega, h.n, h.len, h.wr0⟩
theorem FineB.mode {B : Int} {x : CP} (h : FineB B x) (m : Int) : FineB (B + 1) ⟨x.g, x.p, x.s.setMode x.p.f3 m⟩ := by
  have h2 := Prt.setMode_wr x.p.f3 x.s m h.wr0
  have h3 : (x.s.setMode x.p.f3 m).starts = x.s.starts ∨ (x.s.setMode x.p.f3 m).starts = x.s.starts + 1 := by
    unfold PS.setMode
    split
    · rw [Prt.become_starts]; split
      · exact .inl rfl
      · exact .inr rfl
    · exact .inl rfl
  have h0 := h.s0; have h1 := h.s1
  exact ⟨by show 0 ≤ (x.s.setMode x.p.f3 m).starts; rcases h3 with h3 | h3 <;> omega, by show (x.s.setMode x.p.f3 m).starts ≤ B + 1; rcases h3 with h3 | h3 <;> omega, h.n, Prt.setMode_len x.p.f3 x.s m h.len, h2.1⟩
theorem forM_none {acs : List S103} {s : Int} (h : ∀ a ∈ acs, a.f0 ≠ s) (id : Int) : forM acs s id = 0 := by
  unfold forM
  rw [idx_none (fun j hj => ?_), if_pos (by decide)]
  unfold speaks
  have hm : acs.getD j z103 ∈ acs := by rw [List.getD_eq_getElem?_getD, List.getElem?_eq_getElem hj]; exact List.getElem_mem hj
  rw [beq_eq_false_iff_ne.2 (h _ hm), Bool.false_and]
theorem act_none (m : Int) : (Mod.actM m 0).2.1 = 0 := by unfold Mod.actM; simp
theorem acts_none {acs : List S103} {s : Int} (h : ∀ a ∈ acs, a.f0 ≠ s) (ps : List CP) : ps.map (actOf acs s) = ps ∧ ps.map (didOf acs s) = ps.map (fun x => ⟨x.p.f0, 0, false⟩) := by
  have h1 : ∀ x, actOf acs s x = x := fun x => by unfold actOf; rw [forM_none h, Prt.act_plain _ _ _ (act_none _)]
  have h2 : ∀ x, didOf acs s x = ⟨x.p.f0, 0, false⟩ := fun x => by unfold didOf; rw [forM_none h, act_none]; rfl
  exact ⟨by rw [show actOf acs s = id from funext h1]; exact List.map_id _, by rw [show didOf acs s = fun x => (⟨x.p.f0, 0, false⟩ : S108) from funext h2]⟩
theorem sem_len {hs : List SH} {ps : List CP} (h : hs.map SH.sem = ps.map CP.sem) (hp : ∀ x ∈ ps, x.s.now.length ≤ 1000) : ∀ x ∈ hs, x.now.length ≤ 1000000 := by
  intro x hx
  have hm : x.sem ∈ ps.map CP.sem := by rw [← h]; exact List.mem_map.2 ⟨x, hx, rfl⟩
  obtain ⟨y, hy, e⟩ := List.mem_map.1 hm
  have e2 : y.s.now = x.now := by simp only [SH.sem, CP.sem, Prod.mk.injEq] at e; exact e.2.2.2.2
  rw [← e2]
  have := hp y hy
  omega
/-- Shots in the midst of what is owned. -/
theorem shots_mem {L : List SL} {w0 : World} {A : Option Addr} {c : Nat} {hs : List SH} (h1 : SL.row kh81 81 (.slice A hs.length c) hs ∈ L) (h2 : ∀ x ∈ hs, x.row ∈ L) : ShotsAt L w0 A hs := by
  intro lx w1 h
  exact ⟨(mem_read h (List.mem_append_right _ h1)).2, fun x hx => mem_read h (List.mem_append_right _ (h2 x hx))⟩
theorem shots_mid {L1 L2 L3 : List SL} {X Y : SL} {w0 w1 : World} (A : Option Addr) (c : Nat) (hs : List SH) (_ : St (X :: (L1 ++ ((Y :: (SL.row kh81 81 (.slice A hs.length c) hs :: (rowsL hs ++ L2))) ++ L3))) w0 w1) : ShotsAt (X :: (L1 ++ ((Y :: (SL.row kh81 81 (.slice A hs.length c) hs :: (rowsL hs ++ L2))) ++ L3))) w0 A hs :=
  shots_mem (c := c) (List.mem_cons_of_mem _ (List.mem_append_right _ (List.mem_append_left _ (List.mem_cons_of_mem _ (List.mem_cons_self ..)))))
    (fun x hx => List.mem_cons_of_mem _ (List.mem_append_right _ (List.mem_append_left _ (List.mem_cons_of_mem _ (List.mem_cons_of_mem _ (List.mem_append_left _ (List.mem_reverse.2 (List.mem_map.2 ⟨x, hx, rfl⟩))))))))
set_option maxHeartbeats 25600000 in
set_option maxRecDepth 100000 in
theorem ignores_raw (w : World) (A0 : Option Addr) (c0 : Nat) (xs : List S63) (hr0 : Kd.C k63 w A0 xs.length xs) (hc0 : xs.length ≤ c0) (hwf : ∀ x ∈ xs, (Lit.int .i64 x.f0).wf = true) (AA : Option Addr) (ca : Nat) (acs : List S103) (hra : Kd.C k103 w AA acs.length acs) (hca : acs.length ≤ ca) (sched : Int)
    (AM : Option Addr) (cm : Nat) (ms : List Int) (hrm : Kd.C (Kd.int .i64) w AM ms.length ms) (hcm : ms.length ≤ cm) :
    Calls Try.prog 12 #[.slice A0 xs.length c0, .slice AA acs.length ca, .int .i64 sched, .slice AM ms.length cm] w fun e w' => e = .returned (.bool true) ∧ Below w.heap.size w w' := by
  obtain ⟨K_, r, hfew, hfew2⟩ := few_is xs hr0.2.1
  have HF := Go.Lib.hid hfew
  have HS := Go.Lib.hid (St.start w)
  have HC := Go.Lib.hid hr0
  have HA := Go.Lib.hid hra
  have HM := Go.Lib.hid hrm
  have HWF := Go.Lib.hid hwf
  have hl1 : xs.length ≤ 9223372036854775807 := hr0.2.1
  have hl2 : acs.length ≤ 9223372036854775807 := hra.2.1
  have hl3 : ms.length ≤ 9223372036854775807 := hrm.2.1
  clear hr0 hra hrm hfew hwf
  cases r with
  | false =>
    clear hfew2
    go_enter Try.func12, Try.ntmps12
    go_wp2_with (first | (go_at_call 58; refine (countwheellaw22_few.calls K_ A0 c0 xs false _ HC.out hc0 HF.out).mono ?_; rintro e w1 ⟨rfl, hb⟩; replace HS := Go.Lib.hid (HS.out.then_ hb); clear hb) | (go_at_call 55; refine (awake_st HS.out).mono ?_; rintro e wz ⟨rfl, hS⟩; replace HS := Go.Lib.hid hS; clear hS))
    go_ret
    exact ⟨rfl, HS.out.below⟩
  | true =>
    obtain ⟨hx20, hf20⟩ := hfew2 rfl
    have HF20 := Go.Lib.hid hf20
    clear hfew2 hf20
    by_cases ha : acs.length ≤ 40
    rotate_left
    · have hq : decide (40 < acs.length) = true := by simp; omega
      go_enter Try.func12, Try.ntmps12
      go_wp2_with (first | (go_at_call 58; refine (countwheellaw22_few.calls K_ A0 c0 xs true _ HC.out hc0 HF.out).mono ?_; rintro e w1 ⟨rfl, hb⟩; replace HS := Go.Lib.hid (HS.out.then_ hb); clear hb) | (go_at_call 55; refine (awake_st HS.out).mono ?_; rintro e wz ⟨rfl, hS⟩; replace HS := Go.Lib.hid hS; clear hS))
      go_ret
      exact ⟨rfl, HS.out.below⟩
    have hq1 : decide (40 < acs.length) = false := by simp; omega
    by_cases hm : ms.length ≤ 20
    rotate_left
    · have hq : decide (20 < ms.length) = true := by simp; omega
      go_enter Try.func12, Try.ntmps12
      go_wp2_with (first | (go_at_call 58; refine (countwheellaw22_few.calls K_ A0 c0 xs true _ HC.out hc0 HF.out).mono ?_; rintro e w1 ⟨rfl, hb⟩; replace HS := Go.Lib.hid (HS.out.then_ hb); clear hb) | (go_at_call 55; refine (awake_st HS.out).mono ?_; rintro e wz ⟨rfl, hS⟩; replace HS := Go.Lib.hid hS; clear hS))
      go_ret
      exact ⟨rfl, HS.out.below⟩
    have hq2 : decide (20 < ms.length) = false := by simp; omega
    go_enter Try.func12, Try.ntmps12
    go_wp2_with (go_at_call 58; refine (countwheellaw22_few.calls K_ A0 c0 xs true _ HC.out hc0 HF.out).mono ?_; rintro e w1 ⟨rfl, hb⟩; replace HS := Go.Lib.hid (HS.out.then_ hb); clear hb)
    refine (crew_new HS.out A0 c0 xs (parts_arg HC.out) (by omega) (fun x hx => by have := HF20.out x hx; omega) HWF.out).mono ?_
    rintro e w2 (⟨hri, gc, bm, A, c, ids, ps, rfl, hps, hids, hin, hS⟩ | ⟨hn, rfl, hS⟩)
    rotate_left
    · replace HS := Go.Lib.hid hS
      clear hS hn
      go_wp2_with (go_at_call 55; refine (awake_st HS.out).mono ?_; rintro e wz ⟨rfl, hS⟩; replace HS := Go.Lib.hid hS; clear hS)
      go_ret
      exact ⟨rfl, HS.out.below⟩
    have hnd : (idsC ps).Nodup := ids_nodup hri (Nat.le_refl _) (by rw [hps, List.take_length])
    have hlp : ps.length = xs.length := by rw [← List.length_map (f := fun x : CP => x.p), hps]
    have hil : ids.length = xs.length := by rw [hids]; unfold idsC; rw [List.length_map, hlp]
    have hfb : ∀ x ∈ ps, FineB 1 x := by
      intro x hx
      have h1 := hin x hx
      have h2 : x.p ∈ xs := by rw [← hps]; exact List.mem_map.2 ⟨x, hx, rfl⟩
      have h3 := HF20.out _ h2
      obtain ⟨g, p, s⟩ := x
      obtain rfl : s = PS.init p.f3 := h1
      exact ⟨by show (0 : Int) ≤ 1; decide, Int.le_refl 1, h3, by show (p.f3.map _).length = _; simp, Int.le_refl 0⟩
    replace HS : Hid (St (([] : List SL) ++ crewL gc bm A c ids ps []) w w2) := Go.Lib.hid hS
    have HND := Go.Lib.hid hnd
    have HIL := Go.Lib.hid hil
    have HPS := Go.Lib.hid hps
    have HID := Go.Lib.hid hids
    have HFB := Go.Lib.hid hfb
    have hil20 : ids.length ≤ 20 := by omega
    have HPS0 := Go.Lib.hid hps
    have HNDI : Hid ids.Nodup := Go.Lib.hid (by rw [hids]; exact hnd)
    clear hS hri hin hnd hlp hil hps hids hfb
    go_wp2_with (go_at_call 60; refine (ids_st HS.out (by omega)).mono ?_; rintro e w3 ⟨A9, c9, rfl, hS⟩; replace HS : Hid (St ([SL.row (Kd.int .i64) 3 (.slice A9 ids.length c9) ids] ++ crewL gc bm A c ids ps []) w w3) := Go.Lib.hid hS; clear hS)
    have hB0 : ((1 : Int) + ((0 : Nat) : Int)) = 1 := rfl
    go_loopw [55] (fun i wr => ∃ (k : Nat) (ps2 : List CP), k ≤ ids.length ∧ i = .int .i64 k ∧ ps2.map (·.p) = xs ∧ (∀ x ∈ ps2, FineB (1 + (k : Int)) x) ∧ St ([SL.row (Kd.int .i64) 3 (.slice A9 ids.length c9) ids] ++ crewL gc bm A c ids ps2 []) w wr) (fun i _ => ids.length - (intOf i).toNat)
    case atStart => exact ⟨0, ps, Nat.zero_le _, rfl, HPS.out, fun x hx => by have := HFB.out x hx; exact this, HS.out⟩
    case round =>
      clear HS HFB HPS HND
      obtain ⟨k, ps2, hk, rfl, hps, hfb, hS⟩ := hrel
      have HS := Go.Lib.hid hS
      have HPS := Go.Lib.hid hps
      have HFB := Go.Lib.hid hfb
      have hlp : ps2.length = xs.length := by rw [← List.length_map (f := fun x : CP => x.p), hps]
      have hid2 : ids = idsC ps2 := by rw [HID.out]; unfold idsC; have h1 : ∀ q : List CP, q.map (·.p.f0) = (q.map (·.p)).map (·.f0) := (fun q => by rw [List.map_map]; rfl); rw [h1, h1, hps, HPS0.out]
      have hnd2 : (idsC ps2).Nodup := by rw [← hid2]; exact HNDI.out
      have HLP := Go.Lib.hid hlp
      have HI2 := Go.Lib.hid hid2
      have HN2 := Go.Lib.hid hnd2
      clear hS hps hfb hlp hid2 hnd2
      by_cases hlt : k < ids.length
      · have hkx : k < ps2.length := by rw [HLP.out, ← HIL.out]; exact hlt
        obtain ⟨hA1, hA2⟩ := rowC_in HS.out 0 rfl
        obtain ⟨ai, rfl, g0⟩ := Kd.at_int hA2 (k : Int) (by omega) (by omega)
        rw [Int.toNat_natCast] at g0
        obtain ⟨x, hx⟩ : ∃ x, ps2[k] = x := ⟨_, rfl⟩
        have hxm : x ∈ ps2 := by rw [← hx]; exact List.getElem_mem hkx
        have hrd : rd ids (k : Int) = x.p.f0 := by
          unfold rd; rw [Int.toNat_natCast, HI2.out, List.getD_eq_getElem?_getD]
          unfold idsC
          rw [List.getElem?_map, List.getElem?_eq_getElem hkx, hx]; rfl
        rw [hrd] at g0
        have hwx : (Lit.int .i64 x.p.f0).wf = true := HWF.out _ (by rw [← HPS.out]; exact List.mem_map.2 ⟨x, hxm, rfl⟩)
        have hfx := HFB.out x hxm
        have HGX : Hid (∃ h : k < ps2.length, ps2[k] = x) := Go.Lib.hid ⟨hkx, hx⟩
        have HEP : Hid (([SL.row (Kd.int .i64) 3 (.slice (some ai) ids.length c9) ids] ++ crewL gc bm A c ids ps2 [])[1 + (3 + (ps2.length - 1 - k))]? = some (Prt.part x.g x.p.f0 x.p.f1 x.p.f2 x.p.f3 x.s)) := Go.Lib.hid (by rw [← hx]; exact cr_part (pre := [_]) k hkx)
        have HTU : Hid (∀ s2 : PS, ([SL.row (Kd.int .i64) 3 (.slice (some ai) ids.length c9) ids] ++ crewL gc bm A c ids ps2 []).set (1 + (3 + (ps2.length - 1 - k))) (Prt.part x.g x.p.f0 x.p.f1 x.p.f2 x.p.f3 s2) = [SL.row (Kd.int .i64) 3 (.slice (some ai) ids.length c9) ids] ++ crewL gc bm A c ids (ps2.set k ⟨x.g, x.p, s2⟩) []) := Go.Lib.hid (fun s2 => by subst hx; exact cr_turn (pre := [_]) k hkx s2)
        have HPN : Hid (∀ s2 : PS, (ps2.set k ⟨x.g, x.p, s2⟩).map (·.p) = xs) := Go.Lib.hid (fun s2 => by rw [List.map_set, ← HPS.out]; subst hx; exact set_of_get (by rw [List.getElem?_map, List.getElem?_eq_getElem hkx]; rfl))
        have HFN : Hid (∀ m : Int, ∀ y ∈ ps2.set k ⟨x.g, x.p, x.s.setMode x.p.f3 m⟩, FineB (1 + ((k + 1 : Nat) : Int)) y) := Go.Lib.hid (fun m y hy => by rw [show (1 : Int) + ((k + 1 : Nat) : Int) = 1 + (k : Int) + 1 by omega]; rcases List.mem_or_eq_of_mem_set hy with hy | rfl; exact (HFB.out y hy).up; exact hfx.mode m)
        have HF1 := Go.Lib.hid (show ∀ y ∈ ps2, FineB (1 + ((k + 1 : Nat) : Int)) y from fun y hy => by rw [show (1 : Int) + ((k + 1 : Nat) : Int) = 1 + (k : Int) + 1 by omega]; exact (HFB.out y hy).up)
        have hs0 := hfx.s0
        have hs1 := hfx.s1
        have hn20 := hfx.n
        have HWX := Go.Lib.hid hwx
        clear hA1 hA2 hx hxm hrd hwx hfx
        by_cases hkm : k < ms.length
        · obtain ⟨am, rfl, m0⟩ := Kd.at_int HM.out (k : Int) (by omega) (by omega)
          rw [Int.toNat_natCast] at m0
          replace m0 := HS.out.old m0
          generalize rd ms (k : Int) = want at m0
          go_wp2_with (first | (go_at_call 61; refine (getp_st HS.out HN2.out k hkx x.p.f0 (by obtain ⟨_, e⟩ := HGX.out; rw [e]) x.g (by obtain ⟨_, e⟩ := HGX.out; rw [e]) HWX.out).mono ?_; rintro e w' ⟨rfl, rfl⟩) | (go_at_call 40; refine (setMode_at HS.out _ HEP.out want hs0 (by omega) (by omega)).mono ?_; rintro e w5 ⟨rfl, hS⟩; rw [HTU.out] at hS; replace HS := Go.Lib.hid hS; clear hS))
          go_roundw
          case rel => exact ⟨k + 1, ps2.set k ⟨x.g, x.p, x.s.setMode x.p.f3 want⟩, hlt, by go_num, HPN.out _, HFN.out want, HS.out⟩
          case measure => simp [intOf]; omega
        · have hkb : decide (k < ms.length) = false := by simp; omega
          go_wp2_with (go_at_call 61; refine (getp_st HS.out HN2.out k hkx x.p.f0 (by obtain ⟨_, e⟩ := HGX.out; rw [e]) x.g (by obtain ⟨_, e⟩ := HGX.out; rw [e]) HWX.out).mono ?_; rintro e w' ⟨rfl, rfl⟩)
          go_roundw
          case rel => exact ⟨k + 1, ps2, hlt, by go_num, HPS.out, HF1.out, HS.out⟩
          case measure => simp [intOf]; omega
      · have hke : k = ids.length := by omega
        have HFF : Hid (∀ x ∈ ps2, Fine x) := Go.Lib.hid (fun x hx => (HFB.out x hx).fine (by omega))
        have HF3 : Hid (∀ x ∈ ps2, x.s.now.length ≤ 1000) := Go.Lib.hid (fun x hx => by have h1 := (HFB.out x hx).len; have h2 := (HFB.out x hx).n; omega)
        have HWP : Hid (∀ x ∈ ps2, (Lit.int .i64 x.p.f0).wf = true) := Go.Lib.hid (fun x hx => HWF.out _ (by rw [← HPS.out]; exact List.mem_map.2 ⟨x, hx, rfl⟩))
        clear hke
        have hil2 := HIL.out
        skip
        obtain rfl : k = ids.length := by omega
        clear hk hlt hil2
        go_wp2_with fail
        replace HS : Hid (St (SL.row k103 103 (.slice none ([] : List S103).length 0) [] :: SL.row (Kd.int .i64) 3 (.slice A9 ids.length c9) ids :: crewL gc bm A c ids ps2 []) w wr) := Go.Lib.hid (HS.out.nilrow k103 103)
        go_loopw [15, 82] (fun a i wr => ∃ (k : Nat) (os : List S103) (Ao : Option Addr) (co : Nat), k ≤ acs.length ∧ a = .slice Ao os.length co ∧ i = .int .i64 k ∧ os.length ≤ k ∧ (∀ a ∈ os, a.f0 ≠ sched) ∧ St (SL.row k103 103 (.slice Ao os.length co) os :: SL.row (Kd.int .i64) 3 (.slice A9 ids.length c9) ids :: crewL gc bm A c ids ps2 []) w wr) (fun _ i _ => acs.length - (intOf i).toNat)
        case atStart => exact ⟨0, [], none, 0, Nat.zero_le _, rfl, rfl, Nat.le_refl _, (fun a h => by cases h), HS.out⟩
        case round =>
          clear HS
          obtain ⟨k, os, Ao, co, hk, rfl, rfl, hol, hos, hS⟩ := hrel
          have HS := Go.Lib.hid hS
          have HOS := Go.Lib.hid hos
          clear hS hos
          by_cases hlt : k < acs.length
          · obtain ⟨aa, rfl, x0, x1, x2⟩ := at_T103 HA.out (k : Int) (by omega) (by omega)
            rw [Int.toNat_natCast] at x0 x1 x2
            generalize rd_T103 acs (k : Int) = a at *
            replace x0 := HS.out.old x0
            replace x1 := HS.out.old x1
            replace x2 := HS.out.old x2
            cases hq : (a.f0 != sched)
            · go_wp2_with (first | ((with_reducible refine gate_dst (N := 17) rfl ?_); refine Sl.box_st HS.out (by rfl) (cs := #[.int .i64 0, .int .i64 0, .int .i64 0]) (t := 103) ?hr ?_; (case hr => first | (go_simp; done) | (go_simp; rfl)); intro g17 w61_ HSn HBn; clear HBn; replace HS : Hid (St (SL.blk g17 103 #[.int .i64 0, .int .i64 0, .int .i64 0] :: SL.row k103 103 (.slice Ao os.length co) os :: SL.row (Kd.int .i64) 3 (.slice A9 ids.length c9) ids :: crewL gc bm A c ids ps2 []) w w61_) := Go.Lib.hid HSn; clear HSn; obtain ⟨c0_0, c0_1, c0_2⟩ := HS.out.c3 0 _ _ _ _ _ rfl) | ((with_reducible refine gate_store (p := 17) rfl ?_); refine Sl.storeAll_st HS.out 0 g17 103 _ rfl [.int .i64 a.f0, .int .i64 a.f1, .int .i64 a.f2] rfl (by rfl) (by rfl) ?hr ?_; (case hr => have f_ := HS.out.f3 0 _ _ _ _ _ rfl; (try obtain ⟨f0, f1, f2⟩ := f_); first | (go_simp; done) | (go_simp; rfl)); intro w62_ HSn; replace HS : Hid (St (SL.blk g17 103 #[.int .i64 a.f0, .int .i64 a.f1, .int .i64 a.f2] :: SL.row k103 103 (.slice Ao os.length co) os :: SL.row (Kd.int .i64) 3 (.slice A9 ids.length c9) ids :: crewL gc bm A c ids ps2 []) w w62_) := Go.Lib.hid HSn; clear HSn; clear c0_0 c0_1 c0_2; obtain ⟨c0_0, c0_1, c0_2⟩ := HS.out.c3 0 _ _ _ _ _ rfl))
              go_roundw
              case rel => exact ⟨k + 1, os, Ao, co, hlt, rfl, by go_num, by omega, HOS.out, HS.out.drop⟩
              case measure => simp [intOf]; omega
            · have HNA : Hid (∀ b ∈ os ++ [a], b.f0 ≠ sched) := Go.Lib.hid (by intro b hb; rcases List.mem_append.1 hb with hb | hb; exact HOS.out b hb; rw [List.mem_singleton.1 hb]; exact bne_iff_ne.1 hq)
              go_wp2_with (first | ((with_reducible refine gate_dst (N := 17) rfl ?_); refine Sl.box_st HS.out (by rfl) (cs := #[.int .i64 0, .int .i64 0, .int .i64 0]) (t := 103) ?hr ?_; (case hr => first | (go_simp; done) | (go_simp; rfl)); intro g17 w61_ HSn HBn; clear HBn; replace HS : Hid (St (SL.blk g17 103 #[.int .i64 0, .int .i64 0, .int .i64 0] :: SL.row k103 103 (.slice Ao os.length co) os :: SL.row (Kd.int .i64) 3 (.slice A9 ids.length c9) ids :: crewL gc bm A c ids ps2 []) w w61_) := Go.Lib.hid HSn; clear HSn; obtain ⟨c0_0, c0_1, c0_2⟩ := HS.out.c3 0 _ _ _ _ _ rfl) | ((with_reducible refine gate_store (p := 17) rfl ?_); refine Sl.storeAll_st HS.out 0 g17 103 _ rfl [.int .i64 a.f0, .int .i64 a.f1, .int .i64 a.f2] rfl (by rfl) (by rfl) ?hr ?_; (case hr => have f_ := HS.out.f3 0 _ _ _ _ _ rfl; (try obtain ⟨f0, f1, f2⟩ := f_); first | (go_simp; done) | (go_simp; rfl)); intro w62_ HSn; replace HS : Hid (St (SL.blk g17 103 #[.int .i64 a.f0, .int .i64 a.f1, .int .i64 a.f2] :: SL.row k103 103 (.slice Ao os.length co) os :: SL.row (Kd.int .i64) 3 (.slice A9 ids.length c9) ids :: crewL gc bm A c ids ps2 []) w w62_) := Go.Lib.hid HSn; clear HSn; clear c0_0 c0_1 c0_2; obtain ⟨c0_0, c0_1, c0_2⟩ := HS.out.c3 0 _ _ _ _ _ rfl) | ((with_reducible refine gate_dst (N := 93) rfl ?_); refine Sl.append_st (k103) ((flat_iso (flat_pair (flat_int .i64) (flat_pair (flat_int .i64) (flat_int .i64))))) HS.out 1 (.slice Ao os.length co) (os) 103 rfl (by rfl) (.tmp 90) (.tmp 92) 93 (.agg #[.int .i64 0, .int .i64 0, .int .i64 0]) 24 rfl Try.underlying93 (by kernel_rfl) rfl (by decide) (by decide) (a) [.int .i64 a.f0, .int .i64 a.f1, .int .i64 a.f2] rfl rfl ?hp ?hb ?_; (case hp => first | rfl | exact k103_mk _ _); (case hb => omega); intro v1_ w63_ HSn; obtain ⟨A29_, c29_, hv2_, _⟩ := HSn.rowC 1 rfl; subst hv2_; replace HS : Hid (St (SL.blk g17 103 #[.int .i64 a.f0, .int .i64 a.f1, .int .i64 a.f2] :: SL.row (k103) 103 (.slice A29_ (os ++ [a]).length c29_) (os ++ [a]) :: SL.row (Kd.int .i64) 3 (.slice A9 ids.length c9) ids :: crewL gc bm A c ids ps2 []) w w63_) := Go.Lib.hid HSn; clear HSn; clear c0_0 c0_1 c0_2; obtain ⟨c0_0, c0_1, c0_2⟩ := HS.out.c3 0 _ _ _ _ _ rfl))
              go_roundw
              case rel => exact ⟨k + 1, os ++ [a], A29_, c29_, hlt, by simp, by go_num, by rw [List.length_append, List.length_singleton]; omega, HNA.out, HS.out.drop⟩
              case measure => simp [intOf]; omega
          · obtain rfl : k = acs.length := by omega
            clear hk hlt
            replace HS : Hid (St ((SL.row k103 103 (.slice Ao os.length co) os :: [SL.row (Kd.int .i64) 3 (.slice A9 ids.length c9) ids]) ++ crewL gc bm A c ids ps2 []) w wr) := Go.Lib.hid HS.out
            have hol40 : os.length ≤ 40 := by omega
            have hpl : ps2.length ≤ 20 := by rw [HLP.out]; exact hx20
            go_wp2_with (first | (go_at_call 62; refine (crewShots_st HS.out HI2.out HN2.out HFF.out HWP.out (by omega)).mono ?_; rintro e w7 ⟨A7, c7, hs, rfl, hse, hS⟩; have HSE := Go.Lib.hid hse; replace HS : Hid (St ((SL.row kh81 81 (.slice A7 hs.length c7) hs :: (rowsL hs ++ (SL.row k103 103 (.slice Ao os.length co) os :: [SL.row (Kd.int .i64) 3 (.slice A9 ids.length c9) ids]))) ++ crewL gc bm A c ids ps2 []) w w7) := Go.Lib.hid (by rw [List.cons_append, List.append_assoc]; exact hS); clear hS hse) | (go_at_call 63; refine (change_st HS.out HI2.out HN2.out HFF.out HWP.out (by omega) Ao co os (fun lx ps3 w1 h1 => (mem_read (d := k103) (ee := 103) (c := co) (xs := os) h1 (List.mem_append_right _ (List.mem_append_left _ (List.mem_cons_of_mem _ (List.mem_append_right _ (List.mem_cons_self ..)))))).2) (by omega) sched).mono ?_; rintro e w8 ⟨A8, c8, ds, rfl, hds, hS⟩; rw [(acts_none HOS.out ps2).1] at hS; rw [(acts_none HOS.out ps2).2] at hds; have HDS := Go.Lib.hid hds; have hdl : ds.length = xs.length := (by rw [hds, List.length_map, HLP.out]); have HDL := Go.Lib.hid hdl; have hdn : (ds.length != xs.length) = false := (by rw [hdl]; simp); have hdn2 : ((ds.length : Int) != (xs.length : Int)) = false := (by rw [hdl]; simp); replace HS : Hid (St ((SL.row k108 108 (.slice A8 ds.length c8) ds :: (SL.row kh81 81 (.slice A7 hs.length c7) hs :: (rowsL hs ++ (SL.row k103 103 (.slice Ao os.length co) os :: [SL.row (Kd.int .i64) 3 (.slice A9 ids.length c9) ids])))) ++ crewL gc bm A c ids ps2 []) w w8) := Go.Lib.hid hS; clear hS hds hdl))
            go_loopw [108] (fun i wr => ∃ k : Nat, k ≤ ds.length ∧ i = .int .i64 k ∧ St ((SL.row k108 108 (.slice A8 ds.length c8) ds :: (SL.row kh81 81 (.slice A7 hs.length c7) hs :: (rowsL hs ++ (SL.row k103 103 (.slice Ao os.length co) os :: [SL.row (Kd.int .i64) 3 (.slice A9 ids.length c9) ids])))) ++ crewL gc bm A c ids ps2 []) w wr) (fun i _ => ds.length - (intOf i).toNat)
            case atStart => exact ⟨0, Nat.zero_le _, rfl, HS.out⟩
            case round =>
              clear HS
              obtain ⟨k, hk, rfl, hS⟩ := hrel
              have HS := Go.Lib.hid hS
              clear hS
              have hdx : ds.length ≤ 20 := by rw [HDL.out]; exact hx20
              by_cases hlt : k < ds.length
              · have hkx : k < xs.length := by rw [← HDL.out]; exact hlt
                have hkp : k < ps2.length := by rw [HLP.out]; exact hkx
                obtain ⟨ad, rfl, x0, x1, x2⟩ := at_T108 (rowC_in HS.out 0 rfl : _ ∧ k108.C wr A8 ds.length ds).2 (k : Int) (by omega) (by omega)
                rw [Int.toNat_natCast] at x0 x1 x2
                obtain ⟨ax, _, _, rfl, h0, _⟩ := at_T63 HC.out (k : Int) (by omega) (by omega)
                rw [Int.toNat_natCast] at h0
                have hd : rd_T108 ds (k : Int) = ⟨(xs.getD k z63).f0, 0, false⟩ := by
                  unfold rd_T108; rw [Int.toNat_natCast, HDS.out, List.getD_eq_getElem?_getD, List.getElem?_map, List.getElem?_eq_getElem hkp]
                  show (⟨(ps2[k]).p.f0, 0, false⟩ : S108) = _
                  congr 1
                  rw [List.getD_eq_getElem?_getD, ← HPS.out, List.getElem?_map, List.getElem?_eq_getElem hkp]; rfl
                have hx : rd_T63 xs (k : Int) = xs.getD k z63 := by unfold rd_T63; rw [Int.toNat_natCast]
                rw [hd] at x0 x1 x2
                rw [hx] at h0
                clear hd hx
                generalize (xs.getD k z63).f0 = pid at *
                replace x0 : wr.cell? (ad.add (k * 3)) = some (.int .i64 pid) := x0
                replace x1 : wr.cell? ⟨(ad.add (k * 3)).block, (ad.add (k * 3)).off + 1, none⟩ = some (.int .i64 0) := x1
                replace x2 : wr.cell? ⟨(ad.add (k * 3)).block, (ad.add (k * 3)).off + 2, none⟩ = some (.bool false) := x2
                go_wp2_with (first | ((with_reducible refine gate_dst (N := 21) rfl ?_); refine Sl.box_st HS.out (by rfl) (cs := #[.int .i64 0, .int .i64 0, .bool false]) (t := 108) ?hr ?_; (case hr => first | (go_simp; done) | (go_simp; rfl)); intro g21 w81_ HSn HBn; clear HBn; replace HS : Hid (St (SL.blk g21 108 #[.int .i64 0, .int .i64 0, .bool false] :: ((SL.row k108 108 (.slice (some ad) ds.length c8) ds :: (SL.row kh81 81 (.slice A7 hs.length c7) hs :: (rowsL hs ++ (SL.row k103 103 (.slice Ao os.length co) os :: [SL.row (Kd.int .i64) 3 (.slice A9 ids.length c9) ids])))) ++ crewL gc bm A c ids ps2 [])) w w81_) := Go.Lib.hid HSn; clear HSn; obtain ⟨c0_0, c0_1, c0_2⟩ := HS.out.c3 0 _ _ _ _ _ rfl) | ((with_reducible refine gate_store (p := 21) rfl ?_); refine Sl.storeAll_st HS.out 0 g21 108 _ rfl [.int .i64 pid, .int .i64 0, .bool false] rfl (by rfl) (by rfl) ?hr ?_; (case hr => have f_ := HS.out.f3 0 _ _ _ _ _ rfl; (try obtain ⟨f0, f1, f2⟩ := f_); first | (go_simp; done) | (go_simp; rfl)); intro w82_ HSn; replace HS : Hid (St (SL.blk g21 108 #[.int .i64 pid, .int .i64 0, .bool false] :: ((SL.row k108 108 (.slice (some ad) ds.length c8) ds :: (SL.row kh81 81 (.slice A7 hs.length c7) hs :: (rowsL hs ++ (SL.row k103 103 (.slice Ao os.length co) os :: [SL.row (Kd.int .i64) 3 (.slice A9 ids.length c9) ids])))) ++ crewL gc bm A c ids ps2 [])) w w82_) := Go.Lib.hid HSn; clear HSn; clear c0_0 c0_1 c0_2; obtain ⟨c0_0, c0_1, c0_2⟩ := HS.out.c3 0 _ _ _ _ _ rfl))
                clear c0_0 c0_1 c0_2 x0 x1 x2
                replace HS := Go.Lib.hid HS.out.drew
                obtain ⟨z0, z1, z2⟩ := HS.out.c3 0 _ _ _ _ _ rfl
                refine start_ (n := 8) (S := fun w' => (w'.cell? ⟨g21, 0, none⟩ = some (.int .i64 pid) ∧ w'.cell? ⟨g21, 1, none⟩ = some (.int .i64 0) ∧ w'.cell? ⟨g21, 2, none⟩ = some (.bool false)) ∧ w'.cell? (ax.add (k * 4)) = some (.int .i64 pid)) (ds := []) #[false, false, false, false, false, false, false, false] (by kernel_rfl) rfl rfl ⟨⟨z0, z1, z2⟩, HS.out.old h0⟩ (fun hHeld => ?_)
                generalize w82_.drew = W_ at *
                refine pure_ (i := 1) (N := some 114) (v := ?_) (a' := ?_) #[false, true, false, false, false, false, false, false] rfl rfl (by kernel_rfl) (fun _ _ _ h => h) (Or.inl ⟨by rfl, ?_⟩) ?_ ?_
                rotate_left
                · intro w'
                  go_simp
                  with_reducible rfl
                rotate_left
                · simp only [Act.put, List.setIfInBounds_toArray, List.set_cons_zero, List.set_cons_succ, i64_w, i32_w]
                  rfl
                refine pure_ (i := 2) (N := some 115) (v := ?_) (a' := ?_) #[false, true, true, false, false, false, false, false] rfl rfl (by kernel_rfl) (fun _ _ _ h => h) (Or.inl ⟨by rfl, ?_⟩) ?_ ?_
                rotate_left
                · intro w'
                  go_simp
                  with_reducible rfl
                rotate_left
                · simp only [Act.put, List.setIfInBounds_toArray, List.set_cons_zero, List.set_cons_succ, i64_w, i32_w]
                  rfl
                refine pure_ (i := 3) (N := some 116) (v := ?_) (a' := ?_) #[false, true, true, true, false, false, false, false] rfl rfl (by kernel_rfl) (fun _ _ _ h => h) (Or.inl ⟨by rfl, ?_⟩) ?_ ?_
                rotate_left
                · intro w'
                  go_simp
                  with_reducible rfl
                rotate_left
                · simp only [Act.put, List.setIfInBounds_toArray, List.set_cons_zero, List.set_cons_succ, i64_w, i32_w]
                  rfl
                refine pure_ (i := 4) (N := some 117) (v := ?_) (a' := ?_) #[false, true, true, true, true, false, false, false] rfl rfl (by kernel_rfl) (fun _ _ _ h => h) (Or.inl ⟨by rfl, ?_⟩) ?_ ?_
                rotate_left
                · intro w'
                  go_simp
                  with_reducible rfl
                rotate_left
                · simp only [Act.put, List.setIfInBounds_toArray, List.set_cons_zero, List.set_cons_succ, i64_w, i32_w]
                  rfl
                refine take_ (i := 0) (N := some 113) (v := ?_) (a' := ?_) #[true, true, true, true, true, false, false, false] rfl rfl (by kernel_rfl) (fun _ _ _ h => h) (Or.inl ⟨by rfl, ?_⟩) hHeld ?_ ?_
                rotate_left
                · rintro w' ⟨⟨s0, s1, s2⟩, s3⟩
                  go_simp
                  with_reducible rfl
                rotate_left
                · simp only [Act.put, List.setIfInBounds_toArray, List.set_cons_zero, List.set_cons_succ, i64_w, i32_w]
                  rfl
                refine take_ (i := 5) (N := some 118) (v := ?_) (a' := ?_) #[true, true, true, true, true, true, false, false] rfl rfl (by kernel_rfl) (fun _ _ _ h => h) (Or.inl ⟨by rfl, ?_⟩) hHeld ?_ ?_
                rotate_left
                · rintro w' ⟨⟨s0, s1, s2⟩, s3⟩
                  go_simp
                  with_reducible rfl
                rotate_left
                · simp only [Act.put, List.setIfInBounds_toArray, List.set_cons_zero, List.set_cons_succ, i64_w, i32_w]
                  rfl
                refine pure_ (i := 6) (N := some 119) (v := ?_) (a' := ?_) #[true, true, true, true, true, true, true, false] rfl rfl (by kernel_rfl) (fun _ _ _ h => h) (Or.inl ⟨by rfl, ?_⟩) ?_ ?_
                rotate_left
                · intro w'
                  go_simp
                  with_reducible rfl
                rotate_left
                · simp only [Act.put, List.setIfInBounds_toArray, List.set_cons_zero, List.set_cons_succ, i64_w, i32_w]
                  rfl
                refine pure_ (i := 7) (N := some 120) (v := ?_) (a' := ?_) #[true, true, true, true, true, true, true, true] rfl rfl (by kernel_rfl) (fun _ _ _ h => h) (Or.inl ⟨by rfl, ?_⟩) ?_ ?_
                rotate_left
                · intro w'
                  go_simp
                  with_reducible rfl
                rotate_left
                · simp only [Act.put, List.setIfInBounds_toArray, List.set_cons_zero, List.set_cons_succ, i64_w, i32_w]
                  rfl
                refine done_ (by kernel_rfl) ?_
                go_wp2_with fail
                go_roundw
                case rel => exact ⟨k + 1, hlt, by go_num, HS.out.drop⟩
                case measure => simp [intOf]; omega
              · obtain rfl : k = ds.length := by omega
                go_wp2_with (first | (go_at_call 62; refine (crewShots_st HS.out HI2.out HN2.out HFF.out HWP.out (by omega)).mono ?_; rintro e w9 ⟨A6, c6, hs2, rfl, hse2, hS⟩; have HSE2 := Go.Lib.hid hse2; replace HS : Hid (St (SL.row kh81 81 (.slice A6 hs2.length c6) hs2 :: (rowsL hs2 ++ ((SL.row k108 108 (.slice A8 ds.length c8) ds :: (SL.row kh81 81 (.slice A7 hs.length c7) hs :: (rowsL hs ++ (SL.row k103 103 (.slice Ao os.length co) os :: [SL.row (Kd.int .i64) 3 (.slice A9 ids.length c9) ids])))) ++ crewL gc bm A c ids ps2 []))) w w9) := Go.Lib.hid hS; clear hS hse2) | (go_at_call 57; refine (same_st HS.out A6 c6 hs2 A7 c7 hs (shots_own _ rfl) (shots_mid A7 c7 hs HS.out) (by have h9 := congrArg List.length HSE2.out; rw [List.length_map, List.length_map] at h9; omega) (sem_len HSE2.out HF3.out) (HSE2.out.trans HSE.out.symm)).mono ?_; rintro e w10 ⟨rfl, hS⟩; replace HS := Go.Lib.hid hS; clear hS) | (go_at_call 55; refine (awake_st HS.out).mono ?_; rintro e wz ⟨rfl, hS⟩; replace HS := Go.Lib.hid hS; clear hS))
                go_ret
                exact ⟨rfl, HS.out.below⟩
end Go.Proofs.Ytkmhgolohppliaa.Crw
