/- Some of the ticks. -/
import Derived.Test.YtolokohgphdngaaStr8
namespace Go.Proofs.Ytolokohgphdngaa.Str
open Go.RowKit Go.Proofs.YtolokohgphdngaaW.PrintWords Go.Proofs.YtolokohgphdngaaW.PrintLast Go.Proofs.YtolokohgphdngaaW.PrintMore Go.Proofs.Ytolokohgphdngaa.Mine Go.Proofs.Ytolokohgphdngaa.PStripAdds
open Go.Proofs.Ytolokohgphdngaa.Sl (SL Stp Chg St No)
set_option linter.unusedVariables false
set_option linter.unusedSimpArgs false
attribute [local go_sem] max2_int min2_int max_two min_two max_three min_three max_four min_four
variable {l : List SL} {w0 w : World} {g : Nat} {rs : List S95}
def nextP (rs : List S95) (tt at_ : Int) : Int := min (endAt rs (idxR rs at_)) tt
def partF (rs : List S95) (tt : Int) : Nat → Int → List S95 → List S95
  | 0, _, out => out
  | n + 1, at_, out => if at_ < tt then partF rs tt n (nextP rs tt at_) (addR out (rd_T95 rs (idxR rs at_ : Int)).f0 (nextP rs tt at_ - at_)).1 else out
theorem next_gt (hk : Oks rs) {tt at_ : Int} (h0 : 0 ≤ at_) (h1 : at_ < tt) (h2 : tt ≤ total rs) : at_ < nextP rs tt at_ ∧ nextP rs tt at_ ≤ tt := by
  have hi := idx_lt hk (x := at_) (by omega) h0
  have := idx_hi hk at_ (idxR rs at_) (Nat.le_refl _) hi
  unfold nextP
  omega
theorem partF_fuel (hk : Oks rs) {tt : Int} (ht : tt ≤ total rs) : ∀ (f1 f2 : Nat) (at_ : Int) (out : List S95), 0 ≤ at_ → (tt - at_).toNat ≤ f1 → (tt - at_).toNat ≤ f2 → partF rs tt f1 at_ out = partF rs tt f2 at_ out
  | 0, 0, _, _, _, _, _ => rfl
  | 0, f2 + 1, at_, out, h0, h1, h2 => by
    unfold partF
    rw [if_neg (by omega)]
  | f1 + 1, 0, at_, out, h0, h1, h2 => by
    unfold partF
    rw [if_neg (by omega)]
  | f1 + 1, f2 + 1, at_, out, h0, h1, h2 => by
    unfold partF
    by_cases c : at_ < tt
    · rw [if_pos c, if_pos c]
      have := next_gt hk h0 c ht
      exact partF_fuel hk ht f1 f2 _ _ (by omega) (by omega) (by omega)
    · rw [if_neg c, if_neg c]
theorem partF_step (hk : Oks rs) {tt at_ : Int} (ht : tt ≤ total rs) (h0 : 0 ≤ at_) (h1 : at_ < tt) (out : List S95) : partF rs tt (tt - at_).toNat at_ out = partF rs tt (tt - nextP rs tt at_).toNat (nextP rs tt at_) (addR out (rd_T95 rs (idxR rs at_ : Int)).f0 (nextP rs tt at_ - at_)).1 := by
  have hn := next_gt hk h0 h1 ht
  obtain ⟨f, hf⟩ : ∃ f, (tt - at_).toNat = f + 1 := ⟨(tt - at_).toNat - 1, by omega⟩
  rw [hf]
  conv => lhs; unfold partF
  rw [if_pos h1]
  exact partF_fuel hk ht f _ _ _ (by omega) (by omega) (Nat.le_refl _)
def partR (rs : List S95) (a b : Int) : List S95 := partF rs (min b (total rs)) (min b (total rs) - max a 0).toNat (max a 0) []
variable {A B : Option Addr} {ad : Addr} {c d : Nat} {x : Int}
theorem end_at (h : St (SL.blk g 147 #[.slice A rs.length c, .slice (some ad) (ends rs).length d] :: SL.row k95 95 (.slice A rs.length c) rs :: SL.row (Kd.int .i64) 3 (.slice (some ad) (ends rs).length d) (ends rs) :: l) w0 w) (m : Nat) (hm : m < rs.length) : w.cell? (ad.add m) = some (.int .i64 (endAt rs m)) := by
  obtain ⟨_, _, hv, _, hC⟩ := h.rowC 2 rfl
  injection hv with q1 _ q3
  subst q1 q3
  have hel := ends_len rs
  obtain ⟨ad', he, g0⟩ := Kd.at_int hC (m : Int) (by omega) (by omega)
  injection he with he
  subst he
  rw [Int.toNat_natCast] at g0
  exact g0
set_option maxHeartbeats 6400000 in
set_option maxRecDepth 100000 in
theorem part_hd (h : St (stp g rs :: l) w0 w) (hk : Oks rs) (a b : Int) : Calls Try.prog 40 #[.pointer (some ⟨g, 0, none⟩), .int .i64 a, .int .i64 b] w fun e w' => ∃ g2, e = .returned (.pointer (some ⟨g2, 0, none⟩)) ∧ St (stp g2 (partR rs a b) :: stp g rs :: l) w0 w' := by
  obtain ⟨A, c, B, d, hS⟩ := open_stp h
  clear h
  have ht0 := hk.t0
  have ht1 := hk.top
  obtain ⟨fa, hfa⟩ : ∃ fa : Int, fa = max a 0 := ⟨_, rfl⟩
  obtain ⟨tb, htb⟩ : ∃ tb : Int, tb = min b (total rs) := ⟨_, rfl⟩
  have hpr : partR rs a b = partF rs tb (tb - fa).toNat fa [] := by unfold partR; rw [hfa, htb]
  have i1 : (if a < 0 then 0 else a) = fa := by rw [hfa]; split <;> omega
  have i2 : (if total rs < b then total rs else b) = tb := by rw [htb]; split <;> omega
  have hf0 : 0 ≤ fa := by omega
  have htt : tb ≤ total rs := by omega
  rw [hpr]
  obtain ⟨RR, hRR⟩ : ∃ z, z = partF rs tb (tb - fa).toNat fa [] := ⟨_, rfl⟩
  rw [← hRR]
  have HRR := Go.Lib.hid hRR
  have HS := Go.Lib.hid hS
  clear hS hRR hpr hfa htb
  go_enter Try.func40, Try.ntmps40
  go_wp2_with (first | (go_at_call 35; refine (new_st HS.out).mono ?_; rintro e w1 ⟨g2, rfl, HSn⟩; replace HS := Go.Lib.hid (((HSn.front 3 _ rfl).front 3 _ rfl).front 3 _ rfl); clear HSn) | (go_at_call 45; refine (len_raw HS.out hk).mono ?_; rintro e w2 ⟨rfl, hD⟩; replace HS := Go.Lib.hid (HS.out.drawn hD); clear hD))
  go_loopw [8] (fun i wr => ∃ (at_ : Int) (out : List S95), i = .int .i64 at_ ∧ 0 ≤ at_ ∧ Oks out ∧ partF rs tb (tb - at_).toNat at_ out = RR ∧ St (SL.blk g 147 #[.slice A rs.length c, .slice B (ends rs).length d] :: SL.row k95 95 (.slice A rs.length c) rs :: SL.row (Kd.int .i64) 3 (.slice B (ends rs).length d) (ends rs) :: stp g2 out :: l) w0 wr) (fun i _ => (tb - intOf i).toNat)
  case atStart => exact ⟨fa, [], rfl, hf0, ok_nil, HRR.out.symm, HS.out⟩
  case round =>
    clear HS HRR
    obtain ⟨at_, out, rfl, ha0, hko, hr, hS⟩ := hrel
    have HS := Go.Lib.hid hS
    have HR := Go.Lib.hid hr
    have HKO := Go.Lib.hid hko
    clear hS hr hko
    by_cases hlt : at_ < tb
    · have d0 : decide (at_ < tb) = true := by simpa using hlt
      have hst := partF_step hk htt ha0 hlt out
      have hng := next_gt hk ha0 hlt htt
      have hix := idx_lt hk (x := at_) (by omega) ha0
      have hr2 := HR.out
      rw [hst] at hr2
      have hen : (if tb < endAt rs (idxR rs at_) then tb else endAt rs (idxR rs at_)) = nextP rs tb at_ := by unfold nextP; split <;> omega
      obtain ⟨m, hm⟩ : ∃ m, idxR rs at_ = m := ⟨_, rfl⟩
      rw [hm] at hix hen hr2
      obtain ⟨_, _, hv, _, hC⟩ := HS.out.rowC 1 rfl
      injection hv with q1 _ q3
      subst q1 q3
      obtain ⟨ad, rfl, _⟩ := at_T95 hC (m : Int) (by omega) (by omega)
      obtain ⟨_, _, hv2, _, hC2⟩ := HS.out.rowC 2 rfl
      injection hv2 with q1 _ q3
      subst q1 q3
      have hel := ends_len rs
      obtain ⟨ad2, rfl, _⟩ := Kd.at_int hC2 (m : Int) (by omega) (by omega)
      have hok2 := addR_ok HKO.out (rd_T95 rs (m : Int)).f0 (nextP rs tb at_ - at_)
      generalize nextP rs tb at_ = nx at *
      have hx1 : m < (ends rs).length := by omega
      have HEN := Go.Lib.hid hen
      have HR2 := Go.Lib.hid hr2
      have HOK2 := Go.Lib.hid hok2
      clear hC hC2 hst hen hr2 hok2 hel HR
      go_wp2_with fail
      refine (row_to HS.out hk hm).mono ?_
      rintro e w5 ⟨rfl, HSn⟩
      replace HS := Go.Lib.hid HSn
      clear HSn
      obtain ⟨y0, y1⟩ := HS.out.c2 0 _ _ _ _ rfl
      have y2 := elem_at HS.out m hix
      have y3 := end_at HS.out m hix
      have p0 : (0 ≤ (m : Int)) = True := eq_true (by omega)
      have p1 : ((m : Int) < (rs.length : Int)) = True := eq_true (by omega)
      have p2 : ((m : Int) < ((ends rs).length : Int)) = True := eq_true (by omega)
      have hen := HEN.out
      go_wp2_with (go_at_call 37; refine (add_st HS.out 3 rfl HKO.out (rd_T95 rs (m : Int)).f0 (nx - at_)).mono ?_; rintro e w6 ⟨rfl, HSn⟩; replace HS := Go.Lib.hid HSn; clear HSn)
      go_roundw
      case rel => exact ⟨nx, _, rfl, by omega, HOK2.out, HR2.out, HS.out⟩
      case measure => simp [intOf]; omega
    · have d0 : decide (at_ < tb) = false := by simpa using hlt
      have hfin : out = RR := by
        have := HR.out
        rw [show (tb - at_).toNat = 0 by omega] at this
        exact this
      have HF := Go.Lib.hid hfin
      clear hfin
      go_wp2_with fail
      go_ret
      refine ⟨g2, rfl, ?_⟩
      rw [← HF.out]
      exact (shut_stp HS.out).swap
end Go.Proofs.Ytolokohgphdngaa.Str
