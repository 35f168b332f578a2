/- PlanWords: the walk. -/
import Derived.Test.YtnniejaknnpcjaaPlA
import Derived.Test.YtnniejaknnpcjaaPlW0
import Derived.Deep.QuietTactic
import Derived.BigQuiet
namespace Go.Proofs.Ytnniejaknnpcjaa.PlW
open Go.RowKit Go.Proofs.YtnniejaknnpcjaaW.PrintWords Go.Proofs.YtnniejaknnpcjaaW.PrintLast Go.Proofs.YtnniejaknnpcjaaW.PrintMore Go.Proofs.Ytnniejaknnpcjaa.Mine Go.Proofs.Ytnniejaknnpcjaa.PPlanWords
open Go.Proofs.Ytnniejaknnpcjaa.Sl (SL Stp Chg St No)
set_option linter.unusedVariables false
set_option linter.unusedSimpArgs false
attribute [local go_sem] max2_int min2_int max_two min_two max_three min_three max_four min_four
theorem fwd_ix {n i k : Nat} (hn : n ≤ 1000) (hi : i < n) (hk : k < n) : ((i : Int) + (k : Int)) % (n : Int) = (((i + k) % n : Nat) : Int) := by
  rw [show (i : Int) + (k : Int) = ((i + k : Nat) : Int) by omega]; omega
theorem free_step {w : List Int} {id : Int} {s k : Nat} (h : Free w id s k) (hn : w.getD ((s + k) % w.length) 0 ≠ id) : Free w id s (k + 1) := by
  intro j hj
  by_cases e : j < k
  · exact h j e
  · obtain rfl : j = k := by omega
    exact hn
set_option maxHeartbeats 6400000 in
set_option maxRecDepth 100000 in
theorem planWords_walk (w : World) (A : Option Addr) (n c : Nat) (xs : List Int) (hx : n ≤ c ∧ (Kd.int .i64).C w A n xs ∧ ∀ z ∈ xs, (Lit.int .i64 z).wf = true) (id : Int) (hid : (Lit.int .i64 id).wf = true) :
    Calls Try.prog 9 #[.slice A n c, .int .i64 id] w fun e w' => e = .returned (.bool true) ∧ Below w.heap.size w w' := by
  obtain ⟨hnc, hC, _⟩ := hx
  clear hid
  obtain rfl : xs.length = n := hC.1
  by_cases h200 : (200 : Int) < xs.length
  · have d0 : decide ((200 : Int) < (xs.length : Int)) = true := by simpa using h200
    clear h200 hC
    go_enter Try.func9, Try.ntmps9
    go_wp2_with (go_at_call 38; refine (awake_is _).mono ?_; rintro e w' ⟨rfl, hB⟩)
    go_ret
    exact ⟨rfl, hB⟩
  · have d0 : decide ((200 : Int) < (xs.length : Int)) = false := by simpa using h200
    have hlen : xs.length ≤ 200 := by omega
    have HC := Go.Lib.hid hC
    have HS := Go.Lib.hid (St.start w)
    clear h200 hC
    go_enter Try.func9, Try.ntmps9
    go_wp2_with fail
    clear d0
    go_loopw [5, 6, 15] (fun a b j wr => ∃ i far : Nat, i ≤ xs.length ∧ a = .int .i64 (swN xs i : Int) ∧ b = .int .i64 far ∧ j = .int .i64 i ∧ Far xs id i far ∧ far ≤ xs.length ∧ Drawn0 w wr) (fun _ _ j _ => xs.length - (intOf j).toNat)
    case atStart => exact ⟨0, 0, Nat.zero_le _, rfl, rfl, rfl, Far.zero xs id, Nat.zero_le _, Drawn0.refl _⟩
    case round =>
      clear HS
      obtain ⟨i, far, hi, rfl, rfl, rfl, hfar, hfl, hD⟩ := hrel
      have HD := Go.Lib.hid hD
      have HF := Go.Lib.hid hfar
      clear hD hfar
      by_cases hlt : i < xs.length
      · have hpos : 0 < xs.length := by omega
        obtain ⟨m, hm⟩ : ∃ m : Nat, m = (i + xs.length - 1) % xs.length := ⟨_, rfl⟩
        have hml : m < xs.length := by rw [hm]; exact Nat.mod_lt _ hpos
        obtain ⟨s1, hs1⟩ : ∃ s1 : Int, s1 = (i : Int) + (xs.length : Int) := ⟨_, rfl⟩
        have hs1b : 1 ≤ s1 ∧ s1 ≤ 400 := by omega
        have htm : Int.tmod (s1 - 1) (xs.length : Int) = (m : Int) := by rw [Int.tmod_eq_emod_of_nonneg (by omega), show s1 - 1 = ((i + xs.length - 1 : Nat) : Int) by omega, hm]; omega
        have hsw := swN_le xs i
        have hswn : swN xs (i + 1) = swN xs i + if xs.getD i 0 = xs.getD m 0 then 0 else 1 := by rw [hm]; rfl
        obtain ⟨ad, rfl, g0⟩ := Kd.at_int HC.out (i : Int) (by omega) (by omega)
        obtain ⟨_, q, g1⟩ := Kd.at_int HC.out (m : Int) (by omega) (by omega)
        injection q with q
        subst q
        rw [Int.toNat_natCast] at g0 g1
        have hr : ∀ j : Nat, rd xs (j : Int) = xs.getD j 0 := fun j => by unfold rd; rw [Int.toNat_natCast]
        rw [hr] at g0 g1
        have hg : ∀ {p : Addr} {v : Value}, w.cell? p = some v → wr.cell? p = some v := fun {p v} h => by obtain ⟨q_, hq_⟩ := HD.out.out; rw [hq_]; exact h
        replace g0 := hg g0
        replace g1 := hg g1
        generalize xs.getD i 0 = xi at *
        generalize xs.getD m 0 = xm at *
        have HSW := Go.Lib.hid hswn
        have HM := Go.Lib.hid hm
        have HHR := Go.Lib.hid (And.intro @hr hs1)
        clear hg hr hswn hm
        have e1 : IntKind.i64.wrap ((i : Int) + (xs.length : Int)) = s1 := by rw [IntWalk.i64_in _ (by omega), hs1]
        have e2 : IntKind.i64.wrap (s1 - 1) = s1 - 1 := IntWalk.i64_in _ (by omega)
        have e3 : (xs.length : Int) ≠ 0 := by omega
        have e4 : ((xs.length : Int) == 0) = false := by rw [beq_eq_false_iff_ne]; exact e3
        have hm0 : 0 ≤ (m : Int) := by omega
        have hm1 : (m : Int) < (xs.length : Int) := by omega
        clear hs1 HHR
        go_upto_region 7 with (fail)
        go_quiet (fail)
        have HD2 := Go.Lib.hid (HD.out.step nq)
        clear HD g0 g1 e1 e2 e3 e4 htm hm0 hm1 hs1b
        by_cases hne : xi = xm
        · have d1 : (xi != xm) = false := by rw [bne_eq_false_iff_eq]; exact hne
          have HSN : Hid (((swN xs (i + 1) : Nat) : Int) = (swN xs i : Int)) := Go.Lib.hid (by rw [HSW.out, if_pos hne]; rfl)
          clear hne
          go_wp2_with fail
          go_loopw [8] (fun b wi => ∃ q : Nat, q ≤ xs.length ∧ b = .int .i64 q ∧ Free xs id i q ∧ Drawn0 w wi) (fun b _ => xs.length - (intOf b).toNat)
          case atStart => exact ⟨0, Nat.zero_le _, rfl, fun j hj => by omega, HD2.out⟩
          case round =>
            clear HD2
            obtain ⟨q, hq, rfl, hfr, hD⟩ := hrel
            have HD := Go.Lib.hid hD
            have HFR := Go.Lib.hid hfr
            clear hD hfr
            by_cases hql : q < xs.length
            · obtain ⟨p, hp⟩ : ∃ p : Nat, p = (i + q) % xs.length := ⟨_, rfl⟩
              have hpl : p < xs.length := by rw [hp]; exact Nat.mod_lt _ hpos
              have hfw := fwd_ix (n := xs.length) (by omega) hlt hql
              rw [← hp] at hfw
              obtain ⟨_, qq, g1⟩ := Kd.at_int HC.out (p : Int) (by omega) (by omega)
              injection qq with qq
              subst qq
              rw [Int.toNat_natCast] at g1
              have hr : rd xs (p : Int) = xs.getD p 0 := by unfold rd; rw [Int.toNat_natCast]
              rw [hr] at g1
              have hg : wr.cell? (ad.add p) = some (.int .i64 (xs.getD p 0)) := by obtain ⟨q_, hq_⟩ := HD.out.out; rw [hq_]; exact g1
              obtain ⟨xp, hxp⟩ : ∃ xp, xp = xs.getD p 0 := ⟨_, rfl⟩
              rw [← hxp] at hg
              have HXP := Go.Lib.hid (hxp.trans (by rw [hp]) : xp = xs.getD ((i + q) % xs.length) 0)
              have HFW := Go.Lib.hid hfw
              have hp0 : 0 ≤ (p : Int) := by omega
              have hp1 : (p : Int) < (xs.length : Int) := by omega
              clear g1 hr hxp hp
              by_cases hc : xp = id
              · have dc : (xp != id) = false := by rw [bne_eq_false_iff_eq]; exact hc
                have HCI := Go.Lib.hid hc
                clear hc
                go_wp2_with fail
                go_roundw
                case rel => exact ⟨i + 1, max far q, hlt, by rw [HSN.out], by congr 1; split <;> omega, rfl, HF.out.step (by omega) HFR.out (.inr (by rw [← HXP.out]; exact HCI.out)), by omega, HD.out⟩
                case measure => simp [intOf]; omega
              · have dc : (xp != id) = true := by rw [bne_iff_ne]; exact hc
                have HCI := Go.Lib.hid hc
                clear hc
                go_wp2_with fail
                go_roundw
                case rel => exact ⟨q + 1, hql, rfl, free_step HFR.out (by rw [← HXP.out]; exact HCI.out), HD.out⟩
                case measure => simp [intOf]; omega
            · obtain rfl : q = xs.length := by omega
              clear hq
              go_wp2_with fail
              go_roundw
              case rel => exact ⟨i + 1, max far xs.length, hlt, by rw [HSN.out], by congr 1; split <;> omega, rfl, HF.out.step (Nat.le_refl _) HFR.out (.inl rfl), by omega, HD.out⟩
              case measure => simp [intOf]; omega
        · have d1 : (xi != xm) = true := by rw [bne_iff_ne]; exact hne
          have HSN : Hid (((swN xs (i + 1) : Nat) : Int) = (swN xs i : Int) + 1) := Go.Lib.hid (by rw [HSW.out, if_neg hne]; omega)
          clear hne
          go_wp2_with fail
          go_loopw [8] (fun b wi => ∃ q : Nat, q ≤ xs.length ∧ b = .int .i64 q ∧ Free xs id i q ∧ Drawn0 w wi) (fun b _ => xs.length - (intOf b).toNat)
          case atStart => exact ⟨0, Nat.zero_le _, rfl, fun j hj => by omega, HD2.out⟩
          case round =>
            clear HD2
            obtain ⟨q, hq, rfl, hfr, hD⟩ := hrel
            have HD := Go.Lib.hid hD
            have HFR := Go.Lib.hid hfr
            clear hD hfr
            by_cases hql : q < xs.length
            · obtain ⟨p, hp⟩ : ∃ p : Nat, p = (i + q) % xs.length := ⟨_, rfl⟩
              have hpl : p < xs.length := by rw [hp]; exact Nat.mod_lt _ hpos
              have hfw := fwd_ix (n := xs.length) (by omega) hlt hql
              rw [← hp] at hfw
              obtain ⟨_, qq, g1⟩ := Kd.at_int HC.out (p : Int) (by omega) (by omega)
              injection qq with qq
              subst qq
              rw [Int.toNat_natCast] at g1
              have hr : rd xs (p : Int) = xs.getD p 0 := by unfold rd; rw [Int.toNat_natCast]
              rw [hr] at g1
              have hg : wr.cell? (ad.add p) = some (.int .i64 (xs.getD p 0)) := by obtain ⟨q_, hq_⟩ := HD.out.out; rw [hq_]; exact g1
              obtain ⟨xp, hxp⟩ : ∃ xp, xp = xs.getD p 0 := ⟨_, rfl⟩
              rw [← hxp] at hg
              have HXP := Go.Lib.hid (hxp.trans (by rw [hp]) : xp = xs.getD ((i + q) % xs.length) 0)
              have HFW := Go.Lib.hid hfw
              have hp0 : 0 ≤ (p : Int) := by omega
              have hp1 : (p : Int) < (xs.length : Int) := by omega
              clear g1 hr hxp hp
              by_cases hc : xp = id
              · have dc : (xp != id) = false := by rw [bne_eq_false_iff_eq]; exact hc
                have HCI := Go.Lib.hid hc
                clear hc
                go_wp2_with fail
                go_roundw
                case rel => exact ⟨i + 1, max far q, hlt, by rw [HSN.out], by congr 1; split <;> omega, rfl, HF.out.step (by omega) HFR.out (.inr (by rw [← HXP.out]; exact HCI.out)), by omega, HD.out⟩
                case measure => simp [intOf]; omega
              · have dc : (xp != id) = true := by rw [bne_iff_ne]; exact hc
                have HCI := Go.Lib.hid hc
                clear hc
                go_wp2_with fail
                go_roundw
                case rel => exact ⟨q + 1, hql, rfl, free_step HFR.out (by rw [← HXP.out]; exact HCI.out), HD.out⟩
                case measure => simp [intOf]; omega
            · obtain rfl : q = xs.length := by omega
              clear hq
              go_wp2_with fail
              go_roundw
              case rel => exact ⟨i + 1, max far xs.length, hlt, by rw [HSN.out], by congr 1; split <;> omega, rfl, HF.out.step (Nat.le_refl _) HFR.out (.inl rfl), by omega, HD.out⟩
              case measure => simp [intOf]; omega
      · obtain rfl : i = xs.length := by omega
        have HFA := Go.Lib.hid HF.out
        obtain ⟨L, hL, hFar⟩ := spread_is (w := xs) (id := id) (by omega) (xs.length + 1) (Nat.le_refl _)
        obtain rfl : L = far := hFar.uniq HF.out
        have HL := Go.Lib.hid hL
        have hgl := gw_len xs xs.length
        obtain ⟨gs, hgs⟩ : ∃ gs, gs = gw xs xs.length := ⟨_, rfl⟩
        have HW1 := Go.Lib.hid (win_is (w := xs) (by omega) (xs.length + 1) (Nat.le_refl _))
        have HW2 := Go.Lib.hid (rwin_is (w := xs) (by omega) (2 * xs.length + 2) (Nat.le_refl _))
        have HSW := Go.Lib.hid (sw_is (w := xs) (by omega) (xs.length + 1) (Nat.le_refl _))
        rw [← hgs] at HW1 HW2 hgl
        have HSM := Go.Lib.hid (same_is gs (by omega) (xs.length + 1) (by omega))
        have HS := Go.Lib.hid ((St.start w).drawn HD.out)
        clear hL hFar hgs hi hlt HD HF HFA
        go_wp2_with fail
        refine (plan_Windows.calls _ A c xs gs _ (HS.out.C HC.out) hnc HW1.out).mono ?_
        rintro e w1 ⟨v1, rfl, hR, hB⟩
        have hS := HS.out.row hR hB
        obtain ⟨A1, c1, hv1, _⟩ := hS.rowC 0 rfl
        subst hv1
        replace HS := Go.Lib.hid hS
        clear hS hR hB
        go_wp2_with fail
        refine (countwheelref32_Windows.calls _ A c xs gs _ (HS.out.C HC.out) hnc HW2.out).mono ?_
        rintro e w2 ⟨v2, rfl, hR, hB⟩
        have hS := HS.out.row hR hB
        obtain ⟨A2, c2, hv2, _⟩ := hS.rowC 0 rfl
        subst hv2
        replace HS := Go.Lib.hid hS
        clear hS hR hB
        go_wp2_with fail
        obtain ⟨_, _, hv, hc1, hC1⟩ := HS.out.rowC 1 rfl
        injection hv with q1 _ q3
        subst q1 q3
        obtain ⟨_, _, hv, hc2, hC2⟩ := HS.out.rowC 0 rfl
        injection hv with q1 _ q3
        subst q1 q3
        refine (countwheelref13_SameWindows.calls _ A1 c1 gs A2 c2 gs true _ hC1 hc1 hC2 hc2 HSM.out).mono ?_
        rintro e w3 ⟨rfl, hD⟩
        replace HS := Go.Lib.hid (HS.out.drawn hD)
        clear hD hC1 hC2
        go_wp2_with fail
        refine (plan_Switches.calls _ A c xs _ _ (HS.out.C HC.out) hnc HSW.out).mono ?_
        rintro e w4 ⟨rfl, hD⟩
        replace HS := Go.Lib.hid (HS.out.drawn hD)
        clear hD
        go_wp2_with fail
        refine (plan_Spread.calls _ A c xs id _ _ (HS.out.C HC.out) hnc HL.out).mono ?_
        rintro e w5 ⟨rfl, hB⟩
        replace HS := Go.Lib.hid (HS.out.then_ hB)
        clear hB
        go_wp2_with fail
        refine (awake_is _).mono ?_
        rintro e w6 ⟨rfl, hB⟩
        replace HS := Go.Lib.hid (HS.out.then_ hB)
        clear hB
        go_wp2_with fail
        go_ret
        exact ⟨rfl, HS.out.below⟩
end Go.Proofs.Ytnniejaknnpcjaa.PlW
