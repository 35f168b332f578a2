/- The document reads signs. -/
import Derived.Test.YtolokohgphdngaaGnt0
import Derived.Test.YtolokohgphdngaaSle
namespace Go.Proofs.Ytolokohgphdngaa.Gnt
open Go.RowKit Go.Proofs.YtolokohgphdngaaW.PrintWords Go.Proofs.YtolokohgphdngaaW.PrintLast Go.Proofs.YtolokohgphdngaaW.PrintMore Go.Proofs.Ytolokohgphdngaa.Mine Go.Proofs.Ytolokohgphdngaa.PGanttReads
open Go.Proofs.Ytolokohgphdngaa.Sl (SL Stp Chg St No)
set_option linter.unusedVariables false
set_option linter.unusedSimpArgs false
attribute [local go_sem] max2_int min2_int max_two min_two max_three min_three max_four min_four
variable {l : List SL} {w0 w : World}
set_option maxHeartbeats 6400000 in
set_option maxRecDepth 100000 in
theorem ref_st (h : St l w0 w) (s : ByteArray) (hs : s.size ≤ 1000) : Calls Try.prog 52 #[.string s] w fun e w' => ∃ A c, e = .returned (.tuple #[.slice A (readL (bys s) []).1.length c, .bool (readL (bys s) []).2]) ∧ St (SL.row (Kd.int .i64) 3 (.slice A ((readL (bys s) []).1).length c) ((readL (bys s) []).1) :: l) w0 w' := by
  have HS := Go.Lib.hid h
  obtain ⟨RR, hRR⟩ : ∃ z, z = readL (bys s) [] := ⟨_, rfl⟩
  rw [← hRR]
  have HRR := Go.Lib.hid hRR
  clear h hRR
  go_enter Try.func52, Try.ntmps52
  go_wp2_with (first | ((with_reducible refine gate_dst (N := 8) rfl ?_); refine Sl.lit_st (Kd.int .i64) (flat_int .i64) HS.out 3 (by rfl) (xs := ([] : List Int)) (inner := []) ?hr ?hp ?hm ?_; (case hr => first | (go_simp; done) | (go_simp; rfl)); (case hp => first | exact Reps.none _ _ | skip); (case hm => first | decide | (simp; done)); intro v8_ w1_ HSn; replace HS : Hid (St (SL.row (Kd.int .i64) 3 v8_ [] :: l) w0 w1_) := Go.Lib.hid HSn; clear HSn))
  obtain ⟨A0, c0, hv0, _⟩ := HS.out.rowC 0 rfl
  have hv1 : v8_ = .slice A0 0 c0 := hv0
  clear hv0
  subst hv1
  go_loopw [4, 5] (fun a i wr => ∃ (k : Nat) (acc : List Int) (A : Option Addr) (c : Nat), k ≤ s.size ∧ a = .slice A acc.length c ∧ i = .int .i64 k ∧ acc.length = k ∧ readL ((bys s).drop k) acc = RR ∧ St (SL.row (Kd.int .i64) 3 (.slice A (acc).length c) (acc) :: l) w0 wr) (fun _ i _ => s.size - (intOf i).toNat)
  case atStart => exact ⟨0, [], A0, c0, Nat.zero_le _, rfl, rfl, rfl, HRR.out.symm, HS.out⟩
  case round =>
    clear HS HRR
    obtain ⟨k, acc, A, c, hk, rfl, rfl, hal, hr, hS⟩ := hrel
    subst hal
    have HS := Go.Lib.hid hS
    have HR := Go.Lib.hid hr
    clear hS hr
    by_cases hlt : acc.length < s.size
    · have hlt' : decide ((acc.length : Int) < (s.size : Int)) = true := by simp; omega
      obtain ⟨b, hb⟩ : ∃ b, b = (bys s)[acc.length]'(by rw [bys_len]; exact hlt) := ⟨_, rfl⟩
      have hb1 : b < 256 := by rw [hb]; exact bys_lt s _ (List.getElem_mem _)
      have hbt : ((s[acc.length]'hlt).toNat : Int) = (b : Int) := by
        have e4 : bt s (acc.length : Int) = (b : Int) := by rw [bt_bys s acc.length hlt, hb]
        rw [← bt_at s (acc.length : Int) (by simpa using hlt)] at e4
        simpa using e4
      have hr2 := HR.out
      rw [List.drop_eq_getElem_cons (by rw [bys_len]; exact hlt), ← hb] at hr2
      have HR2 := Go.Lib.hid hr2
      have hlk := look_is b hb1
      have HLK := Go.Lib.hid hlk
      clear hb hr2 hlk HR
      go_wp2_with fail
      go_loopw [6, 7] (fun a i wr => ∃ (m : Nat) (a' : Int), m ≤ 37 ∧ a = .int .i64 a' ∧ i = .int .i64 ((37 - m : Nat) : Int) ∧ -1 ≤ a' ∧ a' ≤ 36 ∧ look b m a' = look b 37 (-1) ∧ St (SL.row (Kd.int .i64) 3 (.slice A (acc).length c) (acc) :: l) w0 wr) (fun _ i _ => 37 - (intOf i).toNat)
      case atStart => exact ⟨37, -1, Nat.le_refl _, rfl, rfl, Int.le_refl _, by decide, rfl, HS.out⟩
      case round =>
        clear HS
        obtain ⟨m, a', hm, rfl, rfl, ha0, ha1, hl, hS⟩ := hrel
        have HS := Go.Lib.hid hS
        have HL := Go.Lib.hid hl
        clear hS hl
        cases m with
        | succ m' =>
          have hsub : ((37 - m' : Nat) : Int) = ((37 - (m' + 1) : Nat) : Int) + 1 := by omega
          have hlk2 : look b m' (if bt allB ((37 - (m' + 1) : Nat) : Int) = (b : Int) then ((37 - (m' + 1) : Nat) : Int) else a') = look b 37 (-1) := HL.out
          have hjl : 37 - (m' + 1) < 37 := by omega
          have hm2 : m' ≤ 37 := by omega
          have hmj : 37 - m' = 37 - (m' + 1) + 1 := by omega
          clear HL
          generalize 37 - (m' + 1) = j at *
          have hz : (allB.size : Int) = 37 := rfl
          have hjz : j < allB.size := hjl
          obtain ⟨y, hy⟩ : ∃ y : Nat, y = (allB[j]'hjz).toNat := ⟨_, rfl⟩
          have hyb : bt allB (j : Int) = (y : Int) := by rw [← bt_at allB (j : Int) (by simpa using hjz), hy]; simp
          have hyi : ((allB[j]'hjz).toNat : Int) = (y : Int) := by rw [hy]
          rw [hyb] at hlk2
          have HLK2 := Go.Lib.hid hlk2
          have HSUB := Go.Lib.hid hsub
          have HMJ := Go.Lib.hid hmj
          clear hlk2 hsub hy hyb hmj
          have p1 : decide ((j : Int) < 37) = true := by simp; omega
          have p2 : ((j : Int) < 37) = True := eq_true (by omega)
          have p3 : (0 ≤ (j : Int)) = True := eq_true (by omega)
          have p4 : (0 ≤ (acc.length : Int)) = True := eq_true (by omega)
          have p5 : ((acc.length : Int) < (s.size : Int)) = True := eq_true (by omega)
          go_wp2_with (go_at_call 69; refine (countwheelref36_all.calls allB _ rfl).mono ?_; rintro e w5 ⟨rfl, hD⟩; replace HS := Go.Lib.hid (HS.out.drawn hD); clear hD)
          replace HS := Go.Lib.hid HS.out.drew
          refine start_ (n := 7) (S := fun _ => True) (ds := []) #[false, false, false, false, false, false, false] (by kernel_rfl) rfl rfl trivial (fun hHeld => ?_)
          generalize w5.drew = W_ at *
          refine pure_ (i := 1) (N := some 22) (v := ?_) (a' := ?_) #[false, true, false, false, false, false, false] rfl rfl (by kernel_rfl) (fun _ _ _ h => h) (Or.inl ⟨by rfl, ?_⟩) ?_ ?_
          rotate_left
          · intro w'
            go_simp
            with_reducible rfl
          rotate_left
          · simp only [Act.put, List.setIfInBounds_toArray, List.set_cons_zero, List.set_cons_succ, i64_w, i32_w]
            rfl
          refine pure_ (i := 3) (N := some 24) (v := ?_) (a' := ?_) #[false, true, false, true, false, false, false] rfl rfl (by kernel_rfl) (fun _ _ _ h => h) (Or.inl ⟨by rfl, ?_⟩) ?_ ?_
          rotate_left
          · intro w'
            go_simp
            with_reducible rfl
          rotate_left
          · simp only [Act.put, List.setIfInBounds_toArray, List.set_cons_zero, List.set_cons_succ, i64_w, i32_w]
            rfl
          refine pure_ (i := 4) (N := some 25) (v := ?_) (a' := ?_) #[false, true, false, true, true, false, false] rfl rfl (by kernel_rfl) (fun _ _ _ h => h) (Or.inl ⟨by rfl, ?_⟩) ?_ ?_
          rotate_left
          · intro w'
            go_simp
            with_reducible rfl
          rotate_left
          · simp only [Act.put, List.setIfInBounds_toArray, List.set_cons_zero, List.set_cons_succ, i64_w, i32_w]
            rfl
          refine pure_ (i := 5) (N := some 26) (v := ?_) (a' := ?_) #[false, true, false, true, true, true, false] rfl rfl (by kernel_rfl) (fun _ _ _ h => h) (Or.inl ⟨by rfl, ?_⟩) ?_ ?_
          rotate_left
          · intro w'
            go_simp
            with_reducible rfl
          rotate_left
          · simp only [Act.put, List.setIfInBounds_toArray, List.set_cons_zero, List.set_cons_succ, i64_w, i32_w]
            rfl
          refine one_ (i := 0) (N := some 21) #[true, true, false, true, true, true, false] rfl rfl (by kernel_rfl) (by decide) (fun K hK => ?_)
          refine goes_ Try.func69 (by kernel_rfl) rfl #[] (by rfl) rfl rfl (by (try simp only [List.map_toArray, List.map_cons, List.map_nil]); first | done | rfl) ?_
          refine (countwheelref36_all.calls allB _ rfl).mono ?_
          rintro e w91 ⟨rfl, hD⟩
          have HS91 := Go.Lib.hid (HS.out.drawn hD)
          clear hD
          refine ⟨_, rfl, ?_⟩
          refine hK.out _ _ trivial (fun hHeld => ?_)
          clear hK K
          refine norm_ (a' := ?_) ?_ ?_
          rotate_left
          · show Act.put _ (some 21) _ = _
            simp only [Act.put, List.setIfInBounds_toArray, List.set_cons_zero, List.set_cons_succ, i64_w, i32_w]
            rfl
          refine pure_ (i := 2) (N := some 23) (v := ?_) (a' := ?_) #[true, true, true, true, true, true, false] rfl rfl (by kernel_rfl) (fun _ _ _ h => h) (Or.inl ⟨by rfl, ?_⟩) ?_ ?_
          rotate_left
          · intro w'
            go_simp
            with_reducible rfl
          rotate_left
          · simp only [Act.put, List.setIfInBounds_toArray, List.set_cons_zero, List.set_cons_succ, i64_w, i32_w]
            rfl
          refine pure_ (i := 6) (N := some 27) (v := ?_) (a' := ?_) #[true, true, true, true, true, true, true] rfl rfl (by kernel_rfl) (fun _ _ _ h => h) (Or.inl ⟨by rfl, ?_⟩) ?_ ?_
          rotate_left
          · intro w'
            go_simp
            with_reducible rfl
          rotate_left
          · simp only [Act.put, List.setIfInBounds_toArray, List.set_cons_zero, List.set_cons_succ, i64_w, i32_w]
            rfl
          refine done_ (by kernel_rfl) ?_
          replace HS := HS91
          clear HS91
          by_cases hyb : y = b
          · have q1 : ((y : Int) == (b : Int)) = true := by rw [beq_iff_eq]; omega
            rw [if_pos (by omega)] at HLK2
            go_wp2_with fail
            go_roundw
            case rel => exact ⟨m', (j : Int), hm2, rfl, by rw [HSUB.out], by omega, by omega, HLK2.out, HS.out⟩
            case measure => simp [intOf]; omega
          · have q1 : ((y : Int) == (b : Int)) = false := by rw [beq_eq_false_iff_ne]; omega
            rw [if_neg (by omega)] at HLK2
            go_wp2_with fail
            go_roundw
            case rel => exact ⟨m', a', hm2, rfl, by rw [HSUB.out], ha0, ha1, HLK2.out, HS.out⟩
            case measure => simp [intOf]; omega
        | zero =>
          have hz : (allB.size : Int) = 37 := rfl
          have ha' : a' = look b 37 (-1) := HL.out
          rw [HLK.out] at ha'
          clear HL
          cases ho : idOf b with
          | none =>
            rw [ho] at ha'
            simp only at ha'
            subst ha'
            have hrr : RR = ([], false) := by
              have := HR2.out
              unfold readL at this
              rw [ho] at this
              exact this.symm
            have HRR := Go.Lib.hid hrr
            clear hrr
            go_wp2_with (go_at_call 69; refine (countwheelref36_all.calls allB _ rfl).mono ?_; rintro e w5 ⟨rfl, hD⟩; replace HS := Go.Lib.hid (HS.out.drawn hD); clear hD)
            go_ret2
            refine ⟨none, 0, by rw [HRR.out]; rfl, ?_⟩
            rw [HRR.out]
            exact (HS.out.drop).nilrow (Kd.int .i64) 3
          | some v =>
            rw [ho] at ha'
            simp only at ha'
            have hv := idOf_range ho
            have hneg : decide (a' < 0) = false := by simp; omega
            have hbd : (acc.length + 1) * 8 ≤ 140737488355328 := by omega
            have hk1 : acc.length + 1 ≤ s.size := hlt
            have hw : a' - 1 = v := by omega
            have hr3 : readL ((bys s).drop (acc.length + 1)) (acc ++ [v]) = RR := by
              have := HR2.out
              unfold readL at this
              rw [ho] at this
              exact this
            have HR3 := Go.Lib.hid hr3
            have HW := Go.Lib.hid hw
            clear hr3 ha' ho HLK hw
            go_wp2_with (first | (go_at_call 69; refine (countwheelref36_all.calls allB _ rfl).mono ?_; rintro e w5 ⟨rfl, hD⟩; replace HS := Go.Lib.hid (HS.out.drawn hD); clear hD) | ((with_reducible refine gate_dst (N := 35) rfl ?_); refine Sl.append_st (Kd.int .i64) (flat_int .i64) HS.out 0 ((.slice A acc.length c)) (acc) 3 rfl (by rfl) (.tmp 31) (.tmp 34) 108 (.int .i64 0) 8 rfl Try.underlying108 (by kernel_rfl) rfl (by decide) (by decide) ((a' - 1)) [.int .i64 (a' - 1)] rfl rfl ?hp ?hb ?_; (case hp => first | rfl | exact k3_mk _ _); (case hb => exact hbd); intro v1_ w21_ HSn; obtain ⟨A9_, c9_, hv2_, _⟩ := HSn.rowC 0 rfl; subst hv2_; replace HS : Hid (St (SL.row (Kd.int .i64) 3 (.slice A9_ (acc ++ [(a' - 1)]).length c9_) (acc ++ [(a' - 1)]) :: l) w0 w21_) := Go.Lib.hid HSn; clear HSn))
            go_roundw
            case rel =>
              have hw := HW.out
              refine ⟨acc.length + 1, acc ++ [a' - 1], A9_, c9_, hk1, by first | rfl | simp, by first | rfl | simp, by simp, ?_, HS.out⟩
              rw [hw]
              exact HR3.out
            case measure => simp [intOf]; omega
    · have hks : acc.length = s.size := by omega
      have hrr : RR = (acc, true) := by
        have := HR.out
        rw [List.drop_of_length_le (by rw [bys_len]; omega)] at this
        exact this.symm
      have HRR := Go.Lib.hid hrr
      clear hrr HR
      go_wp2_with fail
      go_ret2
      refine ⟨A, c, by rw [HRR.out]; rfl, ?_⟩
      rw [HRR.out]
      exact HS.out
end Go.Proofs.Ytolokohgphdngaa.Gnt
