/- Rows repeated: the walk. -/
import Derived.Test.YtolokohgphdngaaStrB
namespace Go.Proofs.Ytolokohgphdngaa.Str
open Go.RowKit Go.Proofs.YtolokohgphdngaaW.PrintWords Go.Proofs.YtolokohgphdngaaW.PrintLast Go.Proofs.YtolokohgphdngaaW.PrintMore Go.Proofs.Ytolokohgphdngaa.Mine Go.Proofs.Ytolokohgphdngaa.PStripAdds
open Go.Proofs.Ytolokohgphdngaa.Sl (SL Stp Chg St No)
set_option linter.unusedVariables false
set_option linter.unusedSimpArgs false
attribute [local go_sem] max2_int min2_int max_two min_two max_three min_three max_four min_four
variable {l : List SL} {w0 w : World} {g : Nat} {rs : List S95}
open Win (cels cels_size make_ints infoInt cels_get)
theorem rep_step (v : Int) {m n k : Nat} (h : m + k ≤ n) (hk : k ≤ m) : (List.replicate m v ++ List.replicate (n - m) 0).take m ++ List.replicate k v ++ (List.replicate m v ++ List.replicate (n - m) (0 : Int)).drop (m + (List.replicate k v).length) = List.replicate (m + k) v ++ List.replicate (n - (m + k)) 0 := by
  rw [List.take_left' (by simp), List.length_replicate, List.drop_append, List.drop_eq_nil_of_le (by simp), List.length_replicate, List.nil_append, List.drop_replicate, List.replicate_append_replicate]
  congr 2
  omega
set_option maxHeartbeats 3200000 in
set_option maxRecDepth 100000 in
theorem repeat_st (h : St l w0 w) (q : Nat) {A : Option Addr} {v : Int} {c : Nat} (hq : l[q]? = some (SL.row (Kd.int .i64) 3 (.slice A 1 c) [v])) (n : Nat) (h0 : 1 ≤ n) (h1 : n ≤ 1000000) : Calls Try.prog 65 #[.slice A 1 c, .int .i64 (n : Int)] w fun e w' => ∃ b, e = .returned (.slice (some ⟨b, 0, none⟩) n n) ∧ St (SL.blk b 3 (cels (List.replicate n v)) :: l) w0 w' := by
  have HS := Go.Lib.hid h
  have HQ := Go.Lib.hid hq
  have hmul := mul_is (n : Int) (by omega) (by omega)
  clear h hq
  go_enter Try.func65, Try.ntmps65
  have d0 : decide ((n : Int) < 0) = false := by simp
  have d1 : decide ((9223372036854775807 : Int) < (n : Int)) = false := by simp; omega
  have wq : wrap64 (n : Int) = n := by unfold wrap64; omega
  have nn : ((n : Int)).toNat = n := Int.toNat_natCast n
  go_upto_region 7 with (first | (go_at_call 78; refine (bits_Mul.calls 1 (n : Int) 0 (n : Int) w hmul).mono ?_; rintro e w1 ⟨rfl, hD⟩; replace HS := Go.Lib.hid (HS.out.drawn hD); clear hD hmul) | ((with_reducible refine gate_dst (N := 30) rfl ?_); refine make_ints HS.out (by rfl) 108 3 _ _ rfl (n : Int) (by rfl) (by rfl) Try.underlying108 (by kernel_rfl) (by omega) (by omega) ?_; intro b w2 HSn _; rw [Int.toNat_natCast] at HSn ⊢; replace HS := Go.Lib.hid HSn; clear HSn))
  obtain ⟨A2, c2, hv, _, hC⟩ := HS.out.rowC (q + 1) (by simpa using HQ.out)
  injection hv with q1 q2 q3
  subst q1 q3
  clear q2
  obtain ⟨ad, rfl, g0⟩ := Kd.at_int hC (0 : Int) (by omega) (by simp)
  replace g0 : w2.cell? (ad.add 0) = some (.int .i64 v) := g0
  have hc0 : cels ((List.replicate n (0 : Int)).take 0 ++ [v] ++ (List.replicate n 0).drop (0 + [v].length)) = cels (List.replicate 1 v ++ List.replicate (n - 1) 0) := by simp
  have HC0 := Go.Lib.hid hc0
  clear hC hc0 HQ
  go_wp2_with ((with_reducible refine gate_dst (N := 33) rfl ?_); refine copy_st HS.out 0 b rfl 0 [v] (by rfl) (.tmp 31) (.tmp 32) 108 108 3 rfl Try.underlying108 (by kernel_rfl) (some ⟨b, 0, none⟩) (some ad) n n 1 c (by rfl) (by rfl) ?hl ?hn ?hp ?_; (case hl => rw [List.length_replicate]; exact h0); (case hn => show 1 = min 1 n; omega); (case hp => exact fun _ => ⟨rfl, ad, rfl, fun j hj => by obtain rfl : j = 0 := (by simp at hj; omega); exact g0⟩); intro w3 HSn; rw [HC0.out] at HSn; replace HS := Go.Lib.hid HSn; clear HSn g0 HC0)
  go_loopw [8] (fun i wr => ∃ m : Nat, 1 ≤ m ∧ m ≤ n ∧ i = .int .i64 m ∧ St (SL.blk b 3 (cels (List.replicate m v ++ List.replicate (n - m) 0)) :: l) w0 wr) (fun i _ => n - (intOf i).toNat)
  case atStart => exact ⟨1, Nat.le_refl _, h0, rfl, HS.out⟩
  case round =>
    clear HS
    obtain ⟨m, hm0, hmn, rfl, hS⟩ := hrel
    have HS := Go.Lib.hid hS
    clear hS
    by_cases hlt : m < n
    · have d2 : decide ((m : Int) < (n : Int)) = true := by simpa using hlt
      go_upto_region 9 with fail
      obtain ⟨k, hkd⟩ : ∃ k, k = min m (n - m) := ⟨_, rfl⟩
      have hk1 : m + k ≤ n := by omega
      have hk2 : k ≤ m := by omega
      have hk0 : 0 < k := by omega
      replace HS := Go.Lib.hid HS.out.drew
      have hl : (List.replicate k v).length = k := List.length_replicate
      have hb1 : m + (List.replicate k v).length ≤ (List.replicate m v ++ List.replicate (n - m) (0 : Int)).length := by rw [hl, List.length_append, List.length_replicate, List.length_replicate]; omega
      have hb2 : (List.replicate k v).length = Nat.min m (n - m) := by rw [hl]; exact hkd
      have hb3 : ∀ j, j < (List.replicate k v).length → wr.drew.cell? ((⟨b, 0, none⟩ : Addr).add j) = some (.int .i64 ((List.replicate k v).getD j 0)) := by
        intro j hj
        rw [hl] at hj
        have := HS.out.cell 0 _ _ _ rfl j
        rw [cels_get _ j (by simp; omega)] at this
        have e1 : (List.replicate m v ++ List.replicate (n - m) (0 : Int)).getD j 0 = (List.replicate k v).getD j 0 := by
          rw [List.getD_eq_getElem?_getD, List.getD_eq_getElem?_getD, List.getElem?_append_left (by simp; omega)]
          simp [show j < m by omega, hj]
        rw [e1] at this
        by_cases hj0 : j = 0
        · subst hj0; simpa [Addr.add] using this
        · simpa [Addr.add, hj0] using this
      have hnm : ¬ n = m := by omega
      have hrs := rep_step v hk1 hk2
      have HB1 := Go.Lib.hid hb1
      have HB2 := Go.Lib.hid hb2
      have HB3 := Go.Lib.hid hb3
      have HRS := Go.Lib.hid hrs
      have HLK := Go.Lib.hid hl
      clear hb1 hb2 hb3 hrs hl hkd
      refine start_ (n := 10) (S := fun _ => True) (ds := []) #[false, false, false, false, false, false, false, false, false, false] (by kernel_rfl) rfl rfl trivial (fun hHeld => ?_)
      generalize wr.drew = W_ at *
      refine pure_ (i := 0) (N := some 38) (v := ?_) (a' := ?_) #[true, false, false, false, false, false, false, false, false, false] rfl rfl (by kernel_rfl) (fun _ _ _ h => h) (Or.inl ⟨by rfl, ?_⟩) ?_ ?_
      rotate_left
      · intro w'
        go_simp
        with_reducible rfl
      rotate_left
      · simp only [Act.put, List.setIfInBounds_toArray, List.set_cons_zero, List.set_cons_succ, i64_w, i32_w]
        rfl
      refine pure_ (i := 1) (N := some 39) (v := ?_) (a' := ?_) #[true, true, false, false, false, false, false, false, false, false] rfl rfl (by kernel_rfl) (fun _ _ _ h => h) (Or.inl ⟨by rfl, ?_⟩) ?_ ?_
      rotate_left
      · intro w'
        go_simp
        with_reducible rfl
      rotate_left
      · simp only [Act.put, List.setIfInBounds_toArray, List.set_cons_zero, List.set_cons_succ, i64_w, i32_w]
        rfl
      refine pure_ (i := 2) (N := some 40) (v := ?_) (a' := ?_) #[true, true, true, false, false, false, false, false, false, false] rfl rfl (by kernel_rfl) (fun _ _ _ h => h) (Or.inl ⟨by rfl, ?_⟩) ?_ ?_
      rotate_left
      · intro w'
        go_simp
        with_reducible rfl
      rotate_left
      · simp only [Act.put, List.setIfInBounds_toArray, List.set_cons_zero, List.set_cons_succ, i64_w, i32_w]
        rfl
      refine pure_ (i := 3) (N := some 41) (v := ?_) (a' := ?_) #[true, true, true, true, false, false, false, false, false, false] rfl rfl (by kernel_rfl) (fun _ _ _ h => h) (Or.inl ⟨by rfl, ?_⟩) ?_ ?_
      rotate_left
      · intro w'
        go_simp
        with_reducible rfl
      rotate_left
      · simp only [Act.put, List.setIfInBounds_toArray, List.set_cons_zero, List.set_cons_succ, i64_w, i32_w]
        rfl
      refine pure_ (i := 4) (N := some 42) (v := ?_) (a' := ?_) #[true, true, true, true, true, false, false, false, false, false] rfl rfl (by kernel_rfl) (fun _ _ _ h => h) (Or.inl ⟨by rfl, ?_⟩) ?_ ?_
      rotate_left
      · intro w'
        go_simp
        with_reducible rfl
      rotate_left
      · simp only [Act.put, List.setIfInBounds_toArray, List.set_cons_zero, List.set_cons_succ, i64_w, i32_w]
        rfl
      refine pure_ (i := 5) (N := some 43) (v := ?_) (a' := ?_) #[true, true, true, true, true, true, false, false, false, false] rfl rfl (by kernel_rfl) (fun _ _ _ h => h) (Or.inl ⟨by rfl, ?_⟩) ?_ ?_
      rotate_left
      · intro w'
        go_simp
        with_reducible rfl
      rotate_left
      · simp only [Act.put, List.setIfInBounds_toArray, List.set_cons_zero, List.set_cons_succ, i64_w, i32_w]
        rfl
      refine pure_ (i := 6) (N := some 44) (v := ?_) (a' := ?_) #[true, true, true, true, true, true, true, false, false, false] rfl rfl (by kernel_rfl) (fun _ _ _ h => h) (Or.inl ⟨by rfl, ?_⟩) ?_ ?_
      rotate_left
      · intro w'
        go_simp
        with_reducible rfl
      rotate_left
      · simp only [Act.put, List.setIfInBounds_toArray, List.set_cons_zero, List.set_cons_succ, i64_w, i32_w]
        rfl
      refine one_ (i := 7) (N := some 45) #[true, true, true, true, true, true, true, true, false, false] rfl rfl (by kernel_rfl) (by decide) (fun K hK => ?_)
      refine copy_stp HS.out 0 b rfl m (List.replicate k v) (by rfl) (.tmp 41) (.tmp 44) 108 108 3 rfl Try.underlying108 (by kernel_rfl) (some ⟨b, m, none⟩) (some ⟨b, 0, none⟩) (n - m) (n - m) m n (by rfl) (by rfl) HB1.out HB2.out (fun _ => ⟨rfl, _, rfl, HB3.out⟩) ?_
      intro w92 HSn
      refine hK.out _ _ trivial (fun hHeld => ?_)
      clear hK K
      refine norm_ (a' := ?_) ?_ ?_
      rotate_left
      · show Act.put _ (some 45) _ = _
        simp only [Act.put, List.setIfInBounds_toArray, List.set_cons_zero, List.set_cons_succ, i64_w, i32_w]
        rfl
      refine pure_ (i := 8) (N := some 46) (v := ?_) (a' := ?_) #[true, true, true, true, true, true, true, true, true, false] rfl rfl (by kernel_rfl) (fun _ _ _ h => h) (Or.inl ⟨by rfl, ?_⟩) ?_ ?_
      rotate_left
      · intro w'
        go_simp
        with_reducible rfl
      rotate_left
      · simp only [Act.put, List.setIfInBounds_toArray, List.set_cons_zero, List.set_cons_succ, i64_w, i32_w]
        rfl
      refine pure_ (i := 9) (N := some 8) (v := ?_) (a' := ?_) #[true, true, true, true, true, true, true, true, true, true] rfl rfl (by kernel_rfl) (fun _ _ _ h => h) (Or.inl ⟨by rfl, ?_⟩) ?_ ?_
      rotate_left
      · intro w'
        go_simp
        with_reducible rfl
      rotate_left
      · simp only [Act.put, List.setIfInBounds_toArray, List.set_cons_zero, List.set_cons_succ, i64_w, i32_w]
        rfl
      refine done_ (by kernel_rfl) ?_
      rw [HRS.out] at HSn
      replace HS := Go.Lib.hid HSn
      have hlk := HLK.out
      clear HSn HRS HB1 HB2 HB3
      rw [hlk]
      have hwm : wrap64 ((m : Int) + (k : Int)) = ((m + k : Nat) : Int) := by unfold wrap64; omega
      rw [hwm]
      clear hwm
      go_wp2_with fail
      go_roundw
      case rel => exact ⟨m + k, by omega, hk1, by rfl, HS.out⟩
      case measure => simp [intOf]; omega
    · have hmn2 : m = n := by omega
      subst hmn2
      have hfin : cels (List.replicate m v ++ List.replicate (m - m) 0) = cels (List.replicate m v) := by simp
      have HF := Go.Lib.hid hfin
      clear hfin
      go_wp2_with fail
      go_ret
      exact ⟨b, rfl, by rw [← HF.out]; exact HS.out⟩
end Go.Proofs.Ytolokohgphdngaa.Str
