/- The rows; the strip of owners. -/
import Derived.Test.YtolokohgphdngaaStr5
namespace Go.Proofs.Ytolokohgphdngaa.Str
open Go.RowKit Go.Proofs.YtolokohgphdngaaW.PrintWords Go.Proofs.YtolokohgphdngaaW.PrintLast Go.Proofs.YtolokohgphdngaaW.PrintMore Go.Proofs.Ytolokohgphdngaa.Mine Go.Proofs.Ytolokohgphdngaa.PStripAdds
open Go.Proofs.Ytolokohgphdngaa.Sl (SL Stp Chg St No)
set_option linter.unusedVariables false
set_option linter.unusedSimpArgs false
attribute [local go_sem] max2_int min2_int max_two min_two max_three min_three max_four min_four
variable {l : List SL} {w0 w : World} {g : Nat} {rs : List S95}
set_option maxHeartbeats 400000 in
theorem clone64_calls (A : Option Addr) (n c : Nat) (xs : List S95) (w : World) (hC : (k95).C w A n xs) (hn : n * 16 ≤ 140737488355328) :
    Calls Try.prog 64 #[.slice A n c] w fun e w' => ∃ v, e = .returned v ∧ (k95).R 95 w' w.heap.size (fun _ => True) v xs ∧ Below w.heap.size w w' := by
  rcases A with _ | ad
  · have h0 : n = 0 := by
      rcases Nat.eq_zero_or_pos n with h0 | h0
      · exact h0
      · obtain ⟨_, h, _⟩ := hC.2.2 h0; cases h
    subst h0
    obtain rfl : xs = [] := List.eq_nil_of_length_eq_zero hC.1
    have hq := Go.Lib.run_eql_slice_nil (P := Try.prog) w 90 95 none 0 c 0 0 Try.underlying90
    go_enter Try.func64, Try.ntmps64
    go_wp2_with fail
    go_ret
    exact ⟨_, rfl, Kd.R_nil _ _ _ _ _, Below.refl _ _⟩
  · have HC := Go.Lib.hid hC
    clear hC
    have hq := Go.Lib.run_eql_slice_nil (P := Try.prog) w 90 95 (some ad) n c 0 0 Try.underlying90
    go_enter Try.func64, Try.ntmps64
    go_wp2_with (first | (at_builtin; refine append_clone (d := k95) (flat_iso (flat_pair (flat_int .i64) (flat_int .i64))) w rfl _ _ 90 95 (.agg #[.int .i64 0, .int .i64 0]) 16 rfl Try.underlying90 (by kernel_rfl) rfl (by decide) (by decide) xs ad n c rfl rfl HC.out hn ?_; intro v1 w1 hR1 hB1; have HR1 := Go.Lib.hid hR1; have HB1 := Go.Lib.hid hB1; clear hR1 hB1))
    go_ret
    exact ⟨_, rfl, HR1.out, HB1.out⟩
theorem clone64_st (h : St l w0 w) (A : Option Addr) (n c : Nat) (xs : List S95) (hC : k95.C w A n xs) (hn : n * 16 ≤ 140737488355328) : Calls Try.prog 64 #[.slice A n c] w fun e w' => ∃ A' c', e = .returned (.slice A' xs.length c') ∧ St (SL.row k95 95 (.slice A' xs.length c') xs :: l) w0 w' := by
  refine (clone64_calls A n c xs w hC hn).mono ?_
  rintro e w' ⟨v, rfl, hR, hB⟩
  have hS := h.row hR hB
  obtain ⟨A', c', hv, _⟩ := hS.rowC 0 rfl
  subst hv
  exact ⟨A', c', rfl, hS⟩
set_option maxHeartbeats 1600000 in
set_option maxRecDepth 100000 in
theorem rows_st (h : St l w0 w) (k : Nat) (e : l[k]? = some (stp g rs)) (hk : Oks rs) : Calls Try.prog 42 #[.pointer (some ⟨g, 0, none⟩)] w fun e w' => ∃ A c, e = .returned (.slice A rs.length c) ∧ St (SL.row k95 95 (.slice A rs.length c) rs :: l) w0 w' := by
  obtain ⟨A, c, B, d, hS⟩ := open_stp (h.front k _ e)
  have hlen := hk.len
  obtain ⟨c0, _⟩ := hS.c2 0 _ _ _ _ rfl
  obtain ⟨_, _, hv, _, hC⟩ := hS.rowC 1 rfl
  injection hv with q1 _ q3
  subst q1 q3
  have HC := Go.Lib.hid hC
  have HS := Go.Lib.hid h
  clear hS hC h
  go_enter Try.func42, Try.ntmps42
  go_wp2_with (go_at_call 64; refine (clone64_st HS.out A rs.length c rs HC.out (by omega)).mono ?_; rintro e w1 ⟨A', c', rfl, HSn⟩; replace HS := Go.Lib.hid HSn; clear HSn)
  go_ret
  exact ⟨_, _, rfl, HS.out⟩
/-- The strip of owners. -/
def ofR (xs : List Int) : List S95 := xs.foldl (fun rs id => (addR rs id 1).1) []
theorem ofR_snoc (xs : List Int) (x : Int) : ofR (xs ++ [x]) = (addR (ofR xs) x 1).1 := by unfold ofR; simp
theorem ok_nil : Oks [] := ⟨fun _ h => absurd h (by simp), by decide⟩
theorem ofR_ok (xs : List Int) : Oks (ofR xs) := by
  unfold ofR
  have : ∀ (xs : List Int) (rs : List S95), Oks rs → Oks (xs.foldl (fun rs id => (addR rs id 1).1) rs) := by
    intro xs
    induction xs with
    | nil => intro rs h; exact h
    | cons x xs ih => intro rs h; exact ih _ (addR_ok h x 1)
  exact this xs [] ok_nil
theorem take_succ_int (xs : List Int) (k : Nat) (h : k < xs.length) : xs.take (k + 1) = xs.take k ++ [rd xs (k : Int)] := by
  rw [List.take_succ_eq_append_getElem h]
  unfold rd
  rw [Int.toNat_natCast, List.getD_eq_getElem?_getD, List.getElem?_eq_getElem h]
  rfl
set_option maxHeartbeats 1600000 in
set_option maxRecDepth 100000 in
theorem of_st (h : St l w0 w) (q : Nat) {A : Option Addr} {n c : Nat} {xs : List Int} (hq : l[q]? = some (SL.row (Kd.int .i64) 3 (.slice A n c) xs)) (hlen : xs.length = n) (hn : n ≤ 1000000) : Calls Try.prog 48 #[.slice A n c] w fun e w' => ∃ g, e = .returned (.pointer (some ⟨g, 0, none⟩)) ∧ St (stp g (ofR xs) :: l) w0 w' := by
  have HQ := Go.Lib.hid hq
  have HS := Go.Lib.hid h
  have HLen := Go.Lib.hid hlen
  clear h hq hlen
  go_enter Try.func48, Try.ntmps48
  go_wp2_with (go_at_call 35; refine (new_st HS.out).mono ?_; rintro e w1 ⟨g, rfl, HSn⟩; replace HS := Go.Lib.hid HSn; clear HSn)
  go_loopw [9] (fun i wr => ∃ k : Nat, k ≤ n ∧ i = .int .i64 k ∧ St (stp g (ofR (xs.take k)) :: l) w0 wr) (fun i _ => n - (intOf i).toNat)
  case atStart => exact ⟨0, Nat.zero_le _, rfl, HS.out⟩
  case round =>
    clear HS
    obtain ⟨k, hk, rfl, hS⟩ := hrel
    have HS := Go.Lib.hid hS
    clear hS
    by_cases hlt : k < n
    · obtain ⟨A2, c2, hv, _, hC⟩ := HS.out.rowC (q + 1) (by simpa using HQ.out)
      injection hv with q1_ q2_ q3_
      subst q1_ q3_
      clear q2_
      rw [HLen.out] at hC
      obtain ⟨ad, rfl, g0⟩ := Kd.at_int hC (k : Int) (by omega) (by omega)
      rw [Int.toNat_natCast] at g0
      have htk := take_succ_int xs k (by rw [HLen.out]; exact hlt)
      generalize rd xs (k : Int) = x at *
      have hrs : ofR (xs.take (k + 1)) = (addR (ofR (xs.take k)) x 1).1 := by rw [htk, ofR_snoc]
      have HRS := Go.Lib.hid hrs
      clear hC htk hrs
      go_wp2_with (go_at_call 37; refine (add_st HS.out 0 rfl (ofR_ok _) x 1).mono ?_; rintro e w2 ⟨rfl, HSn⟩; replace HS := Go.Lib.hid HSn; clear HSn)
      go_roundw
      case rel => exact ⟨k + 1, by omega, rfl, by rw [HRS.out]; exact HS.out⟩
      case measure => simp [intOf]; omega
    · have hkn : k = n := by omega
      have hfin : ofR (xs.take k) = ofR xs := by rw [hkn, List.take_of_length_le (by rw [HLen.out]; exact Nat.le_refl _)]
      have HF := Go.Lib.hid hfin
      clear hfin
      go_wp2_with fail
      go_ret
      exact ⟨g, rfl, by rw [← HF.out]; exact HS.out⟩
end Go.Proofs.Ytolokohgphdngaa.Str
