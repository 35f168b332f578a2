/- Octet: the law OctetPuts, walked. -/
import Derived.Test.YtomhhaaogenedaaOct2
import Derived.Deep.RegionWith
import Derived.Deep.DrawnRows
import Derived.Deep.QuietTactic
import Derived.BigQuiet
namespace Go.Proofs.Ytomhhaaogenedaa.Oct
open Go.RowKit Go.Proofs.Ytomhhaaogenedaa.POctetPuts Go.Proofs.YtomhhaaogenedaaW.PrintWords Go.Proofs.YtomhhaaogenedaaW.PrintLast Go.Proofs.YtomhhaaogenedaaW.PrintMore Go.Proofs.Ytomhhaaogenedaa.Mine
set_option linter.unusedVariables false
set_option linter.unusedSimpArgs false

set_option maxHeartbeats 800000 in
theorem puts_no (A : Option Addr) (n0 c : Nat) (xs : List Int) (v n : Int) (w : World) (hC : (Kd.int .u8).C w A n0 xs) (hn : n0 ≤ 200) (v0 : 0 ≤ v) (v1 : v ≤ 18446744073709551615) (hf : fits v n = false) :
    Calls Try.prog 3 #[.slice A n0 c, .int .u64 v, .int .i64 n] w fun e w' => e = .returned (.bool true) ∧ Below w.heap.size w w' := by
  have HC := Go.Lib.hid hC
  have HF := Go.Lib.hid (fits_at v n v0 v1)
  have HG := Go.Lib.hid (rfits_at v n v0 v1)
  rw [hf] at HF HG
  clear hC hf
  have hl : decide ((200 : Int) < (n0 : Int)) = false := by simp; omega
  have hq := C_string (P := Try.prog) (src := 22) (dst := 9) (c := c) Try.underlying22 Try.underlying5 Try.underlying9 HC.out
  go_enter Try.func3, Try.ntmps3
  go_wp2_with fail
  clear hq
  refine (put_no A n0 c xs v n w HC.out (by omega) HF.out).mono ?_
  rintro e w1 ⟨s, rfl, hR, hB⟩
  have HR := Go.Lib.hid hR
  have HB := Go.Lib.hid hB
  clear hR hB
  go_wp2_with fail
  refine (countwheelref01_Fits.calls 70 v n false w1 HG.out).mono ?_
  rintro e w2 ⟨rfl, ⟨n2, rfl⟩⟩
  go_wp2_with fail
  refine (octet_Fits.calls v n false _ HF.out).mono ?_
  rintro e w3 ⟨rfl, ⟨n3, rfl⟩⟩
  have hq1 : ∀ k, (convert 22 9 (.slice A n0 c)).run Try.prog (w1.drewN k) = .ok (.string (strOfNums xs)) (w1.drewN k) := fun k => C_string Try.underlying22 Try.underlying5 Try.underlying9 (Kd.C_drewN (Kd.C_below HC.out HB.out) k)
  have hq2 : ∀ k, (convert 22 9 s).run Try.prog (w1.drewN k) = .ok (.string (strOfNums xs)) (w1.drewN k) := fun k => R_string Try.underlying22 Try.underlying5 Try.underlying9 (Kd.R_drewN HR.out k)
  generalize strOfNums xs = S at *
  go_wp2_with fail
  refine (awake_calls _).mono ?_
  rintro e w5 ⟨rfl, hB5⟩
  go_wp2_with fail
  go_ret
  exact ⟨rfl, (pw_below_drewN HB.out (n2 + n3)).trans (hB5.mono HB.out.size)⟩



attribute [local go_sem ↓] Go.wp_at_zero Go.wp_at_succ
set_option maxHeartbeats 1600000 in
theorem puts_yes (A : Option Addr) (n0 c : Nat) (xs : List Int) (v : Int) (m : Nat) (w : World) (hC : (Kd.int .u8).C w A n0 xs) (hn : n0 ≤ 200) (v0 : 0 ≤ v) (v1 : v ≤ 18446744073709551615) (hf : fits v m = true) :
    Calls Try.prog 3 #[.slice A n0 c, .int .u64 v, .int .i64 m] w fun e w' => e = .returned (.bool true) ∧ Below w.heap.size w w' := by
  obtain ⟨hm, hlt⟩ := fits_lt v m v0 v1 hf
  have hm1 : 1 ≤ m := by omega
  have hm8 : m ≤ 8 := by omega
  have hxl : xs.length = n0 := hC.1
  have HC := Go.Lib.hid hC
  have HF := Go.Lib.hid (fits_at v m v0 v1)
  have HG := Go.Lib.hid (rfits_at v m v0 v1)
  rw [hf] at HF HG
  have HT := Go.Lib.hid (text_at v m v0 v1 hm8)
  have HGet : Hid (octet_Get.f 20 (strOfNums (xs ++ be v m m)) (n0 : Int) (m : Int) = some (v, true)) := Go.Lib.hid (by
    rw [get_at _ _ _ (by rw [strOfNums_size, List.length_append, be_len]; omega) (by omega) (by omega)]
    have hh : has (strOfNums (xs ++ be v m m)) (n0 : Int) (m : Int) = true := by
      unfold has
      rw [strOfNums_size, List.length_append, be_len]
      simp; omega
    rw [if_pos hh]
    have := gv_put xs v m v0 v1 hlt m (Nat.le_refl _)
    rw [hxl, Nat.sub_self, Nat.mul_zero, Int.pow_zero, Int.ediv_one] at this
    rw [Int.toNat_natCast, this])
  have hS : strOfNums (xs ++ be v m m) = strOfNums xs ++ strOfNums (be v m m) := str_app _ _
  clear hC hf hm hlt hxl
  have hl : decide ((200 : Int) < (n0 : Int)) = false := by simp; omega
  have hq := C_string (P := Try.prog) (src := 22) (dst := 9) (c := c) Try.underlying22 Try.underlying5 Try.underlying9 HC.out
  have HSz : (strOfNums xs).size + (strOfNums (be v m m)).size ≤ 208 := by
    have := HC.out.1
    rw [strOfNums_size, strOfNums_size, be_len]; omega
  go_enter Try.func3, Try.ntmps3
  have HSS := Go.Lib.hid hS
  clear hS
  go_wp2_with fail
  clear hq
  refine (put_yes A n0 c xs v m w HC.out (by omega) HF.out v0 v1 hm1 hm8).mono ?_
  rintro e w1 ⟨s, rfl, hR, hB⟩
  have HR := Go.Lib.hid hR
  have HB := Go.Lib.hid hB
  clear hR hB
  go_wp2_with fail
  refine (countwheelref01_Fits.calls 70 v m true w1 HG.out).mono ?_
  rintro e w2 ⟨rfl, ⟨n2, rfl⟩⟩
  go_wp2_with fail
  refine (octet_Fits.calls v m true _ HF.out).mono ?_
  rintro e w3 ⟨rfl, ⟨n3, rfl⟩⟩
  have hq1 : ∀ k, (convert 22 9 (.slice A n0 c)).run Try.prog (w1.drewN k) = .ok (.string (strOfNums xs)) (w1.drewN k) := fun k => C_string Try.underlying22 Try.underlying5 Try.underlying9 (Kd.C_drewN (Kd.C_below HC.out HB.out) k)
  have hq2 : ∀ k, (convert 22 9 s).run Try.prog (w1.drewN k) = .ok (.string (strOfNums (xs ++ be v m m))) (w1.drewN k) := fun k => R_string Try.underlying22 Try.underlying5 Try.underlying9 (Kd.R_drewN HR.out k)
  go_wp2_with fail
  refine (octet_Get.calls 20 _ n0 m v true _ HGet.out).mono ?_
  rintro e w4 ⟨rfl, ⟨n4, rfl⟩⟩
  have HRW := Go.Lib.hid (Kd.R_drew (Kd.R_drewN HR.out (n2 + n3 + n4)))
  have HBW := Go.Lib.hid (below_drew1 (pw_below_drewN HB.out (n2 + n3 + n4)))
  have KQ : Hid (∀ w9, (Kd.int .u8).R 5 w9 w.heap.size (fun _ => True) s (xs ++ be v m m) → (convert 22 9 s).run Try.prog w9 = .ok (.string (strOfNums xs ++ strOfNums (be v m m))) w9) := Go.Lib.hid (fun w9 hb => by
    rw [← HSS.out]; exact R_string Try.underlying22 Try.underlying5 Try.underlying9 hb)
  have KT := Go.Lib.hid (fun W => countwheelref01_Text.calls 20 v m _ W HT.out)
  clear hq2
  generalize strOfNums xs = S1 at *
  generalize strOfNums (be v m m) = S2 at *
  have hbig : (9223372036854775807 < S1.size + S2.size) = False := eq_false (by omega)
  go_wp2_with fail
  refine start_ (n := 20) (S := fun w' => (convert 22 9 s).run Try.prog w' = .ok (.string (S1 ++ S2)) w') (ds := []) #[false, false, false, false, false, false, false, false, false, false, false, false, false, false, false, false, false, false, false, false] (by kernel_rfl) rfl rfl (KQ.out _ HRW.out) (fun hHeld => ?_)
  generalize (w1.drewN (n2 + n3 + n4)).drew = W at *
  refine pure_ (i := 0) (N := some 61) (v := ?_) (a' := ?_) #[true, false, false, false, false, false, false, false, false, false, false, false, false, false, false, false, false, false, false, false] rfl rfl (by kernel_rfl) (fun _ _ _ h => h) (Or.inl ⟨by rfl, ?_⟩) ?_ ?_
  rotate_left
  · intro w'
    go_simp
    with_reducible rfl
  rotate_left
  · simp only [Act.put, List.setIfInBounds_toArray, List.set_cons_zero, List.set_cons_succ, i64_w, i32_w]
    rfl
  refine take_ (i := 1) (N := some 62) (v := ?_) (a' := ?_) #[true, true, false, false, false, false, false, false, false, false, false, false, false, false, false, false, false, false, false, false] rfl rfl (by kernel_rfl) (fun _ _ _ h => h) (Or.inl ⟨by rfl, ?_⟩) hHeld ?_ ?_
  rotate_left
  · rintro w' s0
    go_simp
    with_reducible rfl
  rotate_left
  · simp only [Act.put, List.setIfInBounds_toArray, List.set_cons_zero, List.set_cons_succ, i64_w, i32_w]
    rfl
  refine pure_ (i := 2) (N := some 63) (v := ?_) (a' := ?_) #[true, true, true, false, false, false, false, false, false, false, false, false, false, false, false, false, false, false, false, false] rfl rfl (by kernel_rfl) (fun _ _ _ h => h) (Or.inl ⟨by rfl, ?_⟩) ?_ ?_
  rotate_left
  · intro w'
    go_simp
    with_reducible rfl
  rotate_left
  · simp only [Act.put, List.setIfInBounds_toArray, List.set_cons_zero, List.set_cons_succ, i64_w, i32_w]
    rfl
  refine pure_ (i := 3) (N := some 64) (v := ?_) (a' := ?_) #[true, true, true, true, false, false, false, false, false, false, false, false, false, false, false, false, false, false, false, false] rfl rfl (by kernel_rfl) (fun _ _ _ h => h) (Or.inl ⟨by rfl, ?_⟩) ?_ ?_
  rotate_left
  · intro w'
    go_simp
    with_reducible rfl
  rotate_left
  · simp only [Act.put, List.setIfInBounds_toArray, List.set_cons_zero, List.set_cons_succ, i64_w, i32_w]
    rfl
  refine pure_ (i := 4) (N := some 65) (v := ?_) (a' := ?_) #[true, true, true, true, true, false, false, false, false, false, false, false, false, false, false, false, false, false, false, false] rfl rfl (by kernel_rfl) (fun _ _ _ h => h) (Or.inl ⟨by rfl, ?_⟩) ?_ ?_
  rotate_left
  · intro w'
    go_simp
    with_reducible rfl
  rotate_left
  · simp only [Act.put, List.setIfInBounds_toArray, List.set_cons_zero, List.set_cons_succ, i64_w, i32_w]
    rfl
  refine one_ (i := 5) (N := some 66) #[true, true, true, true, true, true, false, false, false, false, false, false, false, false, false, false, false, false, false, false] rfl rfl (by kernel_rfl) (by decide) (fun K hK => ?_)
  refine goes_ Try.func19 (by kernel_rfl) rfl #[.int .u64 v, .int .i64 m] (by rfl) rfl rfl (by (try simp only [List.map_toArray, List.map_cons, List.map_nil]); first | done | rfl) ?_
  refine (KT.out W).mono ?_
  rintro e w9 ⟨rfl, hB9⟩
  have HW9 := Go.Lib.hid (HBW.out.trans (hB9.mono HBW.out.size))
  have HR9 := Go.Lib.hid (Kd.R_below HRW.out hB9)
  clear hB9
  refine ⟨_, rfl, ?_⟩
  refine hK.out _ _ (KQ.out _ HR9.out) (fun hHeld => ?_)
  clear hK K
  refine norm_ (a' := ?_) ?_ ?_
  rotate_left
  · show Act.put _ (some 66) _ = _
    simp only [Act.put, List.setIfInBounds_toArray, List.set_cons_zero, List.set_cons_succ, i64_w, i32_w]
    rfl
  refine pure_ (i := 6) (N := some 67) (v := ?_) (a' := ?_) #[true, true, true, true, true, true, true, false, false, false, false, false, false, false, false, false, false, false, false, false] rfl rfl (by kernel_rfl) (fun _ _ _ h => h) (Or.inl ⟨by rfl, ?_⟩) ?_ ?_
  rotate_left
  · intro w'
    go_simp
    with_reducible rfl
  rotate_left
  · simp only [Act.put, List.setIfInBounds_toArray, List.set_cons_zero, List.set_cons_succ, i64_w, i32_w]
    rfl
  refine pure_ (i := 7) (N := some 68) (v := ?_) (a' := ?_) #[true, true, true, true, true, true, true, true, false, false, false, false, false, false, false, false, false, false, false, false] rfl rfl (by kernel_rfl) (fun _ _ _ h => h) (Or.inl ⟨by rfl, ?_⟩) ?_ ?_
  rotate_left
  · intro w'
    go_simp
    with_reducible rfl
  rotate_left
  · simp only [Act.put, List.setIfInBounds_toArray, List.set_cons_zero, List.set_cons_succ, i64_w, i32_w]
    rfl
  refine pure_ (i := 8) (N := some 69) (v := ?_) (a' := ?_) #[true, true, true, true, true, true, true, true, true, false, false, false, false, false, false, false, false, false, false, false] rfl rfl (by kernel_rfl) (fun _ _ _ h => h) (Or.inl ⟨by rfl, ?_⟩) ?_ ?_
  rotate_left
  · intro w'
    go_simp
    with_reducible rfl
  rotate_left
  · simp only [Act.put, List.setIfInBounds_toArray, List.set_cons_zero, List.set_cons_succ, i64_w, i32_w]
    rfl
  refine pure_ (i := 9) (N := some 70) (v := ?_) (a' := ?_) #[true, true, true, true, true, true, true, true, true, true, false, false, false, false, false, false, false, false, false, false] rfl rfl (by kernel_rfl) (fun _ _ _ h => h) (Or.inl ⟨by rfl, ?_⟩) ?_ ?_
  rotate_left
  · intro w'
    go_simp
    with_reducible rfl
  rotate_left
  · simp only [Act.put, List.setIfInBounds_toArray, List.set_cons_zero, List.set_cons_succ, i64_w, i32_w]
    rfl
  refine pure_ (i := 10) (N := some 71) (v := ?_) (a' := ?_) #[true, true, true, true, true, true, true, true, true, true, true, false, false, false, false, false, false, false, false, false] rfl rfl (by kernel_rfl) (fun _ _ _ h => h) (Or.inl ⟨by rfl, ?_⟩) ?_ ?_
  rotate_left
  · intro w'
    go_simp
    with_reducible rfl
  rotate_left
  · simp only [Act.put, List.setIfInBounds_toArray, List.set_cons_zero, List.set_cons_succ, i64_w, i32_w]
    rfl
  refine pure_ (i := 11) (N := some 72) (v := ?_) (a' := ?_) #[true, true, true, true, true, true, true, true, true, true, true, true, false, false, false, false, false, false, false, false] rfl rfl (by kernel_rfl) (fun _ _ _ h => h) (Or.inl ⟨by rfl, ?_⟩) ?_ ?_
  rotate_left
  · intro w'
    go_simp
    with_reducible rfl
  rotate_left
  · simp only [Act.put, List.setIfInBounds_toArray, List.set_cons_zero, List.set_cons_succ, i64_w, i32_w]
    rfl
  refine pure_ (i := 12) (N := some 73) (v := ?_) (a' := ?_) #[true, true, true, true, true, true, true, true, true, true, true, true, true, false, false, false, false, false, false, false] rfl rfl (by kernel_rfl) (fun _ _ _ h => h) (Or.inl ⟨by rfl, ?_⟩) ?_ ?_
  rotate_left
  · intro w'
    go_simp
    with_reducible rfl
  rotate_left
  · simp only [Act.put, List.setIfInBounds_toArray, List.set_cons_zero, List.set_cons_succ, i64_w, i32_w]
    rfl
  refine pure_ (i := 13) (N := some 74) (v := ?_) (a' := ?_) #[true, true, true, true, true, true, true, true, true, true, true, true, true, true, false, false, false, false, false, false] rfl rfl (by kernel_rfl) (fun _ _ _ h => h) (Or.inl ⟨by rfl, ?_⟩) ?_ ?_
  rotate_left
  · intro w'
    go_simp
    with_reducible rfl
  rotate_left
  · simp only [Act.put, List.setIfInBounds_toArray, List.set_cons_zero, List.set_cons_succ, i64_w, i32_w]
    rfl
  refine pure_ (i := 14) (N := some 75) (v := ?_) (a' := ?_) #[true, true, true, true, true, true, true, true, true, true, true, true, true, true, true, false, false, false, false, false] rfl rfl (by kernel_rfl) (fun _ _ _ h => h) (Or.inl ⟨by rfl, ?_⟩) ?_ ?_
  rotate_left
  · intro w'
    go_simp
    with_reducible rfl
  rotate_left
  · simp only [Act.put, List.setIfInBounds_toArray, List.set_cons_zero, List.set_cons_succ, i64_w, i32_w]
    rfl
  refine pure_ (i := 15) (N := some 76) (v := ?_) (a' := ?_) #[true, true, true, true, true, true, true, true, true, true, true, true, true, true, true, true, false, false, false, false] rfl rfl (by kernel_rfl) (fun _ _ _ h => h) (Or.inl ⟨by rfl, ?_⟩) ?_ ?_
  rotate_left
  · intro w'
    go_simp
    with_reducible rfl
  rotate_left
  · simp only [Act.put, List.setIfInBounds_toArray, List.set_cons_zero, List.set_cons_succ, i64_w, i32_w]
    rfl
  refine pure_ (i := 16) (N := some 77) (v := ?_) (a' := ?_) #[true, true, true, true, true, true, true, true, true, true, true, true, true, true, true, true, true, false, false, false] rfl rfl (by kernel_rfl) (fun _ _ _ h => h) (Or.inl ⟨by rfl, ?_⟩) ?_ ?_
  rotate_left
  · intro w'
    go_simp
    with_reducible rfl
  rotate_left
  · simp only [Act.put, List.setIfInBounds_toArray, List.set_cons_zero, List.set_cons_succ, i64_w, i32_w]
    rfl
  refine one_ (i := 17) (N := some 78) #[true, true, true, true, true, true, true, true, true, true, true, true, true, true, true, true, true, true, false, false] rfl rfl (by kernel_rfl) (by decide) (fun K hK => ?_)
  refine goes_ Try.func14 (by kernel_rfl) rfl #[] (by rfl) rfl rfl (by (try simp only [List.map_toArray, List.map_cons, List.map_nil]); first | done | rfl) ?_
  refine (awake_calls _).mono ?_
  rintro e w10 ⟨rfl, hB10⟩
  have HW10 := Go.Lib.hid (HW9.out.trans (hB10.mono HW9.out.size))
  have HR10 := Go.Lib.hid (Kd.R_below HR9.out hB10)
  clear hB10
  refine ⟨_, rfl, ?_⟩
  refine hK.out _ _ (KQ.out _ HR10.out) (fun hHeld => ?_)
  clear hK K
  refine norm_ (a' := ?_) ?_ ?_
  rotate_left
  · show Act.put _ (some 78) _ = _
    simp only [Act.put, List.setIfInBounds_toArray, List.set_cons_zero, List.set_cons_succ, i64_w, i32_w]
    rfl
  refine pure_ (i := 18) (N := some 79) (v := ?_) (a' := ?_) #[true, true, true, true, true, true, true, true, true, true, true, true, true, true, true, true, true, true, true, false] rfl rfl (by kernel_rfl) (fun _ _ _ h => h) (Or.inl ⟨by rfl, ?_⟩) ?_ ?_
  rotate_left
  · intro w'
    go_simp
    with_reducible rfl
  rotate_left
  · simp only [Act.put, List.setIfInBounds_toArray, List.set_cons_zero, List.set_cons_succ, i64_w, i32_w]
    rfl
  refine pure_ (i := 19) (N := some 6) (v := ?_) (a' := ?_) #[true, true, true, true, true, true, true, true, true, true, true, true, true, true, true, true, true, true, true, true] rfl rfl (by kernel_rfl) (fun _ _ _ h => h) (Or.inl ⟨by rfl, ?_⟩) ?_ ?_
  rotate_left
  · intro w'
    go_simp
    with_reducible rfl
  rotate_left
  · simp only [Act.put, List.setIfInBounds_toArray, List.set_cons_zero, List.set_cons_succ, i64_w, i32_w]
    rfl
  refine done_ (by kernel_rfl) ?_
  go_wp2_with fail
  go_ret
  exact ⟨rfl, HW10.out⟩

theorem octetPuts_walk (w : World) (A : Option Addr) (len cap : Nat) (zs : List Int) (hr : (A = none ∧ len = 0 ∧ cap = 0 ∧ zs = []) ∨ ∃ x, A = some x ∧ len ≤ cap ∧ cap ≤ maxLen ∧ zs.length = cap ∧ (∀ i, i < zs.length → w.cell? (x.add i) = some (.int .u8 (zs.getD i 0))) ∧ ∀ n ∈ zs, (Lit.int .u8 n).wf = true)
    (v : Int) (wv : (Lit.int .u64 v).wf = true) (n : Int) (wn : (Lit.int .i64 n).wf = true) :
    Calls Try.prog 3 #[.slice A len cap, .int .u64 v, .int .i64 n] w fun e w' => e = .returned (.bool true) ∧ Below w.heap.size w w' := by
  have hv := bounds_u64 wv
  obtain ⟨xs, rfl, hr0, hm0, hw0, hc0⟩ := ReadsInt.ofRowC hr
  have hC : (Kd.int .u8).C w A xs.length xs := Kd.C_of_reads (d := (0 : Int)) (h1 := fun _ => rfl) hr0
  clear hr wv wn hw0 hr0
  by_cases hl : (200 : Int) < (xs.length : Int)
  · have hl' : decide ((200 : Int) < (xs.length : Int)) = true := by simpa using hl
    clear hv
    go_enter Try.func3, Try.ntmps3
    go_wp2_with fail
    refine (awake_calls w).mono ?_
    rintro e w5 ⟨rfl, hB5⟩
    have HB := Go.Lib.hid hB5
    clear hB5
    go_wp2_with fail
    go_ret
    exact ⟨rfl, HB.out⟩
  · cases hf : fits v n with
    | false => exact puts_no A _ cap xs v n w hC (by omega) hv.1 hv.2 hf
    | true =>
      obtain ⟨m, rfl⟩ : ∃ m : Nat, n = (m : Int) := ⟨n.toNat, by unfold fits at hf; simp at hf; omega⟩
      exact puts_yes A _ cap xs v m w hC (by omega) hv.1 hv.2 hf
end Go.Proofs.Ytomhhaaogenedaa.Oct
