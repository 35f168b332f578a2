/- Octet: numbers as bytes: what Put, Fits and Get come to, walked. -/
import Derived.Test.YtomhhaaogenedaaPOctetPutsx1
import Derived.Test.YtomhhaaogenedaaMine
import Derived.OpenShut
namespace Go.Proofs.Ytomhhaaogenedaa.Oct
open Go.RowKit Go.Proofs.Ytomhhaaogenedaa.POctetPuts Go.Proofs.YtomhhaaogenedaaW.PrintWords Go.Proofs.YtomhhaaogenedaaW.PrintLast Go.Proofs.YtomhhaaogenedaaW.PrintMore Go.Proofs.Ytomhhaaogenedaa.Mine
set_option linter.unusedVariables false

set_option maxHeartbeats 400000 in
theorem clone56_calls (A : Option Addr) (n c : Nat) (xs : List Int) (w : World) (hC : (Kd.int .u8).C w A n xs) (hn : n * 1 ≤ 140737488355328) :
    Calls Try.prog 56 #[.slice A n c] w fun e w' => ∃ v, e = .returned v ∧ (Kd.int .u8).R 5 w' w.heap.size (fun _ => True) v xs ∧ Below w.heap.size w w' := by
  rcases A with _ | ad
  · have h0 : n = 0 := by
      rcases Nat.eq_zero_or_pos n with h0 | h0
      · exact h0
      · obtain ⟨_, h, _⟩ := hC.2.2 h0; cases h
    subst h0
    obtain rfl : xs = [] := List.eq_nil_of_length_eq_zero hC.1
    have hq := Go.Lib.run_eql_slice_nil (P := Try.prog) w 22 5 none 0 c 0 0 Try.underlying22
    go_enter Try.func56, Try.ntmps56
    go_wp2_with fail
    go_ret
    exact ⟨_, rfl, Kd.R_nil _ _ _ _ _, Below.refl _ _⟩
  · have HC := Go.Lib.hid hC
    clear hC
    have hq := Go.Lib.run_eql_slice_nil (P := Try.prog) w 22 5 (some ad) n c 0 0 Try.underlying22
    go_enter Try.func56, Try.ntmps56
    go_wp2_with (first | (at_builtin; refine append_clone (d := Kd.int .u8) (flat_int .u8) w rfl _ _ 22 5 (.int .u8 0) 1 rfl Try.underlying22 (by kernel_rfl) rfl (by decide) (by decide) xs ad n c rfl rfl HC.out hn ?_; intro v1 w1 hR1 hB1; have HR1 := Go.Lib.hid hR1; have HB1 := Go.Lib.hid hB1; clear hR1 hB1))
    go_ret
    exact ⟨_, rfl, HR1.out, HB1.out⟩

/-- Has a number so many bytes at most? -/
def fits (v n : Int) : Bool := decide (n = 8) || (decide (n = 4) && decide (v < 4294967296)) || (decide (n = 2) && decide (v < 65536)) || (decide (n = 1) && decide (v < 256))
/-- The first k of a number's n bytes. -/
def be (v : Int) (n k : Nat) : List Int := (List.range k).map fun j => v / 2 ^ (8 * (n - 1 - j)) % 256

theorem fits_at (v n : Int) (h0 : 0 ≤ v) (h1 : v ≤ 18446744073709551615) : octet_Fits.f v n = some (fits v n) := by
  unfold octet_Fits.f octet_size.f fits
  by_cases a : n = 8
  · subst a; simp
  · by_cases b : n = 4
    · subst b
      simp [shr, IntKind.bits]
      rw [Bool.eq_iff_iff]; simp; omega
    · by_cases c : n = 2
      · subst c
        simp [shr, IntKind.bits]
        rw [Bool.eq_iff_iff]; simp; omega
      · by_cases d : n = 1
        · subst d
          simp [shr, IntKind.bits]
          rw [Bool.eq_iff_iff]; simp; omega
        · simp [a, b, c, d]

set_option maxHeartbeats 800000 in
theorem put_no (A : Option Addr) (n0 c : Nat) (xs : List Int) (v n : Int) (w : World) (hC : (Kd.int .u8).C w A n0 xs) (hn : n0 ≤ 1000000) (hF : octet_Fits.f v n = some false) :
    Calls Try.prog 15 #[.slice A n0 c, .int .u64 v, .int .i64 n] w fun e w' => ∃ s, e = .returned (.tuple #[s, .bool false]) ∧ (Kd.int .u8).R 5 w' w.heap.size (fun _ => True) s xs ∧ Below w.heap.size w w' := by
  have HF := Go.Lib.hid hF
  have HC := Go.Lib.hid hC
  clear hF hC
  go_enter Try.func15, Try.ntmps15
  go_wp2_with fail
  refine (clone56_calls A n0 c xs w HC.out (by omega)).mono ?_
  rintro e w1 ⟨s1, rfl, hR1, hB1⟩
  have HR1 := Go.Lib.hid hR1
  have HB1 := Go.Lib.hid hB1
  clear hR1 hB1
  go_wp2_with fail
  refine (octet_Fits.calls v n false w1 HF.out).mono ?_
  rintro e w2 ⟨rfl, ⟨nd, rfl⟩⟩
  go_wp2_with fail
  go_ret2
  exact ⟨s1, rfl, Kd.R_drewN HR1.out nd, pw_below_drewN HB1.out nd⟩

theorem be_snoc (v : Int) (n k : Nat) : be v n (k + 1) = be v n k ++ [v / 2 ^ (8 * (n - 1 - k)) % 256] := by unfold be; rw [List.range_succ, List.map_append]; rfl
theorem be_len (v : Int) (n k : Nat) : (be v n k).length = k := by unfold be; simp

set_option maxHeartbeats 800000 in
theorem put_yes (A : Option Addr) (n0 c : Nat) (xs : List Int) (v : Int) (m : Nat) (w : World) (hC : (Kd.int .u8).C w A n0 xs) (hn : n0 ≤ 1000000) (hF : octet_Fits.f v m = some true) (v0 : 0 ≤ v) (v1 : v ≤ 18446744073709551615) (hm1 : 1 ≤ m) (hm8 : m ≤ 8) :
    Calls Try.prog 15 #[.slice A n0 c, .int .u64 v, .int .i64 m] w fun e w' => ∃ s, e = .returned (.tuple #[s, .bool true]) ∧ (Kd.int .u8).R 5 w' w.heap.size (fun _ => True) s (xs ++ be v m m) ∧ Below w.heap.size w w' := by
  have hxl : xs.length ≤ 1000000 := by have := hC.1; omega
  have HF := Go.Lib.hid hF
  have HC := Go.Lib.hid hC
  clear hF hC
  go_enter Try.func15, Try.ntmps15
  go_wp2_with fail
  refine (clone56_calls A n0 c xs w HC.out (by omega)).mono ?_
  rintro e w1 ⟨s1, rfl, hR1, hB1⟩
  have HR1 := Go.Lib.hid hR1
  have HB1 := Go.Lib.hid hB1
  clear hR1 hB1
  go_wp2_with fail
  refine (octet_Fits.calls v m true w1 HF.out).mono ?_
  rintro e w2 ⟨rfl, ⟨nd, rfl⟩⟩
  go_wp2_with fail
  go_loopw [8, 9] (fun out i wr => ∃ (k : Nat) (s : Value), k ≤ m ∧ out = s ∧ i = .int .i64 ((m : Int) - 1 - k) ∧ (Kd.int .u8).R 5 wr w.heap.size (fun _ => True) s (xs ++ be v m k) ∧ Below w.heap.size w wr) (fun _ i _ => (intOf i + 1).toNat)
  case atStart => exact ⟨0, _, Nat.zero_le _, rfl, by simp, by simpa [be] using Kd.R_drewN HR1.out nd, pw_below_drewN HB1.out nd⟩
  case round =>
    obtain ⟨k, s, hk, rfl, rfl, hRk, hBk⟩ := hrel
    have HRk := Go.Lib.hid hRk
    have HBk := Go.Lib.hid hBk
    clear hRk hBk
    by_cases hlt : k < m
    · have e1 : IntKind.i64.wrap (8 * ((m : Int) - 1 - k)) = 8 * ((m : Int) - 1 - k) := IntWalk.i64_in _ (by omega)
      have e2 : (8 * ((m : Int) - 1 - k)).toNat = 8 * (m - 1 - k) := by omega
      have hge : decide (0 ≤ (m : Int) - 1 - k) = true := by simp; omega
      go_wp2_with (first | (at_builtin; refine Kd.R_append (Kd.int .u8) (w0 := w) w.heap.size rfl (.tmp 23) (.tmp 29) 22 5 (.int .u8 0) 1 rfl Try.underlying22 (by kernel_rfl) rfl (by decide) (by decide) u8 (xs ++ be v m k) (v / 2 ^ (8 * (m - 1 - k)) % 256) [.int .u8 (v / 2 ^ (8 * (m - 1 - k)) % 256)] (fun _ => True) (fun _ => False) rfl rfl ?aP (fun _ hk => hk.elim) (fun _ _ => trivial) HRk.out HBk.out HBk.out.size ?aL ?_; (case aP => rfl); (case aL => simp [be_len]; omega); intro v1 w3 hR3 hB3 hg3 hat3; have HR3 := Go.Lib.hid hR3; have HB3 := Go.Lib.hid hB3; clear hR3 hB3 hg3 hat3))
      go_roundw
      case rel => exact ⟨k + 1, _, by omega, rfl, by go_num, by rw [be_snoc, ← List.append_assoc]; exact HR3.out, HB3.out⟩
      case measure => simp [intOf]; omega
    · have hge : decide (0 ≤ (m : Int) - 1 - k) = false := by simp; omega
      obtain rfl : k = m := by omega
      go_wp2_with fail
      go_ret2
      exact ⟨_, rfl, HRk.out, HBk.out⟩
end Go.Proofs.Ytomhhaaogenedaa.Oct
