/- Rows repeated. -/
import Derived.Test.YtolokohgphdngaaStr9
import Derived.Test.YtolokohgphdngaaWrd
namespace Go.Proofs.Ytolokohgphdngaa.Str
open Go.RowKit Go.Proofs.YtolokohgphdngaaW.PrintWords Go.Proofs.YtolokohgphdngaaW.PrintLast Go.Proofs.YtolokohgphdngaaW.PrintMore Go.Proofs.Ytolokohgphdngaa.Mine Go.Proofs.Ytolokohgphdngaa.PStripAdds
open Go.Proofs.Ytolokohgphdngaa.Sl (SL Stp Chg St No)
set_option linter.unusedVariables false
set_option linter.unusedSimpArgs false
attribute [local go_sem] max2_int min2_int max_two min_two max_three min_three max_four min_four
variable {l : List SL} {w0 w : World} {g : Nat} {rs : List S95}
theorem setCells_all (g : Nat) : ∀ (vs : List Value) (i : Nat) (W : World), W.setCells g i vs = Sl.setAll g W i vs
  | [], i, W => rfl
  | v :: vs, i, W => setCells_all g vs (i + 1) (W.setCell ⟨g, i, none⟩ v)
open Win (cels cels_size make_ints infoInt cels_get) in
theorem cels_toList (xs : List Int) : (cels xs).toList = nums .i64 xs := by unfold cels; simp
open Win (cels cels_size) in
theorem set_cells {xs ys : List Int} (h : St l w0 w) (n b : Nat) (e : l[n]? = some (SL.blk b 3 (cels xs))) (o : Nat) (hl : o + ys.length ≤ xs.length) :
    St (l.set n (SL.blk b 3 (cels (xs.take o ++ ys ++ xs.drop (o + ys.length))))) w0 (w.setCells b o (nums .i64 ys)) := by
  obtain ⟨S1, h1, hk⟩ := h.at_ n _ e
  have hz : o + (nums .i64 ys).length ≤ (cels xs).size := by rw [cels_size, nums_length]; exact hl
  obtain ⟨h2, k2⟩ := Sl.setAll_blk (nums .i64 ys) o (cels xs) w h1 hz
  rw [setCells_all]
  have ec : ((cels xs).toList.take o ++ nums .i64 ys ++ (cels xs).toList.drop (o + (nums .i64 ys).length)).toArray = cels (xs.take o ++ ys ++ xs.drop (o + ys.length)) := by
    rw [cels_toList, nums_length]
    unfold cels nums
    simp [List.map_take, List.map_drop]
  rw [ec] at h2
  exact hk _ _ _ h2 k2
open Win (cels cels_size) in
theorem blk_row {xs : List Int} {b : Nat} (h : St (SL.blk b 3 (cels xs) :: l) w0 w) (hx : xs.length ≤ 1000000000) : St (SL.row (Kd.int .i64) 3 (.slice (some ⟨b, 0, none⟩) xs.length xs.length) xs :: l) w0 w := by
  refine h.imp (fun T hT => ⟨Kd.R_of_own (h1 := fun _ => rfl) ⟨by simp [encs], .inr ⟨b, xs.length, cels xs, rfl, Nat.zero_le _, hT.1, Nat.le_refl _, by unfold maxLen; omega, by rw [cels_size]; omega, ?_⟩⟩ (fun k hk => ?_), fun i hi => by rw [(hT.2 i).1 hi]; exact blk_lt hT.1⟩)
  · rw [List.take_of_length_le (by rw [Array.length_toList, cels_size]; omega)]
    rw [cels_toList]
    rfl
  · simp [Value.ownBlock] at hk
    subst hk
    exact (hT.2 b).2 rfl
theorem mul_is (n : Int) (h0 : 0 ≤ n) (h1 : n ≤ 1073741824) : bits_Mul.f 1 n = some (0, n) := by
  obtain ⟨m, rfl⟩ := Int.eq_ofNat_of_zero_le h0
  have e1 : Go.bits .and .u64 (m : Int) 4294967295 = (m : Int) := by
    have := Go.u64_and_nat m 4294967295 (by omega) (by decide)
    rw [show m &&& 4294967295 = m by rw [show (4294967295 : Nat) = 2 ^ 32 - 1 from rfl, Nat.and_two_pow_sub_one_eq_mod]; exact Nat.mod_eq_of_lt (by omega)] at this
    exact this
  have e2 : Go.bits .and .u64 1 4294967295 = 1 := by decide +kernel
  have e3 : Go.bits .and .u64 (m : Int) 4294967295 = (m : Int) := e1
  unfold bits_Mul.f bits_Mul64.f
  rw [e1, e2]
  have u : ∀ z : Int, IntKind.u64.wrap z = z % 18446744073709551616 := fun z => by simp [IntKind.wrap, IntKind.bits, IntKind.signed]
  have q1 : (1 : Int) / 4294967296 = 0 := by decide
  have q2 : (m : Int) / 4294967296 = 0 := by omega
  rw [q1, q2]
  simp only [Int.zero_mul, Int.mul_zero, Int.one_mul, u, Int.zero_add, Int.add_zero, Option.bind_some]
  have q3 : (m : Int) % 18446744073709551616 = m := by omega
  rw [q3, q2]
  have q4 : Go.bits .and .u64 0 4294967295 = 0 := by decide +kernel
  simp [q4]
end Go.Proofs.Ytolokohgphdngaa.Str
