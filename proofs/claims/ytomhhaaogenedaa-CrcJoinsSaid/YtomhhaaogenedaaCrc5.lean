/- What a matrix makes of a number; a matrix done twice; the sum of two texts, one behind the other. -/
import Derived.Test.YtomhhaaogenedaaCrc4
namespace Go.Proofs.Ytomhhaaogenedaa.Crc
open Go.RowKit Go.Proofs.YtomhhaaogenedaaW.PrintWords Go.Proofs.YtomhhaaogenedaaW.PrintLast Go.Proofs.YtomhhaaogenedaaW.PrintMore Go.Proofs.Ytomhhaaogenedaa.Mine
open Go.Proofs.Ytomhhaaogenedaa.Sl (SL Stp Chg St No nums nums_size nums_one nums_set nums_get)
set_option linter.unusedVariables false
set_option linter.unusedSimpArgs false
attribute [local go_sem] max2_int min2_int max_two min_two max_three min_three max_four min_four
variable {l : List SL} {w0 w : World} {g v : Nat} {n : Int}
theorem lin_lt (p v : Nat) : ∀ k, k ≤ 32 → lin (nul p) v k < 4294967296
  | 0, _ => by simp [lin]
  | k + 1, h => by
    simp only [lin]
    split
    · exact xor_lt (lin_lt p v k (by omega)) (nul_lt p (pow_lt (by omega)))
    · exact lin_lt p v k (by omega)
theorem lin_all (p : Nat) {v : Nat} (h : v < 4294967296) : lin (nul p) v 32 = nul p v := by
  rw [lin_is (nul p) (nul_zero p) (nul_xor p), Nat.mod_eq_of_lt (show v < 2 ^ 32 from h)]
set_option maxHeartbeats 6400000 in
set_option maxRecDepth 100000 in
theorem times_st (h : St l w0 w) (q p : Nat) (e : l[q]? = some (SL.blk g 88 (nums .u32 (mat p)))) (hv : v < 4294967296) : Calls Try.prog 63 #[.pointer (some ⟨g, 0, none⟩), .int .u32 (v : Int)] w fun e w' => e = .returned (.int .u32 ((nul p v : Nat) : Int)) ∧ St l w0 w' := by
  have HE := Go.Lib.hid e
  have HS := Go.Lib.hid h
  have HV := Go.Lib.hid hv
  have ha := lin_all p hv
  have HA := Go.Lib.hid ha
  clear h e hv ha
  go_enter Try.func63, Try.ntmps63
  go_wp2_with fail
  go_loopw [5, 7] (fun a i wr => ∃ k : Nat, k ≤ 32 ∧ a = .int .u32 ((lin (nul p) v k : Nat) : Int) ∧ i = .int .i64 k ∧ St l w0 wr) (fun _ i _ => 32 - (intOf i).toNat)
  case atStart => exact ⟨0, Nat.zero_le _, rfl, rfl, HS.out⟩
  case round =>
    clear HS
    obtain ⟨k, hk, rfl, rfl, hS⟩ := hrel
    have HS := Go.Lib.hid hS
    clear hS
    by_cases hlt : k < 32
    · have p0 : (0 ≤ (k : Int)) = True := eq_true (by omega)
      have p1 : ((k : Int) ≤ 32) = True := eq_true (by omega)
      have p2 : ((k : Int) < 32) = True := eq_true (by omega)
      obtain ⟨z, hz⟩ : ∃ z, z = v / 2 ^ k := ⟨_, rfl⟩
      have hzl : z < 4294967296 := by rw [hz]; exact Nat.lt_of_le_of_lt (Nat.div_le_self _ _) HV.out
      have e1 : (v : Int) / 2 ^ k = (z : Int) := by
        have hb : (2 : Int) ^ k = ((2 ^ k : Nat) : Int) := by simp
        rw [hb, hz, Int.natCast_ediv]
      have a1 : Go.bits .and .u32 (z : Int) 1 = ((z % 2 : Nat) : Int) := and1 hzl
      have hc := HS.out.cell q g 88 _ HE.out k
      rw [mat_at p k hlt] at hc
      have hw : wrap64 ((k : Int) + 1) = ((k + 1 : Nat) : Int) := by unfold wrap64; omega
      have hll := lin_lt p v k hk
      have hn := nul_lt p (pow_lt hlt)
      have hb : v.testBit k = decide (z % 2 = 1) := by rw [hz, Nat.testBit_eq_decide_div_mod_eq]
      have HB : Hid (lin (nul p) v (k + 1) = if z % 2 = 1 then lin (nul p) v k ^^^ nul p (2 ^ k) else lin (nul p) v k) := Go.Lib.hid (by simp only [lin, hb, decide_eq_true_eq])
      clear hb hz
      generalize nul p (2 ^ k) = y at *
      by_cases hod : z % 2 = 1
      · have ho : ((z : Int) % 2 == 1) = true := by rw [beq_iff_eq]; omega
        have hl2 := HB.out
        rw [if_pos hod] at hl2
        have x1 : Go.bits .xor .u32 ((lin (nul p) v k : Nat) : Int) (y : Int) = ((lin (nul p) v (k + 1) : Nat) : Int) := by rw [hl2]; exact Go.u32_xor_nat _ _ hll hn
        clear hl2
        go_wp2_with fail
        go_roundw
        case rel => exact ⟨k + 1, by omega, rfl, rfl, HS.out⟩
        case measure => simp [intOf]; omega
      · have ho : ((z : Int) % 2 == 1) = false := by rw [beq_eq_false_iff_ne]; omega
        have hl2 := HB.out
        rw [if_neg hod] at hl2
        have HL := Go.Lib.hid hl2
        clear hl2
        go_wp2_with fail
        go_roundw
        case rel => exact ⟨k + 1, by omega, by rw [HL.out], rfl, HS.out⟩
        case measure => simp [intOf]; omega
    · obtain rfl : k = 32 := by omega
      go_wp2_with fail
      go_ret
      exact ⟨by rw [← HA.out]; rfl, HS.out⟩
end Go.Proofs.Ytomhhaaogenedaa.Crc
