/- Matrices of noughts; the sum of two texts. -/
import Derived.Test.YtomhhaaogenedaaCrc2
namespace Go.Proofs.Ytomhhaaogenedaa.Crc
open Go.RowKit Go.Proofs.YtomhhaaogenedaaW.PrintWords Go.Proofs.YtomhhaaogenedaaW.PrintLast Go.Proofs.YtomhhaaogenedaaW.PrintMore Go.Proofs.Ytomhhaaogenedaa.Mine
open Go.Proofs.Ytomhhaaogenedaa.Sl (SL Stp Chg St No nums nums_size nums_one nums_set nums_get)
set_option linter.unusedVariables false
set_option linter.unusedSimpArgs false
attribute [local go_sem] max2_int min2_int max_two min_two max_three min_three max_four min_four
variable {l : List SL} {w0 w : World} {g v : Nat} {n : Int}
/-- A matrix, as far as it is made. -/
def matTo (p k : Nat) : List Nat := (List.range k).map (fun i => nul p (2 ^ i)) ++ List.replicate (32 - k) 0
def mat (p : Nat) : List Nat := (List.range 32).map (fun i => nul p (2 ^ i))
theorem matTo_len {p k : Nat} (h : k ≤ 32) : (matTo p k).length = 32 := by unfold matTo; simp; omega
theorem matTo_set {p k : Nat} (h : k < 32) : (matTo p k).set k (nul p (2 ^ k)) = matTo p (k + 1) := by
  unfold matTo
  rw [List.set_append_right _ _ (by simp), List.range_succ, List.map_append, show 32 - k = (32 - (k + 1)) + 1 by omega, List.replicate_succ]
  simp
theorem matTo_all (p : Nat) : matTo p 32 = mat p := by unfold matTo mat; simp
theorem matTo_none (p : Nat) : matTo p 0 = List.replicate 32 0 := rfl
theorem mat_at (p k : Nat) (h : k < 32) : (nums .u32 (mat p))[k]? = some (.int .u32 ((nul p (2 ^ k) : Nat) : Int)) := by
  rw [nums_get k (by unfold mat; simp; exact h)]
  unfold mat
  simp [h]
theorem set_at {k : IntKind} {xs : List Nat} (i x : Nat) (h : i < xs.length) : (nums k (xs.set i x))[i]? = some (.int k (x : Int)) := by
  rw [nums_get i (by simpa using h)]
  simp [h]
theorem set_set {k : IntKind} {xs : List Nat} (i x y : Nat) : (nums k (xs.set i x)).setIfInBounds i (.int k (y : Int)) = nums k (xs.set i y) := by rw [nums_set, List.set_set]
theorem zero88 : (Try.prog.info? 88).map (·.zero) = some (some (.agg (nums .u32 (List.replicate 32 0)))) := by kernel_rfl
theorem pow_lt {k : Nat} (h : k < 32) : 2 ^ k < 4294967296 := Nat.pow_lt_pow_right (n := 32) (by decide) h
set_option maxHeartbeats 6400000 in
set_option maxRecDepth 100000 in
theorem nought_is (h : St l w0 w) : Calls Try.prog 62 #[] w fun e w' => ∃ g, e = .returned (.pointer (some ⟨g, 0, none⟩)) ∧ St (SL.blk g 88 (nums .u32 (mat 1)) :: l) w0 w' := by
  have HS := Go.Lib.hid h
  clear h
  go_enter Try.func62, Try.ntmps62
  go_wp2_with ((with_reducible refine gate_dst (N := 1) rfl ?_); refine Sl.box_st HS.out (by rfl) (cs := nums .u32 (List.replicate 32 0)) (t := 88) (Sl.alloc_run rfl zero88) ?_; intro g w2 HSn HBn; clear HBn; replace HS := Go.Lib.hid HSn; clear HSn)
  go_loopw [4] (fun i wr => ∃ k : Nat, k ≤ 32 ∧ i = .int .i64 k ∧ St (SL.blk g 88 (nums .u32 (matTo 1 k)) :: l) w0 wr) (fun i _ => 32 - (intOf i).toNat)
  case atStart => exact ⟨0, Nat.zero_le _, rfl, by rw [matTo_none]; exact HS.out⟩
  case round =>
    clear HS
    obtain ⟨k, hk, rfl, hS⟩ := hrel
    have HS := Go.Lib.hid hS
    clear hS
    by_cases hlt : k < 32
    · have p0 : (0 ≤ (k : Int)) = True := eq_true (by omega)
      have p1 : ((k : Int) ≤ 32) = True := eq_true (by omega)
      have p2 : ((k : Int) < 32) = True := eq_true (by omega)
      obtain ⟨P, hP⟩ : ∃ P, P = 2 ^ k := ⟨_, rfl⟩
      have hp : P < 4294967296 := by rw [hP]; exact pow_lt hlt
      have e1 : IntKind.u32.wrap (2 ^ k) = (P : Int) := by
        have hb : (2 : Int) ^ k = ((2 ^ k : Nat) : Int) := by simp
        rw [hb, ← hP, IntKind.wrap_u32]
        omega
      have hml : k < (matTo 1 k).length := by rw [matTo_len hk]; exact hlt
      have hc := HS.out.cell 0 g 88 _ rfl k
      rw [nums_get k hml] at hc
      have hf := HS.out.free 0 g 88 _ rfl k
      have HP := Go.Lib.hid hP
      clear hP
      go_wp2_with ((with_reducible refine gate_store (p := 10) rfl ?_); refine Sl.store_st HS.out 0 g 88 _ rfl k (.int .u32 (P : Int)) (by rfl) (by rfl) (by first | (go_simp; done) | (go_simp; rfl)) ?_; intro w3 HSn; simp only [List.set_cons_zero, nums_set] at HSn; replace HS := Go.Lib.hid HSn; clear HSn hc hf)
      go_loopw [11] (fun i wr => ∃ j x : Nat, j ≤ 8 ∧ i = .int .i64 j ∧ x < 4294967296 ∧ stps (8 - j) x = stps 8 P ∧ St (SL.blk g 88 (nums .u32 ((matTo 1 k).set k x)) :: l) w0 wr) (fun i _ => 8 - (intOf i).toNat)
      case atStart => exact ⟨0, P, Nat.zero_le _, rfl, hp, rfl, HS.out⟩
      case round =>
        clear HS e1
        obtain ⟨j, x, hj, rfl, hx, hr, hS⟩ := hrel
        have HS := Go.Lib.hid hS
        have HR := Go.Lib.hid hr
        clear hS hr
        by_cases hlj : j < 8
        · have p3 : decide ((j : Int) < 8) = true := by simp; omega
          have hc := HS.out.cell 0 g 88 _ rfl k
          rw [set_at k x hml] at hc
          have hf := HS.out.free 0 g 88 _ rfl k
          have a1 : Go.bits .and .u32 (x : Int) 1 = ((x % 2 : Nat) : Int) := and1 hx
          have hr2 : stps (8 - (j + 1)) (stp x) = stps 8 P := by
            have := HR.out
            rw [show 8 - j = (8 - (j + 1)) + 1 by omega] at this
            exact this
          have HR2 := Go.Lib.hid hr2
          clear hr2
          have hw : wrap64 ((j : Int) + 1) = ((j + 1 : Nat) : Int) := by unfold wrap64; omega
          by_cases hod : x % 2 = 1
          · have ho : ((x : Int) % 2 == 1) = true := by rw [beq_iff_eq]; omega
            have x2 : Go.bits .xor .u32 ((x : Int) / 2) 3988292384 = ((stp x : Nat) : Int) := by
              unfold stp
              rw [if_pos hod, show ((x : Int) / 2) = ((x / 2 : Nat) : Int) by omega]
              exact Go.u32_xor_nat _ 3988292384 (by omega) (by decide)
            have hx3 := stp_lt hx
            go_wp2_with (first | ((with_reducible refine gate_store (p := 21) rfl ?_); refine Sl.store_st HS.out 0 g 88 _ rfl k (.int .u32 ((x / 2 : Nat) : Int)) (by rfl) (by rfl) (by first | (go_simp; done) | (go_simp; rfl)) ?_; intro w4 HSn; simp only [List.set_cons_zero, set_set] at HSn; replace HS := Go.Lib.hid HSn; clear HSn hc hf; have hc := HS.out.cell 0 g 88 _ rfl k; rw [set_at k (x / 2) hml, Int.natCast_ediv] at hc; have hf := HS.out.free 0 g 88 _ rfl k) | ((with_reducible refine gate_store (p := 28) rfl ?_); refine Sl.store_st HS.out 0 g 88 _ rfl k (.int .u32 ((stp x : Nat) : Int)) (by rfl) (by rfl) (by first | (go_simp; done) | (go_simp; rfl)) ?_; intro w5 HSn; simp only [List.set_cons_zero, set_set] at HSn; replace HS := Go.Lib.hid HSn; clear HSn hc hf))
            go_roundw
            case rel => exact ⟨j + 1, stp x, by omega, rfl, hx3, HR2.out, HS.out⟩
            case measure => simp [intOf]; omega
          · have ho : ((x : Int) % 2 == 1) = false := by rw [beq_eq_false_iff_ne]; omega
            have hx4 : stp x = x / 2 := by unfold stp; rw [if_neg hod]
            go_wp2_with ((with_reducible refine gate_store (p := 21) rfl ?_); refine Sl.store_st HS.out 0 g 88 _ rfl k (.int .u32 ((x / 2 : Nat) : Int)) (by rfl) (by rfl) (by first | (go_simp; done) | (go_simp; rfl)) ?_; intro w4 HSn; simp only [List.set_cons_zero, set_set] at HSn; replace HS := Go.Lib.hid HSn; clear HSn hc hf; have hc := HS.out.cell 0 g 88 _ rfl k; rw [set_at k (x / 2) hml, Int.natCast_ediv] at hc; have hf := HS.out.free 0 g 88 _ rfl k)
            go_roundw
            case rel => exact ⟨j + 1, x / 2, by omega, rfl, by omega, by rw [← hx4]; exact HR2.out, HS.out⟩
            case measure => simp [intOf]; omega
        · obtain rfl : j = 8 := by omega
          have hx5 : x = nul 1 (2 ^ k) := by rw [← HP.out]; exact HR.out
          rw [hx5, matTo_set hlt] at HS
          clear hx5
          have hw : wrap64 ((k : Int) + 1) = ((k + 1 : Nat) : Int) := by unfold wrap64; omega
          go_wp2_with fail
          go_roundw
          case rel => exact ⟨k + 1, by omega, rfl, HS.out⟩
          case measure => simp [intOf]; omega
    · obtain rfl : k = 32 := by omega
      rw [matTo_all] at HS
      go_wp2_with fail
      go_ret
      exact ⟨_, rfl, HS.out⟩
end Go.Proofs.Ytomhhaaogenedaa.Crc
