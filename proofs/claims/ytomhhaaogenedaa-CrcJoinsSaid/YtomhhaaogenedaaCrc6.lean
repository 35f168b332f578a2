/- A matrix done twice; the sum of two texts, one behind the other. -/
import Derived.Test.YtomhhaaogenedaaCrc5
namespace Go.Proofs.Ytomhhaaogenedaa.Crc
open Go.RowKit Go.Proofs.YtomhhaaogenedaaW.PrintWords Go.Proofs.YtomhhaaogenedaaW.PrintLast Go.Proofs.YtomhhaaogenedaaW.PrintMore Go.Proofs.Ytomhhaaogenedaa.Mine
open Go.Proofs.Ytomhhaaogenedaa.Sl (SL Stp Chg St No nums nums_size nums_one nums_set nums_get)
set_option linter.unusedVariables false
set_option linter.unusedSimpArgs false
attribute [local go_sem] max2_int min2_int max_two min_two max_three min_three max_four min_four
variable {l : List SL} {w0 w : World} {g v p : Nat} {n : Int}
set_option maxHeartbeats 6400000 in
set_option maxRecDepth 100000 in
theorem twice_hd (h : St (SL.blk g 88 (nums .u32 (mat p)) :: l) w0 w) : Calls Try.prog 64 #[.pointer (some ⟨g, 0, none⟩)] w fun e w' => ∃ g2, e = .returned (.pointer (some ⟨g2, 0, none⟩)) ∧ St (SL.blk g2 88 (nums .u32 (mat (p + p))) :: l) w0 w' := by
  have HS := Go.Lib.hid h
  clear h
  go_enter Try.func64, Try.ntmps64
  go_wp2_with ((with_reducible refine gate_dst (N := 3) rfl ?_); refine Sl.box_st HS.out (by rfl) (cs := nums .u32 (List.replicate 32 0)) (t := 88) (Sl.alloc_run rfl zero88) ?_; intro g2 w2 HSn HBn; clear HBn; replace HS := Go.Lib.hid HSn; clear HSn)
  go_loopw [5] (fun i wr => ∃ k : Nat, k ≤ 32 ∧ i = .int .i64 k ∧ St (SL.blk g2 88 (nums .u32 (matTo (p + p) k)) :: SL.blk g 88 (nums .u32 (mat p)) :: l) w0 wr) (fun i _ => 32 - (intOf i).toNat)
  case atStart => exact ⟨0, Nat.zero_le _, rfl, by rw [matTo_none]; exact HS.out⟩
  case round =>
    clear HS
    obtain ⟨k, hk, rfl, hS⟩ := hrel
    have HS := Go.Lib.hid hS
    clear hS
    by_cases hlt : k < 32
    · have p0 : (0 ≤ (k : Int)) = True := eq_true (by omega)
      have p2 : ((k : Int) < 32) = True := eq_true (by omega)
      have hml : k < (matTo (p + p) k).length := by rw [matTo_len hk]; exact hlt
      have hc := HS.out.cell 1 g 88 _ rfl k
      rw [mat_at p k hlt] at hc
      have hw : wrap64 ((k : Int) + 1) = ((k + 1 : Nat) : Int) := by unfold wrap64; omega
      have hn := nul_lt p (pow_lt hlt)
      have hm := matTo_set (p := p + p) hlt
      rw [nul_add] at hm
      have HM := Go.Lib.hid hm
      clear hm
      generalize nul p (2 ^ k) = y at *
      go_wp2_with (first | (go_at_call 63; refine (times_st HS.out 1 p rfl hn).mono ?_; rintro e w3_ ⟨rfl, HSn⟩; replace HS := Go.Lib.hid HSn; clear HSn hc; have hc := HS.out.cell 0 g2 88 _ rfl k; rw [nums_get k hml] at hc; have hf := HS.out.free 0 g2 88 _ rfl k) | ((with_reducible refine gate_store (p := 16) rfl ?_); refine Sl.store_st HS.out 0 g2 88 _ rfl k (.int .u32 ((nul p y : Nat) : Int)) (by rfl) (by rfl) (by first | (go_simp; done) | (go_simp; rfl)) ?_; intro w4 HSn; simp only [List.set_cons_zero, nums_set, HM.out] at HSn; replace HS := Go.Lib.hid HSn; clear HSn hc hf))
      go_roundw
      case rel => exact ⟨k + 1, by omega, rfl, HS.out⟩
      case measure => simp [intOf]; omega
    · obtain rfl : k = 32 := by omega
      rw [matTo_all] at HS
      go_wp2_with fail
      go_ret
      exact ⟨_, rfl, HS.out.erase 1⟩
theorem and_one {z : Int} (h0 : 0 ≤ z) (h1 : z ≤ 1000000) : Go.bits .and .i64 z 1 = z % 2 := by
  obtain ⟨m, rfl⟩ := Int.eq_ofNat_of_zero_le h0
  have hk : ∀ n : Int, 0 ≤ n → n < 2 ^ 63 → IntKind.i64.wrap n = n := fun n h0 h1 => by rw [IntKind.wrap_i64]; omega
  have := (bits_nat .i64 63 (by decide) hk m 1 (by omega) (by decide)).1
  rw [Nat.and_one_is_mod] at this
  exact this.trans (by omega)
set_option maxHeartbeats 6400000 in
set_option maxRecDepth 100000 in
theorem join_st (h : St l w0 w) (a b : Nat) (n : Int) (ha : a < 4294967296) (hb : b < 4294967296) (hn : n ≤ 1000000) (hn0 : -1000000 ≤ n) : Calls Try.prog 34 #[.int .u32 (a : Int), .int .u32 (b : Int), .int .i64 n] w fun e w' => e = .returned (.int .u32 ((nul n.toNat a ^^^ b : Nat) : Int)) ∧ St l w0 w' := by
  have HS := Go.Lib.hid h
  obtain ⟨T, hT⟩ : ∃ T, T = nul n.toNat a := ⟨_, rfl⟩
  have hTl : T < 4294967296 := by rw [hT]; exact nul_lt _ ha
  rw [← hT]
  have HT := Go.Lib.hid hT
  have xb : Go.bits .xor .u32 (T : Int) (b : Int) = ((T ^^^ b : Nat) : Int) := Go.u32_xor_nat _ _ hTl hb
  clear h hT
  go_enter Try.func34, Try.ntmps34
  go_wp2_with (go_at_call 62; refine (nought_is HS.out).mono ?_; rintro e w2 ⟨g, rfl, HSn⟩; replace HS := Go.Lib.hid HSn; clear HSn)
  go_loopw [0, 2, 7] (fun x i m wr => ∃ (a p : Nat) (z : Int) (g : Nat), x = .int .u32 (a : Int) ∧ i = .int .i64 z ∧ m = .pointer (some ⟨g, 0, none⟩) ∧ a < 4294967296 ∧ z ≤ 1000000 ∧ nul (z.toNat * p) a = T ∧ St (SL.blk g 88 (nums .u32 (mat p)) :: l) w0 wr) (fun _ i _ _ => (intOf i).toNat)
  case atStart => exact ⟨a, 1, n, g, rfl, rfl, rfl, ha, hn, by rw [Nat.mul_one, HT.out], HS.out⟩
  case round =>
    clear HS HT
    obtain ⟨a, p, z, g, rfl, rfl, rfl, ha, hz, hT, hS⟩ := hrel
    have HS := Go.Lib.hid hS
    have HT := Go.Lib.hid hT
    clear hS hT
    by_cases hlt : 0 < z
    · have p0 : decide (0 < z) = true := by simpa using hlt
      have a1 := and_one (z := z) (by omega) hz
      have hsh : IntKind.i64.wrap (z / 2) = z / 2 := by rw [IntKind.wrap_i64]; omega
      have hzn : z.toNat = 2 * (z / 2).toNat + (z % 2).toNat := by omega
      have ha2 := nul_lt p ha
      by_cases hod : z % 2 = 1
      · have ho : (z % 2 == 1) = true := by rw [beq_iff_eq]; exact hod
        have hN : nul ((z / 2).toNat * (p + p)) (nul p a) = T := by
          rw [← HT.out, ← nul_add]
          congr 1
          rw [hzn, hod]
          show p + (z / 2).toNat * (p + p) = (2 * (z / 2).toNat + 1) * p
          rw [Nat.add_mul, Nat.mul_add, Nat.mul_assoc, Nat.one_mul]
          omega
        have HN := Go.Lib.hid hN
        clear hN hzn
        go_wp2_with (first | (go_at_call 63; refine (times_st HS.out 0 p rfl ha).mono ?_; rintro e w3_ ⟨rfl, HSn⟩; replace HS := Go.Lib.hid HSn; clear HSn) | (go_at_call 64; refine (twice_hd HS.out).mono ?_; rintro e w4 ⟨g4, rfl, HSn⟩; replace HS := Go.Lib.hid HSn; clear HSn))
        go_roundw
        case rel => exact ⟨nul p a, p + p, z / 2, g4, rfl, rfl, rfl, ha2, by omega, HN.out, HS.out⟩
        case measure => simp [intOf]; omega
      · have ho : (z % 2 == 1) = false := by rw [beq_eq_false_iff_ne]; exact hod
        have hN : nul ((z / 2).toNat * (p + p)) a = T := by
          rw [← HT.out]
          congr 1
          rw [hzn, show (z % 2).toNat = 0 by omega, Nat.add_zero, Nat.mul_add, Nat.mul_assoc]
          omega
        have HN := Go.Lib.hid hN
        clear hN hzn
        go_wp2_with (go_at_call 64; refine (twice_hd HS.out).mono ?_; rintro e w4 ⟨g4, rfl, HSn⟩; replace HS := Go.Lib.hid HSn; clear HSn)
        go_roundw
        case rel => exact ⟨a, p + p, z / 2, g4, rfl, rfl, rfl, ha, by omega, HN.out, HS.out⟩
        case measure => simp [intOf]; omega
    · have p0 : decide (0 < z) = false := by simp; omega
      have hzz : z.toNat = 0 := by omega
      have hT2 := HT.out
      rw [hzz, Nat.zero_mul] at hT2
      have hT3 : a = T := hT2
      subst hT3
      go_wp2_with fail
      go_ret
      exact ⟨rfl, HS.out.drop⟩
theorem join_none (h : St l w0 w) (a : Nat) (n : Int) (ha : a < 4294967296) (hn : n ≤ 0) (hn0 : -1000000 ≤ n) : Calls Try.prog 34 #[.int .u32 (a : Int), .int .u32 0, .int .i64 n] w fun e w' => e = .returned (.int .u32 (a : Int)) ∧ St l w0 w' := by
  have := join_st h a 0 n ha (by decide) (by omega) hn0
  rw [show n.toNat = 0 by omega, Nat.xor_zero] at this
  exact this
theorem join_to (h : St l w0 w) (a b c : Nat) (n : Nat) (ha : a < 4294967296) (hb : b < 4294967296) (hn : n ≤ 1000000) (hc : nul n a ^^^ b = c) : Calls Try.prog 34 #[.int .u32 (a : Int), .int .u32 (b : Int), .int .i64 (n : Int)] w fun e w' => e = .returned (.int .u32 (c : Int)) ∧ St l w0 w' := by
  have := join_st h a b n ha hb (by omega) (by omega)
  rw [Int.toNat_natCast, hc] at this
  exact this
theorem joined (s t : ByteArray) : nul t.size (sumOf s) ^^^ sumOf t = sumOf (s ++ t) := by
  unfold sumOf
  have hb : bys (s ++ t) = bys s ++ bys t := by unfold bys; simp [ByteArray.data_append]
  rw [hb, joins (bys s) (bys t) (bys_lt s), bys_len, Nat.xor_comm]
theorem sumOf_lt (s : ByteArray) : sumOf s < 4294967296 := xor_lt (by decide) (reg_lt _ (by decide) (bys_lt s))
set_option maxHeartbeats 1600000 in
set_option maxRecDepth 100000 in
theorem crcJoins_walk (w : World) (s : ByteArray) (wf : s.size ≤ maxLen) (t : ByteArray) (wf2 : t.size ≤ maxLen) : Calls Try.prog 8 #[.string s, .string t] w fun e w' => e = .returned (.bool true) ∧ Below w.heap.size w w' := by
  have HS := Go.Lib.hid (St.start w)
  by_cases h1 : (1000 : Int) < (s.size : Int)
  · have h1' : decide ((1000 : Int) < (s.size : Int)) = true := by simpa using h1
    clear h1 wf wf2
    go_enter Try.func8, Try.ntmps8
    go_wp2_with (go_at_call 27; refine (awake_st HS.out).mono ?_; rintro e w3 ⟨rfl, HSn⟩; replace HS := Go.Lib.hid HSn; clear HSn)
    go_ret
    exact ⟨rfl, HS.out.below⟩
  have h1' : decide ((1000 : Int) < (s.size : Int)) = false := by simpa using h1
  have hs : s.size ≤ 1000 := by omega
  by_cases h2 : (1000 : Int) < (t.size : Int)
  · have h2' : decide ((1000 : Int) < (t.size : Int)) = true := by simpa using h2
    clear h1 h2 wf wf2
    go_enter Try.func8, Try.ntmps8
    go_wp2_with (go_at_call 27; refine (awake_st HS.out).mono ?_; rintro e w3 ⟨rfl, HSn⟩; replace HS := Go.Lib.hid HSn; clear HSn)
    go_ret
    exact ⟨rfl, HS.out.below⟩
  have h2' : decide ((1000 : Int) < (t.size : Int)) = false := by simpa using h2
  have ht : t.size ≤ 1000 := by omega
  clear h1 h2 wf wf2
  have hst : (s ++ t).size ≤ 1000000 := by rw [ByteArray.size_append]; omega
  have hw : wrap64 (-(t.size : Int)) = -(t.size : Int) := by unfold wrap64; omega
  have hj := joined s t
  have la := sumOf_lt s
  have lb := sumOf_lt t
  have s1 : ∀ (W : World), St [] w W → Calls Try.prog 28 #[.string s] W fun e w' => e = .returned (.int .u32 ((sumOf s : Nat) : Int)) ∧ St [] w w' := fun W h => sumOf_st h s (by omega)
  have s2 : ∀ (W : World), St [] w W → Calls Try.prog 28 #[.string t] W fun e w' => e = .returned (.int .u32 ((sumOf t : Nat) : Int)) ∧ St [] w w' := fun W h => sumOf_st h t (by omega)
  have s3 : ∀ (W : World), St [] w W → Calls Try.prog 29 #[.string s] W fun e w' => e = .returned (.int .u32 ((sumOf s : Nat) : Int)) ∧ St [] w w' := fun W h => ref_st h s (by omega)
  have s4 : ∀ (W : World), St [] w W → Calls Try.prog 29 #[.string (s ++ t)] W fun e w' => e = .returned (.int .u32 ((sumOf (s ++ t) : Nat) : Int)) ∧ St [] w w' := fun W h => ref_st h (s ++ t) hst
  generalize sumOf s = a at *
  generalize sumOf t = b at *
  generalize sumOf (s ++ t) = c at *
  have j1 : ∀ (W : World), St [] w W → Calls Try.prog 34 #[.int .u32 (a : Int), .int .u32 (b : Int), .int .i64 (t.size : Int)] W fun e w' => e = .returned (.int .u32 (c : Int)) ∧ St [] w w' := fun W h => join_to h a b c t.size la lb (by omega) hj
  have j2 : ∀ (W : World), St [] w W → Calls Try.prog 34 #[.int .u32 (a : Int), .int .u32 0, .int .i64 (-(t.size : Int))] W fun e w' => e = .returned (.int .u32 (a : Int)) ∧ St [] w w' := fun W h => join_none h a _ la (by omega) (by omega)
  have J1 := Go.Lib.hid j1
  have J2 := Go.Lib.hid j2
  have S1 := Go.Lib.hid s1
  have S2 := Go.Lib.hid s2
  have S3 := Go.Lib.hid s3
  have S4 := Go.Lib.hid s4
  clear j1 j2 s1 s2 s3 s4 hst hj
  go_enter Try.func8, Try.ntmps8
  go_wp2_with fail
  refine (S1.out _ HS.out).mono ?_
  rintro e w2 ⟨rfl, HSn⟩
  replace HS := Go.Lib.hid HSn
  clear HSn
  go_wp2_with fail
  refine (S2.out _ HS.out).mono ?_
  rintro e w2 ⟨rfl, HSn⟩
  replace HS := Go.Lib.hid HSn
  clear HSn
  go_wp2_with fail
  refine (J1.out _ HS.out).mono ?_
  rintro e w2 ⟨rfl, HSn⟩
  replace HS := Go.Lib.hid HSn
  clear HSn
  go_wp2_with fail
  refine (S4.out _ HS.out).mono ?_
  rintro e w2 ⟨rfl, HSn⟩
  replace HS := Go.Lib.hid HSn
  clear HSn
  go_wp2_with fail
  refine (S3.out _ HS.out).mono ?_
  rintro e w2 ⟨rfl, HSn⟩
  replace HS := Go.Lib.hid HSn
  clear HSn
  go_wp2_with fail
  refine (J2.out _ HS.out).mono ?_
  rintro e w2 ⟨rfl, HSn⟩
  replace HS := Go.Lib.hid HSn
  clear HSn
  go_wp2_with fail
  refine (S3.out _ HS.out).mono ?_
  rintro e w2 ⟨rfl, HSn⟩
  replace HS := Go.Lib.hid HSn
  clear HSn
  go_wp2_with fail
  refine (awake_st HS.out).mono ?_
  rintro e w2 ⟨rfl, HSn⟩
  replace HS := Go.Lib.hid HSn
  clear HSn
  go_wp2_with fail
  go_ret
  exact ⟨rfl, HS.out.below⟩
end Go.Proofs.Ytomhhaaogenedaa.Crc
