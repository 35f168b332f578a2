/- What is written into a hash; a text's sum. -/
import Derived.Test.YtomhhaaogenedaaCrc1
namespace Go.Proofs.Ytomhhaaogenedaa.Crc
open Go.RowKit Go.Proofs.YtomhhaaogenedaaW.PrintWords Go.Proofs.YtomhhaaogenedaaW.PrintLast Go.Proofs.YtomhhaaogenedaaW.PrintMore Go.Proofs.Ytomhhaaogenedaa.Mine
open Go.Proofs.Ytomhhaaogenedaa.Sl (SL Stp Chg St No nums nums_size nums_one nums_set nums_get)
set_option linter.unusedVariables false
set_option linter.unusedSimpArgs false
attribute [local go_sem] max2_int min2_int max_two min_two max_three min_three max_four min_four
variable {l : List SL} {w0 w : World} {g v : Nat} {n : Int}
theorem eight' (v b : Nat) (h : b < 256) : stps 8 (v % 256 ^^^ b) ^^^ v / 256 = stps 8 (v ^^^ b) := (eight v b).symm
theorem low_lt {v b : Nat} (h : b < 256) : v % 256 ^^^ b < 256 := Nat.xor_lt_two_pow (n := 8) (Nat.mod_lt _ (by decide)) h
set_option maxHeartbeats 6400000 in
set_option maxRecDepth 100000 in
theorem write_hd {vA : Nat} (h : St (SL.blk g 80 (hsh vA n) :: l) w0 w) (s : ByteArray) (hs : s.size ≤ 1000000) (hv : vA < 4294967296) (hn0 : 0 ≤ n) (hn1 : n ≤ 1000000) : Calls Try.prog 31 #[.pointer (some ⟨g, 0, none⟩), .string s] w fun e w' => e = .returned (.tuple #[]) ∧ St (SL.blk g 80 (hsh (reg vA (bys s)) (n + s.size)) :: l) w0 w' := by
  have HS := Go.Lib.hid h
  clear h
  go_enter Try.func31, Try.ntmps31
  go_wp2_with fail
  go_loopw [7] (fun i wr => ∃ (k v : Nat), k ≤ s.size ∧ i = .int .i64 k ∧ v < 4294967296 ∧ reg v ((bys s).drop k) = reg vA (bys s) ∧ St (SL.blk g 80 (hsh v n) :: l) w0 wr) (fun i _ => s.size - (intOf i).toNat)
  case atStart => exact ⟨0, vA, Nat.zero_le _, rfl, hv, rfl, HS.out⟩
  case round =>
    clear HS
    obtain ⟨k, v, hk, rfl, hv2, hr, hS⟩ := hrel
    have HR := Go.Lib.hid hr
    have HS := Go.Lib.hid hS
    clear hS hr hv
    by_cases hlt : k < s.size
    · have hlt' : decide ((k : Int) < (s.size : Int)) = true := by simp; omega
      obtain ⟨b, hb⟩ : ∃ b, b = (bys s)[k]'(by rw [bys_len]; exact hlt) := ⟨_, rfl⟩
      have hb1 : b < 256 := by rw [hb]; exact bys_lt s _ (List.getElem_mem _)
      have hr2 : reg (stps 8 (v ^^^ b)) ((bys s).drop (k + 1)) = reg v ((bys s).drop k) := by rw [hb, ← reg_cons, ← List.drop_eq_getElem_cons]
      rw [HR.out] at hr2
      have HR2 := Go.Lib.hid hr2
      have hx4 : ((s[k]'hlt).toNat : Int) = (b : Int) := by
        have e4 : bt s (k : Int) = (b : Int) := by rw [bt_bys s k hlt, hb]
        rw [← bt_at s (k : Int) (by simpa using hlt)] at e4
        simpa using e4
      have p4 : (0 ≤ (k : Int)) = True := eq_true (by omega)
      have q4 : ((k : Int) < (s.size : Int)) = True := eq_true (by omega)
      obtain ⟨i0, hi0⟩ : ∃ i, i = v % 256 ^^^ b := ⟨_, rfl⟩
      have x0 : IntKind.u8.wrap (v : Int) = (v : Int) % 256 := IntKind.wrap_u8 _
      have x2 : Go.bits .xor .u8 ((v : Int) % 256) (b : Int) = (i0 : Int) := by rw [hi0, show (v : Int) % 256 = ((v % 256 : Nat) : Int) by omega]; exact Go.u8_xor_nat _ b (by omega) hb1
      have x3 : i0 < 256 := by rw [hi0]; exact low_lt hb1
      have x3a : (0 ≤ (i0 : Int)) = True := eq_true (by omega)
      have x3b : ((i0 : Int) < 256) = True := eq_true (by omega)
      have x5 : Go.bits .xor .u32 ((stps 8 i0 : Nat) : Int) ((v : Int) / 256) = ((stps 8 (v ^^^ b) : Nat) : Int) := by
        rw [show ((v : Int) / 256) = ((v / 256 : Nat) : Int) by omega, Go.u32_xor_nat _ _ (stps_lt 8 (by omega)) (by omega), hi0, eight' v b hb1]
      clear hb hr2 hi0
      have s0 := HS.out.cell 0 g 80 _ rfl 256
      rw [hsh_v] at s0
      have s1 := HS.out.cell 0 g 80 _ rfl i0
      rw [hsh_lt _ _ _ x3] at s1
      have hv3 : stps 8 (v ^^^ b) < 4294967296 := stps_lt 8 (xor_lt hv2 (by omega))
      go_wp2_with fail
      replace HS := Go.Lib.hid HS.out.drew
      refine start_ (n := 24) (S := fun w' => w'.cell? ⟨g, 256, none⟩ = some (.int .u32 (v : Int)) ∧ w'.cell? ⟨g, i0, none⟩ = some (.int .u32 ((stps 8 i0 : Nat) : Int))) (ds := [23]) #[false, false, false, false, false, false, false, false, false, false, false, false, false, false, false, false, false, false, false, false, false, false, false, false] (by kernel_rfl) rfl rfl ⟨s0, s1⟩ (fun hHeld => ?_)
      generalize wr.drew = W_ at *
      refine pure_ (i := 0) (N := some 10) (v := ?_) (a' := ?_) #[true, false, false, false, false, false, false, false, false, false, false, false, false, false, false, false, false, false, false, false, false, false, false, false] rfl rfl (by kernel_rfl) (fun _ _ _ h => h) (Or.inl ⟨by rfl, ?_⟩) ?_ ?_
      rotate_left
      · intro w'
        go_simp
        with_reducible rfl
      rotate_left
      · simp only [Act.put, List.setIfInBounds_toArray, List.set_cons_zero, List.set_cons_succ, i64_w, i32_w]
        rfl
      refine pure_ (i := 1) (N := some 11) (v := ?_) (a' := ?_) #[true, true, false, false, false, false, false, false, false, false, false, false, false, false, false, false, false, false, false, false, false, false, false, false] rfl rfl (by kernel_rfl) (fun _ _ _ h => h) (Or.inl ⟨by rfl, ?_⟩) ?_ ?_
      rotate_left
      · intro w'
        go_simp
        with_reducible rfl
      rotate_left
      · simp only [Act.put, List.setIfInBounds_toArray, List.set_cons_zero, List.set_cons_succ, i64_w, i32_w]
        rfl
      refine pure_ (i := 2) (N := some 12) (v := ?_) (a' := ?_) #[true, true, true, false, false, false, false, false, false, false, false, false, false, false, false, false, false, false, false, false, false, false, false, false] rfl rfl (by kernel_rfl) (fun _ _ _ h => h) (Or.inl ⟨by rfl, ?_⟩) ?_ ?_
      rotate_left
      · intro w'
        go_simp
        with_reducible rfl
      rotate_left
      · simp only [Act.put, List.setIfInBounds_toArray, List.set_cons_zero, List.set_cons_succ, i64_w, i32_w]
        rfl
      refine pure_ (i := 3) (N := some 13) (v := ?_) (a' := ?_) #[true, true, true, true, false, false, false, false, false, false, false, false, false, false, false, false, false, false, false, false, false, false, false, false] rfl rfl (by kernel_rfl) (fun _ _ _ h => h) (Or.inl ⟨by rfl, ?_⟩) ?_ ?_
      rotate_left
      · intro w'
        go_simp
        with_reducible rfl
      rotate_left
      · simp only [Act.put, List.setIfInBounds_toArray, List.set_cons_zero, List.set_cons_succ, i64_w, i32_w]
        rfl
      refine pure_ (i := 4) (N := some 14) (v := ?_) (a' := ?_) #[true, true, true, true, true, false, false, false, false, false, false, false, false, false, false, false, false, false, false, false, false, false, false, false] rfl rfl (by kernel_rfl) (fun _ _ _ h => h) (Or.inl ⟨by rfl, ?_⟩) ?_ ?_
      rotate_left
      · intro w'
        go_simp
        with_reducible rfl
      rotate_left
      · simp only [Act.put, List.setIfInBounds_toArray, List.set_cons_zero, List.set_cons_succ, i64_w, i32_w]
        rfl
      refine pure_ (i := 7) (N := some 17) (v := ?_) (a' := ?_) #[true, true, true, true, true, false, false, true, false, false, false, false, false, false, false, false, false, false, false, false, false, false, false, false] rfl rfl (by kernel_rfl) (fun _ _ _ h => h) (Or.inl ⟨by rfl, ?_⟩) ?_ ?_
      rotate_left
      · intro w'
        go_simp
        with_reducible rfl
      rotate_left
      · simp only [Act.put, List.setIfInBounds_toArray, List.set_cons_zero, List.set_cons_succ, i64_w, i32_w]
        rfl
      refine pure_ (i := 8) (N := some 18) (v := ?_) (a' := ?_) #[true, true, true, true, true, false, false, true, true, false, false, false, false, false, false, false, false, false, false, false, false, false, false, false] rfl rfl (by kernel_rfl) (fun _ _ _ h => h) (Or.inl ⟨by rfl, ?_⟩) ?_ ?_
      rotate_left
      · intro w'
        go_simp
        with_reducible rfl
      rotate_left
      · simp only [Act.put, List.setIfInBounds_toArray, List.set_cons_zero, List.set_cons_succ, i64_w, i32_w]
        rfl
      refine pure_ (i := 9) (N := some 19) (v := ?_) (a' := ?_) #[true, true, true, true, true, false, false, true, true, true, false, false, false, false, false, false, false, false, false, false, false, false, false, false] rfl rfl (by kernel_rfl) (fun _ _ _ h => h) (Or.inl ⟨by rfl, ?_⟩) ?_ ?_
      rotate_left
      · intro w'
        go_simp
        with_reducible rfl
      rotate_left
      · simp only [Act.put, List.setIfInBounds_toArray, List.set_cons_zero, List.set_cons_succ, i64_w, i32_w]
        rfl
      refine pure_ (i := 11) (N := some 21) (v := ?_) (a' := ?_) #[true, true, true, true, true, false, false, true, true, true, false, true, false, false, false, false, false, false, false, false, false, false, false, false] rfl rfl (by kernel_rfl) (fun _ _ _ h => h) (Or.inl ⟨by rfl, ?_⟩) ?_ ?_
      rotate_left
      · intro w'
        go_simp
        with_reducible rfl
      rotate_left
      · simp only [Act.put, List.setIfInBounds_toArray, List.set_cons_zero, List.set_cons_succ, i64_w, i32_w]
        rfl
      refine pure_ (i := 12) (N := some 22) (v := ?_) (a' := ?_) #[true, true, true, true, true, false, false, true, true, true, false, true, true, false, false, false, false, false, false, false, false, false, false, false] rfl rfl (by kernel_rfl) (fun _ _ _ h => h) (Or.inl ⟨by rfl, ?_⟩) ?_ ?_
      rotate_left
      · intro w'
        go_simp
        with_reducible rfl
      rotate_left
      · simp only [Act.put, List.setIfInBounds_toArray, List.set_cons_zero, List.set_cons_succ, i64_w, i32_w]
        rfl
      refine pure_ (i := 15) (N := some 25) (v := ?_) (a' := ?_) #[true, true, true, true, true, false, false, true, true, true, false, true, true, false, false, true, false, false, false, false, false, false, false, false] rfl rfl (by kernel_rfl) (fun _ _ _ h => h) (Or.inl ⟨by rfl, ?_⟩) ?_ ?_
      rotate_left
      · intro w'
        go_simp
        with_reducible rfl
      rotate_left
      · simp only [Act.put, List.setIfInBounds_toArray, List.set_cons_zero, List.set_cons_succ, i64_w, i32_w]
        rfl
      refine pure_ (i := 16) (N := some 26) (v := ?_) (a' := ?_) #[true, true, true, true, true, false, false, true, true, true, false, true, true, false, false, true, true, false, false, false, false, false, false, false] rfl rfl (by kernel_rfl) (fun _ _ _ h => h) (Or.inl ⟨by rfl, ?_⟩) ?_ ?_
      rotate_left
      · intro w'
        go_simp
        with_reducible rfl
      rotate_left
      · simp only [Act.put, List.setIfInBounds_toArray, List.set_cons_zero, List.set_cons_succ, i64_w, i32_w]
        rfl
      refine pure_ (i := 17) (N := some 27) (v := ?_) (a' := ?_) #[true, true, true, true, true, false, false, true, true, true, false, true, true, false, false, true, true, true, false, false, false, false, false, false] rfl rfl (by kernel_rfl) (fun _ _ _ h => h) (Or.inl ⟨by rfl, ?_⟩) ?_ ?_
      rotate_left
      · intro w'
        go_simp
        with_reducible rfl
      rotate_left
      · simp only [Act.put, List.setIfInBounds_toArray, List.set_cons_zero, List.set_cons_succ, i64_w, i32_w]
        rfl
      refine take_ (i := 5) (N := some 15) (v := ?_) (a' := ?_) #[true, true, true, true, true, true, false, true, true, true, false, true, true, false, false, true, true, true, false, false, false, false, false, false] rfl rfl (by kernel_rfl) (fun _ _ _ h => h) (Or.inl ⟨by rfl, ?_⟩) hHeld ?_ ?_
      rotate_left
      · rintro w' ⟨s0, s1⟩
        go_simp
        with_reducible rfl
      rotate_left
      · simp only [Act.put, List.setIfInBounds_toArray, List.set_cons_zero, List.set_cons_succ, i64_w, i32_w]
        rfl
      refine pure_ (i := 6) (N := some 16) (v := ?_) (a' := ?_) #[true, true, true, true, true, true, true, true, true, true, false, true, true, false, false, true, true, true, false, false, false, false, false, false] rfl rfl (by kernel_rfl) (fun _ _ _ h => h) (Or.inl ⟨by rfl, ?_⟩) ?_ ?_
      rotate_left
      · intro w'
        go_simp
        with_reducible rfl
      rotate_left
      · simp only [Act.put, List.setIfInBounds_toArray, List.set_cons_zero, List.set_cons_succ, i64_w, i32_w]
        rfl
      refine pure_ (i := 10) (N := some 20) (v := ?_) (a' := ?_) #[true, true, true, true, true, true, true, true, true, true, true, true, true, false, false, true, true, true, false, false, false, false, false, false] rfl rfl (by kernel_rfl) (fun _ _ _ h => h) (Or.inl ⟨by rfl, ?_⟩) ?_ ?_
      rotate_left
      · intro w'
        go_simp
        with_reducible rfl
      rotate_left
      · simp only [Act.put, List.setIfInBounds_toArray, List.set_cons_zero, List.set_cons_succ, i64_w, i32_w]
        rfl
      refine pure_ (i := 13) (N := some 23) (v := ?_) (a' := ?_) #[true, true, true, true, true, true, true, true, true, true, true, true, true, true, false, true, true, true, false, false, false, false, false, false] rfl rfl (by kernel_rfl) (fun _ _ _ h => h) (Or.inl ⟨by rfl, ?_⟩) ?_ ?_
      rotate_left
      · intro w'
        go_simp
        with_reducible rfl
      rotate_left
      · simp only [Act.put, List.setIfInBounds_toArray, List.set_cons_zero, List.set_cons_succ, i64_w, i32_w]
        rfl
      refine take_ (i := 14) (N := some 24) (v := ?_) (a' := ?_) #[true, true, true, true, true, true, true, true, true, true, true, true, true, true, true, true, true, true, false, false, false, false, false, false] rfl rfl (by kernel_rfl) (fun _ _ _ h => h) (Or.inl ⟨by rfl, ?_⟩) hHeld ?_ ?_
      rotate_left
      · rintro w' ⟨s0, s1⟩
        go_simp
        with_reducible rfl
      rotate_left
      · simp only [Act.put, List.setIfInBounds_toArray, List.set_cons_zero, List.set_cons_succ, i64_w, i32_w]
        rfl
      refine take_ (i := 18) (N := some 28) (v := ?_) (a' := ?_) #[true, true, true, true, true, true, true, true, true, true, true, true, true, true, true, true, true, true, true, false, false, false, false, false] rfl rfl (by kernel_rfl) (fun _ _ _ h => h) (Or.inl ⟨by rfl, ?_⟩) hHeld ?_ ?_
      rotate_left
      · rintro w' ⟨s0, s1⟩
        go_simp
        with_reducible rfl
      rotate_left
      · simp only [Act.put, List.setIfInBounds_toArray, List.set_cons_zero, List.set_cons_succ, i64_w, i32_w]
        rfl
      refine pure_ (i := 19) (N := some 29) (v := ?_) (a' := ?_) #[true, true, true, true, true, true, true, true, true, true, true, true, true, true, true, true, true, true, true, true, false, false, false, false] rfl rfl (by kernel_rfl) (fun _ _ _ h => h) (Or.inl ⟨by rfl, ?_⟩) ?_ ?_
      rotate_left
      · intro w'
        go_simp
        with_reducible rfl
      rotate_left
      · simp only [Act.put, List.setIfInBounds_toArray, List.set_cons_zero, List.set_cons_succ, i64_w, i32_w]
        rfl
      refine pure_ (i := 20) (N := some 30) (v := ?_) (a' := ?_) #[true, true, true, true, true, true, true, true, true, true, true, true, true, true, true, true, true, true, true, true, true, false, false, false] rfl rfl (by kernel_rfl) (fun _ _ _ h => h) (Or.inl ⟨by rfl, ?_⟩) ?_ ?_
      rotate_left
      · intro w'
        go_simp
        with_reducible rfl
      rotate_left
      · simp only [Act.put, List.setIfInBounds_toArray, List.set_cons_zero, List.set_cons_succ, i64_w, i32_w]
        rfl
      refine pure_ (i := 21) (N := some 31) (v := ?_) (a' := ?_) #[true, true, true, true, true, true, true, true, true, true, true, true, true, true, true, true, true, true, true, true, true, true, false, false] rfl rfl (by kernel_rfl) (fun _ _ _ h => h) (Or.inl ⟨by rfl, ?_⟩) ?_ ?_
      rotate_left
      · intro w'
        go_simp
        with_reducible rfl
      rotate_left
      · simp only [Act.put, List.setIfInBounds_toArray, List.set_cons_zero, List.set_cons_succ, i64_w, i32_w]
        rfl
      refine pure_ (i := 22) (N := some 32) (v := ?_) (a' := ?_) #[true, true, true, true, true, true, true, true, true, true, true, true, true, true, true, true, true, true, true, true, true, true, true, false] rfl rfl (by kernel_rfl) (fun _ _ _ h => h) (Or.inl ⟨by rfl, ?_⟩) ?_ ?_
      rotate_left
      · intro w'
        go_simp
        with_reducible rfl
      rotate_left
      · simp only [Act.put, List.setIfInBounds_toArray, List.set_cons_zero, List.set_cons_succ, i64_w, i32_w]
        rfl
      refine last_ (i := 23) (N := none) #[true, true, true, true, true, true, true, true, true, true, true, true, true, true, true, true, true, true, true, true, true, true, true, true] rfl rfl (by kernel_rfl) (by decide) (fun K hK => ?_)
      have f0_ := HS.out.free 0 g 80 _ rfl 256
      have s0 := HS.out.cell 0 g 80 _ rfl 256
      rw [hsh_v] at s0
      refine Sl.store_stp HS.out 0 g 80 _ rfl 256 (.int .u32 ((stps 8 (v ^^^ b) : Nat) : Int)) (by rfl) rfl (by first | (go_simp; done) | (go_simp; rfl)) ?_
      intro w12_ HSm
      refine hK.out _ _ ?_
      clear hK K
      refine done_ (by kernel_rfl) ?_
      simp only [List.set_cons_zero, hsh_set_v] at HSm
      replace HS := Go.Lib.hid HSm
      clear HSm s0 s1 x0 x2 x3a x3b x5 hx4 p4 q4
      have hw : wrap64 ((k : Int) + 1) = ((k + 1 : Nat) : Int) := by unfold wrap64; omega
      go_wp2_with fail
      go_roundw
      case rel => exact ⟨k + 1, _, by omega, rfl, hv3, HR2.out, HS.out⟩
      case measure => simp [intOf]; omega
    · obtain rfl : k = s.size := by omega
      have hr3 := HR.out
      rw [List.drop_of_length_le (by rw [bys_len]; omega)] at hr3
      have e5 : v = reg vA (bys s) := hr3
      have E5 := Go.Lib.hid e5
      clear e5 hr3 HR
      have hw : wrap64 (n + (s.size : Int)) = n + s.size := by unfold wrap64; omega
      have s0 := HS.out.cell 0 g 80 _ rfl 257
      rw [hsh_n] at s0
      have f0_ := HS.out.free 0 g 80 _ rfl 257
      go_wp2_with (first | ((with_reducible refine gate_store (p := 42) rfl ?_); refine Sl.store_st HS.out 0 g 80 _ rfl 257 (.int .i64 (n + s.size)) (by rfl) (by rfl) (by first | (go_simp; done) | (go_simp; rfl)) ?_; intro w3 HSn; simp only [List.set_cons_zero, hsh_set_n] at HSn; replace HS := Go.Lib.hid HSn; clear HSn s0 f0_))
      go_end0
      exact ⟨rfl, by rw [← E5.out]; exact HS.out⟩
theorem write_st (h : St l w0 w) (k : Nat) (e : l[k]? = some (SL.blk g 80 (hsh v n))) (s : ByteArray) (hs : s.size ≤ 1000000) (hv : v < 4294967296) (hn0 : 0 ≤ n) (hn1 : n ≤ 1000000) : Calls Try.prog 31 #[.pointer (some ⟨g, 0, none⟩), .string s] w fun e w' => e = .returned (.tuple #[]) ∧ St (l.set k (SL.blk g 80 (hsh (reg v (bys s)) (n + s.size)))) w0 w' :=
  (write_hd (h.front k _ e) s hs hv hn0 hn1).mono fun _ _ ⟨he, hS⟩ => ⟨he, St.back k (List.getElem?_eq_some_iff.1 e).1 hS⟩
set_option maxRecDepth 100000 in
theorem sum_st (h : St l w0 w) (k : Nat) (e : l[k]? = some (SL.blk g 80 (hsh v n))) (hv : v < 4294967296) : Calls Try.prog 32 #[.pointer (some ⟨g, 0, none⟩)] w fun e w' => e = .returned (.int .u32 ((4294967295 ^^^ v : Nat) : Int)) ∧ St l w0 w' := by
  have s0 := h.cell k g 80 _ e 256
  rw [hsh_v] at s0
  have x1 : Go.bits .xor .u32 IntKind.u32.max (v : Int) = ((4294967295 ^^^ v : Nat) : Int) := Go.u32_xor_nat 4294967295 v (by decide) hv
  generalize 4294967295 ^^^ v = z at *
  have HS := Go.Lib.hid h
  clear h e
  go_enter Try.func32, Try.ntmps32
  go_wp2_with fail
  go_ret
  exact ⟨rfl, HS.out⟩
set_option maxRecDepth 100000 in
theorem len_st (h : St l w0 w) (k : Nat) (e : l[k]? = some (SL.blk g 80 (hsh v n))) : Calls Try.prog 33 #[.pointer (some ⟨g, 0, none⟩)] w fun e w' => e = .returned (.int .i64 n) ∧ St l w0 w' := by
  have s0 := h.cell k g 80 _ e 257
  rw [hsh_n] at s0
  have HS := Go.Lib.hid h
  clear h e
  go_enter Try.func33, Try.ntmps33
  go_wp2_with fail
  go_ret
  exact ⟨rfl, HS.out⟩
set_option maxHeartbeats 1600000 in
set_option maxRecDepth 100000 in
theorem sumOf_st (h : St l w0 w) (s : ByteArray) (hs : s.size ≤ 1000000) : Calls Try.prog 28 #[.string s] w fun e w' => e = .returned (.int .u32 ((sumOf s : Nat) : Int)) ∧ St l w0 w' := by
  have hz : 4294967295 ^^^ reg 4294967295 (bys s) = sumOf s := rfl
  have HZ := Go.Lib.hid hz
  have hz2 : reg 4294967295 (bys s) < 4294967296 := reg_lt _ (by decide) (bys_lt s)
  have HS := Go.Lib.hid h
  clear h hz
  go_enter Try.func28, Try.ntmps28
  go_wp2_with (first | (go_at_call 30; refine (new_is HS.out).mono ?_; rintro e w2 ⟨g, rfl, HSn⟩; replace HS := Go.Lib.hid HSn; clear HSn) | (go_at_call 31; refine (write_st HS.out 0 rfl s hs (by decide) (by decide) (by decide)).mono ?_; rintro e w3 ⟨rfl, HSn⟩; replace HS := Go.Lib.hid HSn; clear HSn) | (go_at_call 32; refine (sum_st HS.out 0 rfl hz2).mono ?_; rintro e w4 ⟨rfl, HSn⟩; replace HS := Go.Lib.hid HSn; clear HSn))
  go_ret
  exact ⟨rfl, HS.out.drop⟩
theorem sum_nine : sumOf ⟨#[49, 50, 51, 52, 53, 54, 55, 56, 57]⟩ = 3421780262 := by kernel_rfl
theorem sum_none : sumOf ⟨#[]⟩ = 0 := by kernel_rfl
set_option maxHeartbeats 1600000 in
set_option maxRecDepth 100000 in
theorem awake_st (h : St l w0 w) : Calls Try.prog 27 #[] w fun e w' => e = .returned (.bool true) ∧ St l w0 w' := by
  have HS := Go.Lib.hid h
  clear h
  have a1 : ∀ (W : World), St l w0 W → Calls Try.prog 28 #[.string ⟨#[49, 50, 51, 52, 53, 54, 55, 56, 57]⟩] W fun e w' => e = .returned (.int .u32 3421780262) ∧ St l w0 w' := fun _ h => by have := sumOf_st h ⟨#[49, 50, 51, 52, 53, 54, 55, 56, 57]⟩ (by decide); rw [sum_nine] at this; exact this
  have a2 : ∀ (W : World), St l w0 W → Calls Try.prog 28 #[.string ⟨#[]⟩] W fun e w' => e = .returned (.int .u32 0) ∧ St l w0 w' := fun _ h => by have := sumOf_st h ⟨#[]⟩ (by decide); rw [sum_none] at this; exact this
  have A1 := Go.Lib.hid a1
  have A2 := Go.Lib.hid a2
  clear a1 a2
  go_enter Try.func27, Try.ntmps27
  go_wp2_with (first | (go_at_call 28; refine (A1.out _ HS.out).mono ?_; rintro e w2 ⟨rfl, HSn⟩; replace HS := Go.Lib.hid HSn; clear HSn) | (go_at_call 28; refine (A2.out _ HS.out).mono ?_; rintro e w3 ⟨rfl, HSn⟩; replace HS := Go.Lib.hid HSn; clear HSn))
  go_ret
  exact ⟨rfl, HS.out⟩
theorem ref_st (h : St l w0 w) (s : ByteArray) (hs : s.size ≤ 1000000) : Calls Try.prog 29 #[.string s] w fun e w' => e = .returned (.int .u32 ((sumOf s : Nat) : Int)) ∧ St l w0 w' :=
  (ref_is s hs w).mono fun _ _ ⟨he, hd⟩ => ⟨he, h.drawn hd⟩
set_option maxHeartbeats 1600000 in
set_option maxRecDepth 100000 in
theorem crcSums_walk (w : World) (s : ByteArray) (wf : s.size ≤ maxLen) : Calls Try.prog 6 #[.string s] w fun e w' => e = .returned (.bool true) ∧ Below w.heap.size w w' := by
  have HS := Go.Lib.hid (St.start w)
  by_cases h1 : (2000 : Int) < (s.size : Int)
  · have h1' : decide ((2000 : Int) < (s.size : Int)) = true := by simpa using h1
    clear h1 wf
    go_enter Try.func6, Try.ntmps6
    go_wp2_with (go_at_call 27; refine (awake_st HS.out).mono ?_; rintro e w3 ⟨rfl, HSn⟩; replace HS := Go.Lib.hid HSn; clear HSn)
    go_ret
    exact ⟨rfl, HS.out.below⟩
  · have h1' : decide ((2000 : Int) < (s.size : Int)) = false := by simpa using h1
    have hs : s.size ≤ 1000000 := by omega
    clear h1 wf
    go_enter Try.func6, Try.ntmps6
    go_wp2_with (first | (go_at_call 28; refine (sumOf_st HS.out s hs).mono ?_; rintro e w2 ⟨rfl, HSn⟩; replace HS := Go.Lib.hid HSn; clear HSn) | (go_at_call 29; refine (ref_st HS.out s hs).mono ?_; rintro e w3 ⟨rfl, HSn⟩; replace HS := Go.Lib.hid HSn; clear HSn) | (go_at_call 27; refine (awake_st HS.out).mono ?_; rintro e w4 ⟨rfl, HSn⟩; replace HS := Go.Lib.hid HSn; clear HSn))
    go_ret
    exact ⟨rfl, HS.out.below⟩
end Go.Proofs.Ytomhhaaogenedaa.Crc
