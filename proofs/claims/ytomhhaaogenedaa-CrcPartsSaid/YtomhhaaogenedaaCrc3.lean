/- CrcParts, walked. -/
import Derived.Test.YtomhhaaogenedaaCrc2
import Derived.Test.YtomhhaaogenedaaOst
namespace Go.Proofs.Ytomhhaaogenedaa.Crc
open Go.RowKit Go.Proofs.YtomhhaaogenedaaW.PrintWords Go.Proofs.YtomhhaaogenedaaW.PrintLast Go.Proofs.YtomhhaaogenedaaW.PrintMore Go.Proofs.Ytomhhaaogenedaa.Mine
open Go.Proofs.Ytomhhaaogenedaa.Sl (SL Stp Chg St No nums nums_size nums_one nums_set nums_get)
set_option linter.unusedVariables false
set_option linter.unusedSimpArgs false
attribute [local go_sem] max2_int min2_int max_two min_two max_three min_three max_four min_four
variable {l : List SL} {w0 w : World} {g v : Nat} {n : Int}
/-- A hash of a text. -/
def hof (s : ByteArray) : Array Value := hsh (reg 4294967295 (bys s)) (s.size : Int)
theorem bys_app (s t : ByteArray) : bys (s ++ t) = bys s ++ bys t := by unfold bys; simp [ByteArray.data_append]
theorem new_all (h : St l w0 w) : Calls Try.prog 30 #[] w fun e w' => ∃ g, e = .returned (.pointer (some ⟨g, 0, none⟩)) ∧ St (SL.blk g 80 (hof ⟨#[]⟩) :: l) w0 w' := new_is h
theorem reg_all (s : ByteArray) : reg 4294967295 (bys s) < 4294967296 := reg_lt _ (by decide) (bys_lt s)
theorem write_all (h : St l w0 w) (k : Nat) {s : ByteArray} (e : l[k]? = some (SL.blk g 80 (hof s))) (t : ByteArray) (hs : s.size + t.size ≤ 1000000) : Calls Try.prog 31 #[.pointer (some ⟨g, 0, none⟩), .string t] w fun e w' => e = .returned (.tuple #[]) ∧ St (l.set k (SL.blk g 80 (hof (s ++ t)))) w0 w' := by
  have := write_st h k e t (by omega) (reg_all s) (by omega) (by omega)
  unfold hof
  rw [bys_app, reg_append, ByteArray.size_append, Int.natCast_add]
  exact this
theorem sum_all (h : St l w0 w) (k : Nat) {s : ByteArray} (e : l[k]? = some (SL.blk g 80 (hof s))) : Calls Try.prog 32 #[.pointer (some ⟨g, 0, none⟩)] w fun e w' => e = .returned (.int .u32 ((sumOf s : Nat) : Int)) ∧ St l w0 w' := sum_st h k e (reg_all s)
theorem len_all (h : St l w0 w) (k : Nat) {s : ByteArray} (e : l[k]? = some (SL.blk g 80 (hof s))) : Calls Try.prog 33 #[.pointer (some ⟨g, 0, none⟩)] w fun e w' => e = .returned (.int .i64 (s.size : Int)) ∧ St l w0 w' := len_st h k e
set_option maxHeartbeats 1600000 in
set_option maxRecDepth 100000 in
theorem crcParts_walk (w : World) (A : Option Addr) (n c : Nat) (xs : List ByteArray) (hr : n ≤ c ∧ Kd.string.C w A n xs ∧ ∀ z ∈ xs, z.size ≤ maxLen) : Calls Try.prog 7 #[.slice A n c] w fun e w' => e = .returned (.bool true) ∧ Below w.heap.size w w' := by
  have hC := Go.Lib.hid hr.2.1
  clear hr
  have HS := Go.Lib.hid (St.start w)
  by_cases h1 : (20 : Int) < (n : Int)
  · have h1' : decide ((20 : Int) < (n : Int)) = true := by simpa using h1
    clear h1
    go_enter Try.func7, Try.ntmps7
    go_wp2_with (go_at_call 27; refine (awake_st HS.out).mono ?_; rintro e w3 ⟨rfl, HSn⟩; replace HS := Go.Lib.hid HSn; clear HSn)
    go_ret
    exact ⟨rfl, HS.out.below⟩
  have h1' : decide ((20 : Int) < (n : Int)) = false := by simpa using h1
  have hn : n ≤ 20 := by omega
  clear h1
  go_enter Try.func7, Try.ntmps7
  go_wp2_with (go_at_call 30; refine (new_all HS.out).mono ?_; rintro e w2 ⟨g, rfl, HSn⟩; replace HS := Go.Lib.hid HSn; clear HSn)
  go_loopw [4, 16] (fun a i wr => ∃ (k : Nat) (s : ByteArray), k ≤ n ∧ a = .string s ∧ i = .int .i64 k ∧ s.size ≤ 200 * k ∧ St [SL.blk g 80 (hof s)] w wr) (fun _ i _ => n - (intOf i).toNat)
  case atStart => exact ⟨0, ⟨#[]⟩, Nat.zero_le _, rfl, rfl, Nat.le_refl _, HS.out⟩
  case round =>
    clear HS
    obtain ⟨k, s, hk, rfl, rfl, hss, hS⟩ := hrel
    have HS := Go.Lib.hid hS
    clear hS
    by_cases hlt : k < n
    · obtain ⟨ad, rfl, g0⟩ := Kd.at_string (HS.out.C hC.out) (k : Int) (by omega) (by omega)
      generalize rdOf ByteArray.empty xs (k : Int) = x at *
      rw [Int.toNat_natCast] at g0
      by_cases h2 : (200 : Int) < (x.size : Int)
      · have h2' : decide ((200 : Int) < (x.size : Int)) = true := by simpa using h2
        clear h2
        go_wp2_with (go_at_call 27; refine (awake_st HS.out).mono ?_; rintro e w3 ⟨rfl, HSn⟩; replace HS := Go.Lib.hid HSn; clear HSn)
        go_ret
        exact ⟨rfl, HS.out.below⟩
      · have h2' : decide ((200 : Int) < (x.size : Int)) = false := by simpa using h2
        have hx : s.size + x.size ≤ 1000000 := by omega
        have hy : (s ++ x).size ≤ 200 * (k + 1) := by rw [ByteArray.size_append]; omega
        have hz : (s ++ x).size ≤ 1000000 := by rw [ByteArray.size_append]; omega
        clear h2
        go_wp2_with (first | (go_at_call 31; refine (write_all HS.out 0 rfl x hx).mono ?_; rintro e w3 ⟨rfl, HSn⟩; replace HS := Go.Lib.hid HSn; clear HSn) | (go_at_call 32; refine (sum_all HS.out 0 rfl).mono ?_; rintro e w4 ⟨rfl, HSn⟩; replace HS := Go.Lib.hid HSn; clear HSn) | (go_at_call 29; refine (ref_st HS.out (s ++ x) hz).mono ?_; rintro e w5 ⟨rfl, HSn⟩; replace HS := Go.Lib.hid HSn; clear HSn) | (go_at_call 33; refine (len_all HS.out 0 rfl).mono ?_; rintro e w6 ⟨rfl, HSn⟩; replace HS := Go.Lib.hid HSn; clear HSn))
        go_roundw
        case rel => exact ⟨k + 1, s ++ x, by omega, rfl, by go_num, hy, HS.out⟩
        case measure => simp [intOf]; omega
    · go_wp2_with (go_at_call 27; refine (awake_st HS.out).mono ?_; rintro e w3 ⟨rfl, HSn⟩; replace HS := Go.Lib.hid HSn; clear HSn)
      go_ret
      exact ⟨rfl, HS.out.below⟩
end Go.Proofs.Ytomhhaaogenedaa.Crc
