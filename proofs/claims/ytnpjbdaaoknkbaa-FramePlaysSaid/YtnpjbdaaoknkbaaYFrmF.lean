/- Rows of pointers: none is nil. -/
import Derived.Test.YtnpjbdaaoknkbaaYFrmE
namespace Go.Proofs.Ytnpjbdaaoknkbaa.Frm
open Go.RowKit Go.Proofs.YtnpjbdaaoknkbaaW.PrintWords Go.Proofs.YtnpjbdaaoknkbaaW.PrintLast Go.Proofs.YtnpjbdaaoknkbaaW.PrintMore Go.Proofs.Ytnpjbdaaoknkbaa.Mine Go.Proofs.Ytnpjbdaaoknkbaa.PTableFrames
open Go.Proofs.Ytnpjbdaaoknkbaa.Sl (SL Stp Chg St No wpc_seal wpc_round sealed)
set_option linter.unusedVariables false
set_option linter.unusedSimpArgs false
attribute [local go_sem] max2_int min2_int max_two min_two max_three min_three max_four min_four
attribute [local go_sem] Option.isNone_some
/-- Pointers to blocks. -/
abbrev KP : Kd Nat := Kd.scalar (fun n : Nat => Value.pointer (some ⟨n, 0, none⟩)) (fun _ => rfl)
theorem at_ptr {w : World} {A : Option Addr} {xs : List Nat} (h : KP.C w A xs.length xs) (k : Nat) (hk : k < xs.length) : ∃ ad, A = some ad ∧ w.cell? (ad.add k) = some (.pointer (some ⟨xs.getD k 0, 0, none⟩)) := by
 obtain ⟨ad, cs, rfl, _, hK, hc⟩ := Kd.C_get h 0 (k : Int) (by omega) (by omega)
 obtain rfl : cs = [.pointer (some ⟨xs.getD (k : Int).toNat 0, 0, none⟩)] := hK
 refine ⟨ad, rfl, ?_⟩
 have g := hc 0 _ rfl
 rw [Int.toNat_natCast, show k * KP.sz + 0 = k from Nat.mul_one k] at g
 exact g
set_option maxHeartbeats 800000 in
set_option maxRecDepth 100000 in
theorem index_nil (A : Option Addr) (c : Nat) (xs : List Nat) (w : World) (hC : KP.C w A xs.length xs) : Calls Try.prog 116 #[.slice A xs.length c, .pointer none] w fun e w' => e = .returned (.int .i64 (-1)) ∧ w = w' := by
 have HC := Go.Lib.hid hC
 have hlen : xs.length ≤ 9223372036854775807 := hC.2.1
 clear hC
 go_enter Try.func116, Try.ntmps116
 go_wp2_with fail
 go_loop [8] (fun i => ∃ k : Nat, k ≤ xs.length ∧ i = .int .i64 k) (fun i => xs.length - (intOf i).toNat)
 case atStart => exact ⟨0, Nat.zero_le _, rfl⟩
 case round =>
  obtain ⟨k, hk, rfl⟩ := hrel
  by_cases hlt : k < xs.length
  ·obtain ⟨ad, rfl, g0⟩ := at_ptr HC.out k hlt
   generalize xs.getD k 0 = p at g0
   obtain ⟨a, ha⟩ : ∃ a : Addr, a = ⟨p, 0, none⟩ := ⟨_, rfl⟩
   rw [← ha] at g0
   have HA := Go.Lib.hid ha
   clear ha
   go_wp2_with (refine Kd.event_run rfl (w1 := w) (v := .bool false) (by first | (go_simp; done) | (go_simp; rfl)) ?_)
   go_round
   case rel => exact ⟨k + 1, hlt, by go_num⟩
   case measure => simp [intOf]; omega
  ·obtain rfl : k = xs.length := by omega
   go_wp2_with fail
   go_ret
   exact ⟨rfl, rfl⟩
theorem contains_nil (A : Option Addr) (c : Nat) (xs : List Nat) (w : World) (hC : KP.C w A xs.length xs) : Calls Try.prog 67 #[.slice A xs.length c, .pointer none] w fun e w' => e = .returned (.bool false) ∧ w = w' := by
 have HC := Go.Lib.hid hC
 clear hC
 go_enter Try.func67, Try.ntmps67
 go_wp2_with (go_at_call 116; refine (index_nil A c xs _ HC.out).mono ?_; rintro e w' ⟨rfl, rfl⟩)
 go_ret
 exact ⟨rfl, rfl⟩
end Go.Proofs.Ytnpjbdaaoknkbaa.Frm
