/- Sampling ports in words of owned memory. -/
import Derived.Test.YtolokohgphdngaaPor2
import Derived.Test.YtolokohgphdngaaSlm
namespace Go.Proofs.Ytolokohgphdngaa.Por
open Go.RowKit Go.WideShapes Go.ChangeShapes Go.Proofs.Ytolokohgphdngaa.PPortSamples Go.Proofs.YtolokohgphdngaaW.PrintWords Go.Proofs.YtolokohgphdngaaW.PrintLast Go.Proofs.YtolokohgphdngaaW.PrintMore Go.Proofs.Ytolokohgphdngaa.Opn
open Go.Proofs.Ytolokohgphdngaa.Sl (SL Stp Chg St No)
set_option linter.unusedVariables false
set_option linter.unusedSimpArgs false
attribute [local go_sem] max2_int min2_int max_two min_two max_three min_three max_four min_four
variable {l : List SL} {w0 w : World} {g : Nat} {size refresh at_ n now at2 n2 c : Int} {m msg m2 : ByteArray} {b b2 v : Bool}
theorem is_of (h : St l w0 w) (k : Nat) (e : l[k]? = some (SL.blk g 119 #[.int .i64 size, .int .u64 refresh, .string m, .int .u64 at_, .int .i64 n])) : IsS119 w0 w g size refresh m at_ n := ⟨h.heap k _ _ _ e, h.ge k _ _ _ e⟩
theorem new_st (h : St l w0 w) (h1 : 1 ≤ size) (h2 : size ≤ 8192) : Calls Try.prog 10 #[.int .i64 size, .int .u64 refresh] w fun e w' => ∃ g, e = .returned (.tuple #[.pointer (some ⟨g, 0, none⟩), .int .i64 0]) ∧ St (SL.blk g 119 #[.int .i64 size, .int .u64 refresh, .string ⟨#[]⟩, .int .u64 0, .int .i64 0] :: l) w0 w' :=
  (new_yes w size refresh w h1 h2 (Below.refl _ _)).mono fun _ _ ⟨g, he, hI, hB⟩ => ⟨g, he, h.add (S2 := fun i => i = g) ⟨hI.1, fun _ => Iff.rfl⟩ ⟨Chg.of_below hB, fun i hi => .inr (by rw [hi]; exact hI.2)⟩⟩
theorem newno_st (h : St l w0 w) (hs : size < 1 ∨ 8192 < size) : Calls Try.prog 10 #[.int .i64 size, .int .u64 refresh] w fun e w' => e = .returned (.tuple #[.pointer none, .int .i64 4]) ∧ St l w0 w' :=
  (new_no size refresh w hs).mono fun _ _ ⟨he, hw⟩ => ⟨he, hw ▸ h⟩
theorem awake_st (h : St l w0 w) : Calls Try.prog 9 #[] w fun e w' => e = .returned (.bool true) ∧ St l w0 w' :=
  (awake_calls w).mono fun _ _ ⟨he, hB⟩ => ⟨he, h.then_ hB⟩
theorem write_st (h : St l w0 w) (k : Nat) (e : l[k]? = some (SL.blk g 119 #[.int .i64 size, .int .u64 refresh, .string m, .int .u64 at_, .int .i64 n])) (h0 : 0 ≤ n) (h1 : n ≤ 1000) (hf : port_Sampling_Write.f size refresh m at_ n now msg = some (c, size, refresh, m2, at2, n2)) :
    Calls Try.prog 12 #[.pointer (some ⟨g, 0, none⟩), .int .u64 now, .string msg] w fun e w' => e = .returned (.int .i64 c) ∧ St (l.set k (SL.blk g 119 #[.int .i64 size, .int .u64 refresh, .string m2, .int .u64 at2, .int .i64 n2])) w0 w' :=
  (port_Sampling_Write.calls g _ _ _ _ _ _ _ _ _ _ _ _ _ w0 w h0 (by omega) (is_of h k e) h.below hf).mono fun _ _ ⟨he, hI, hB, hK⟩ => ⟨he, h.keepBut k g 119 _ _ e hI.1 hB hK⟩
theorem read_st (h : St l w0 w) (k : Nat) (e : l[k]? = some (SL.blk g 119 #[.int .i64 size, .int .u64 refresh, .string m, .int .u64 at_, .int .i64 n])) (hf : port_Sampling_Read.f size refresh m at_ n now = some (m2, v, c, size, refresh, m, at_, n)) :
    Calls Try.prog 13 #[.pointer (some ⟨g, 0, none⟩), .int .u64 now] w fun e w' => e = .returned (.tuple #[.string m2, .bool v, .int .i64 c]) ∧ St (l.set k (SL.blk g 119 #[.int .i64 size, .int .u64 refresh, .string m, .int .u64 at_, .int .i64 n])) w0 w' :=
  (port_Sampling_Read.calls g _ _ _ _ _ _ _ _ _ _ _ _ _ _ w0 w (is_of h k e) h.below hf).mono fun _ _ ⟨he, hI, hB, hK⟩ => ⟨he, h.keepBut k g 119 _ _ e hI.1 hB hK⟩
theorem writes_st (h : St l w0 w) (k : Nat) (e : l[k]? = some (SL.blk g 119 #[.int .i64 size, .int .u64 refresh, .string m, .int .u64 at_, .int .i64 n])) :
    Calls Try.prog 15 #[.pointer (some ⟨g, 0, none⟩)] w fun e w' => e = .returned (.int .i64 n) ∧ St (l.set k (SL.blk g 119 #[.int .i64 size, .int .u64 refresh, .string m, .int .u64 at_, .int .i64 n])) w0 w' :=
  (port_Sampling_Writes.calls g _ _ _ _ _ _ _ _ _ _ _ w0 w (is_of h k e) h.below rfl).mono fun _ _ ⟨he, hI, hB, hK⟩ => ⟨he, h.keepBut k g 119 _ _ e hI.1 hB hK⟩
theorem rwrite_st (h : St l w0 w) (hf : countwheelref40_Write.f 5 size refresh m at_ b now msg = some (size, refresh, m2, at2, b2, c)) :
    Calls Try.prog 11 #[.agg #[.int .i64 size, .int .u64 refresh, .string m, .int .u64 at_, .bool b], .int .u64 now, .string msg] w fun e w' => e = .returned (.tuple #[.agg #[.int .i64 size, .int .u64 refresh, .string m2, .int .u64 at2, .bool b2], .int .i64 c]) ∧ St l w0 w' :=
  (countwheelref40_Write.calls 5 _ _ _ _ _ _ _ _ _ _ _ _ _ w hf).mono fun _ _ ⟨he, hB⟩ => ⟨he, h.then_ hB⟩
theorem rvalid_st (h : St l w0 w) (hf : countwheelref40_Valid.f size refresh m at_ b now = some v) :
    Calls Try.prog 14 #[.agg #[.int .i64 size, .int .u64 refresh, .string m, .int .u64 at_, .bool b], .int .u64 now] w fun e w' => e = .returned (.bool v) ∧ St l w0 w' :=
  (countwheelref40_Valid.calls _ _ _ _ _ _ _ w hf).mono fun _ _ ⟨he, hB⟩ => ⟨he, h.then_ hB⟩
end Go.Proofs.Ytolokohgphdngaa.Por
