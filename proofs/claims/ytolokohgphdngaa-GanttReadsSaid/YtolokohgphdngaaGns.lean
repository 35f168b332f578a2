/- Signs of ids, of a schedule; the example. -/
import Derived.Test.YtolokohgphdngaaGnr
import Derived.Test.YtolokohgphdngaaWrd
namespace Go.Proofs.Ytolokohgphdngaa.Gnt
open Go.RowKit Go.Proofs.YtolokohgphdngaaW.PrintWords Go.Proofs.YtolokohgphdngaaW.PrintLast Go.Proofs.YtolokohgphdngaaW.PrintMore Go.Proofs.Ytolokohgphdngaa.Mine Go.Proofs.Ytolokohgphdngaa.PGanttReads
open Go.Proofs.Ytolokohgphdngaa.Sl (SL Stp Chg St No)
set_option linter.unusedVariables false
set_option linter.unusedSimpArgs false
attribute [local go_sem] max2_int min2_int max_two min_two max_three min_three max_four min_four
variable {l : List SL} {w0 w : World}
/-- A sign of the program's. -/
def sgn (x : Int) : Int := if x = -1 then 46 else if 10 ≤ x ∧ x ≤ 35 then x + 87 else if 0 ≤ x ∧ x ≤ 9 then x + 48 else 35
theorem sgn_is (x : Int) : gantt_Sign.f 1 x = some (sgn x) := by
  unfold gantt_Sign.f sgn
  simp only [gantt_Sign.j0, decide_eq_true_eq, Bool.false_eq_true, if_false]
  (repeat' split) <;> first | rfl | (exfalso; omega) | (congr 1; unfold wrap64; omega)
theorem sign_st (h : St l w0 w) (x : Int) {r : Int} (hr : sgn x = r) : Calls Try.prog 84 #[.int .i64 x] w fun e w' => e = .returned (.int .u8 r) ∧ St l w0 w' := by
  subst hr
  exact (gantt_Sign.calls 1 x _ w (sgn_is x)).mono fun _ _ ⟨he, hd⟩ => ⟨he, h.drawn hd⟩
/-- The text of ids' signs. -/
def txt (xs : List Int) : ByteArray := strOfNums (xs.map sgn)
section
variable {P : Program} {ops : Array Oper} {rest : List Oper} {o : Oper} {a : Act} {Q : Exit → Act → World → Prop} {W : World}
theorem make0_st {k : IntKind} (HS : St l w0 W) (hgd : o.guard = none) (t e : TypeId) (x y : Operand) (ho : o.op = .makeSlice t x y) (hx : a.eval x = .int .i64 0) (c bytes : Nat) (hy : a.eval y = .int .i64 (c : Int)) (ht : P.underlying t = some (.slice e))
    (hinfo : (P.info? e).map (fun i => (i.zero, i.size, i.bytes)) = some (some (.int k 0), 1, bytes)) (hb : bytes * c ≤ 281474976710656) (hm : c ≤ 1000000000)
    (h : ∀ v1 w1, St (SL.row (Kd.int k) e v1 [] :: l) w0 w1 → Below W.heap.size W w1 → wpList P ops Q rest (a.put o.dst v1) w1) : wpList P ops Q (o :: rest) a W := by
  obtain ⟨i, hi⟩ : ∃ i, P.info? e = some i := by cases hq : P.info? e with | none => simp [hq] at hinfo | some i => exact ⟨i, rfl⟩
  rw [hi] at hinfo
  simp only [Option.map_some, Option.some.injEq, Prod.mk.injEq] at hinfo
  obtain ⟨hz, hs, hbb⟩ := hinfo
  obtain ⟨w', hr, hown, hg⟩ := run_make_own (P := P) W W.heap.size t e i (.int k 0) 1 ht hi hz hs .i64 .i64 c (by rw [hbb]; exact hb) (by unfold maxLen; omega) (Nat.le_refl _)
  refine Kd.event_run hgd ?_ (h (.slice (some ⟨W.heap.size, 0, none⟩) 0 c) w' (HS.row (ok := fun _ => True) (Kd.R_of_own (h1 := fun _ => rfl) (xs := []) hown (fun _ _ => trivial)) ((Below.refl _ _).grown hg (Nat.le_refl _) (fun k e => by cases e))) ((Below.refl _ _).grown hg (Nat.le_refl _) (fun k e => by cases e)))
  unfold execOp
  simp only [ho, hx, hy]
  show ((do pure (Next.value (← Instr.makeSlice t (.int .i64 0) (.int .i64 (c : Int)))) : Sem Next)).run P W = _
  simp [Sem.run_bind, hr]
theorem conv_st (HS : St l w0 W) (n : Nat) {ee : Nat} {v : Value} {xs : List Int} (e : l[n]? = some (SL.row (Kd.int .u8) ee v xs)) (hgd : o.guard = none) (s d et : TypeId) (x : Operand) (ho : o.op = .convert s d x) (hx : a.eval x = v) (hs : P.underlying s = some (.slice et)) (he : P.underlying et = some (.int .u8)) (hd : P.underlying d = some .string)
    (h : wpList P ops Q rest (a.put o.dst (.string (strOfNums xs))) W) : wpList P ops Q (o :: rest) a W := by
  obtain ⟨S1, h1, _⟩ := HS.at_ n _ e
  have hr := own_string (P := P) (src := s) (dst := d) hs he hd (Kd.own_of_R h1.1)
  refine Kd.event_run hgd ?_ h
  unfold execOp
  simp only [ho, hx]
  show ((do pure (Next.value (← convert s d v)) : Sem Next)).run P W = _
  simp [Sem.run_bind, hr]
end
theorem infoU8 : (Try.prog.info? 5).map (fun i => (i.zero, i.size, i.bytes)) = some (some (.int .u8 0), 1, 1) := by kernel_rfl
set_option maxHeartbeats 3200000 in
set_option maxRecDepth 100000 in
theorem signs_st (h : St l w0 w) (q : Nat) {A : Option Addr} {n c : Nat} {xs : List Int} (hq : l[q]? = some (SL.row (Kd.int .i64) 3 (.slice A n c) xs)) (hlen : xs.length = n) (hn : n ≤ 1000000) : Calls Try.prog 79 #[.slice A n c] w fun e w' => e = .returned (.string (txt xs)) ∧ St l w0 w' := by
  have HQ := Go.Lib.hid hq
  have HS := Go.Lib.hid h
  have HLen := Go.Lib.hid hlen
  clear h hq hlen
  go_enter Try.func79, Try.ntmps79
  go_wp2_with ((with_reducible refine gate_dst (N := 8) rfl ?_); refine make0_st (k := .u8) HS.out (by rfl) 42 5 (.const (.int .i64 0)) (.tmp 7) rfl rfl n 1 rfl Try.underlying42 infoU8 (by omega) (by omega) ?_; intro v8_ w1 HSn hBw; have HB1 := Go.Lib.hid hBw; clear hBw; replace HS := Go.Lib.hid HSn; clear HSn)
  obtain ⟨A0, c0, hv0, _⟩ := HS.out.rowC 0 rfl
  have hv1 : v8_ = .slice A0 0 c0 := hv0
  clear hv0
  subst hv1
  go_loopw [3, 11] (fun a i wr => ∃ (k : Nat) (acc : List Int) (A' : Option Addr) (c' : Nat), k ≤ n ∧ a = .slice A' acc.length c' ∧ i = .int .i64 k ∧ acc = (xs.take k).map sgn ∧ St (SL.row (Kd.int .u8) 5 (.slice A' (acc).length c') (acc) :: l) w0 wr) (fun _ i _ => n - (intOf i).toNat)
  case atStart => exact ⟨0, [], A0, c0, Nat.zero_le _, rfl, rfl, rfl, HS.out⟩
  case round =>
    clear HS HB1
    obtain ⟨k, acc, A', c', hk, rfl, rfl, hac, hS⟩ := hrel
    have HS := Go.Lib.hid hS
    have HA := Go.Lib.hid hac
    have hal : acc.length = k := by rw [hac, List.length_map, List.length_take, HLen.out]; omega
    have HAL := Go.Lib.hid hal
    have hbd : (acc.length + 1) * 1 ≤ 140737488355328 := by omega
    clear hS hac hal
    by_cases hlt : k < n
    · obtain ⟨A2, c2, hv, _, hC⟩ := HS.out.rowC (q + 1) (by simpa using HQ.out)
      injection hv with q1_ q2_ q3_
      subst q1_ q3_
      clear q2_
      rw [HLen.out] at hC
      obtain ⟨ad, rfl, g0⟩ := Kd.at_int hC (k : Int) (by omega) (by omega)
      clear hC
      rw [Int.toNat_natCast] at g0
      have hxk : rd xs (k : Int) = xs[k]'(by rw [HLen.out]; exact hlt) := rd_at xs k _
      have hnx : acc ++ [sgn (rd xs (k : Int))] = (xs.take (k + 1)).map sgn := by rw [HA.out, hxk, List.take_succ_eq_append_getElem (by rw [HLen.out]; exact hlt), List.map_append]; rfl
      generalize rd xs (k : Int) = x at *
      obtain ⟨r, hr⟩ : ∃ r, sgn x = r := ⟨_, rfl⟩
      rw [hr] at hnx
      have HSX := Go.Lib.hid hr
      have HNX := Go.Lib.hid hnx
      clear hr hnx hxk
      go_wp2_with (first | (go_at_call 84; refine (sign_st HS.out x HSX.out).mono ?_; rintro e w21_ ⟨rfl, HSn⟩; replace HS : Hid (St (SL.row (Kd.int .u8) 5 (.slice A' (acc).length c') (acc) :: l) w0 w21_) := Go.Lib.hid HSn; clear HSn) | ((with_reducible refine gate_dst (N := 19) rfl ?_); refine Sl.append_st (Kd.int .u8) (flat_int .u8) HS.out 0 ((.slice A' acc.length c')) (acc) 5 rfl (by rfl) (.tmp 15) (.tmp 18) 42 (.int .u8 0) 1 rfl Try.underlying42 (by kernel_rfl) rfl (by decide) (by decide) (r) [.int .u8 r] rfl rfl ?hp ?hb ?_; (case hp => first | rfl | exact k5_mk _ _); (case hb => exact hbd); intro v1_ w22_ HSn; obtain ⟨A9_, c9_, hv2_, _⟩ := HSn.rowC 0 rfl; subst hv2_; replace HS : Hid (St (SL.row (Kd.int .u8) 5 (.slice A9_ (acc ++ [r]).length c9_) (acc ++ [r]) :: l) w0 w22_) := Go.Lib.hid HSn; clear HSn))
      go_roundw
      case rel => exact ⟨k + 1, acc ++ [r], A9_, c9_, by omega, by first | rfl | simp, rfl, HNX.out, HS.out⟩
      case measure => simp [intOf]; omega
    · have hkn : k = n := by omega
      have hfin : strOfNums acc = txt xs := by unfold txt; rw [HA.out, hkn, List.take_of_length_le (by rw [HLen.out]; exact Nat.le_refl _)]
      have HF := Go.Lib.hid hfin
      clear hfin
      go_wp2_with ((with_reducible refine gate_dst (N := 22) rfl ?_); refine conv_st HS.out 0 rfl (by rfl) 42 9 5 (.tmp 21) rfl rfl Try.underlying42 Try.underlying5 Try.underlying9 ?_)
      go_ret
      exact ⟨by rw [← HF.out]; rfl, HS.out.drop⟩
set_option maxHeartbeats 3200000 in
set_option maxRecDepth 100000 in
theorem sched_st (h : St l w0 w) (id frame : Int) (A : Option Addr) (m c : Nat) (B : Option Addr) (m2 c2 : Nat) (ws : List Win.Wn) (hI : Win.Holds w.heap.size w (.slice A m c) ws) (hl : ws.length ≤ 1000000) (hf : frame ≤ 1000000) :
    Calls Try.prog 67 #[.agg #[.int .i64 id, .int .i64 frame, .slice A m c, .slice B m2 c2]] w fun e w' => e = .returned (.string (txt (Win.wordOf frame.toNat ws))) ∧ St l w0 w' := by
  have HI := Go.Lib.hid hI
  have HS := Go.Lib.hid h
  clear h hI
  go_enter Try.func67, Try.ntmps67
  go_wp2_with (first | ((with_reducible refine gate_dst (N := 1) rfl ?_); refine Sl.box_st HS.out (by rfl) (cs := #[.int .i64 id, .int .i64 frame, .slice A m c, .slice B m2 c2]) (t := 134) (by first | (go_simp; done) | (go_simp; rfl)) ?_; intro b0 w1 HSn hBw; replace HS := Go.Lib.hid HSn; clear HSn; have hH := HI.out.below hBw; replace HI := Go.Lib.hid (hH.mono hBw.size); clear hH hBw; obtain ⟨c0, c1, c2_, c3⟩ := HS.out.c4 0 _ _ _ _ _ _ rfl) | (go_at_call 80; refine (Win.word_is _ id frame A m c (.slice B m2 c2) ws HI.out hl (by omega)).mono ?_; rintro e w2 ⟨v, rfl, hR, hB⟩; have hS2 := HS.out.row hR hB; obtain ⟨A9, c9, hv, _⟩ := hS2.rowC 0 rfl; subst hv; replace HS := Go.Lib.hid hS2; clear hS2 hR hB c0 c1 c2_ c3) | (go_at_call 79; refine (signs_st HS.out 0 rfl rfl (by rw [Win.wordOf, Win.painted_len]; omega)).mono ?_; rintro e w3 ⟨rfl, HSn⟩; replace HS := Go.Lib.hid HSn; clear HSn))
  go_ret
  exact ⟨rfl, HS.out.drop.drop⟩
end Go.Proofs.Ytolokohgphdngaa.Gnt
