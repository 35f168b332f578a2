/- window.Check and runs that grow, in owned memory. -/
import Derived.Test.YtnpjbdaaoknkbaaYTabC
import Derived.Test.YtnpjbdaaoknkbaaYTabP
namespace Go.Proofs.Ytnpjbdaaoknkbaa.Tab
open Go.RowKit Go.Proofs.YtnpjbdaaoknkbaaW.PrintWords Go.Proofs.YtnpjbdaaoknkbaaW.PrintLast Go.Proofs.YtnpjbdaaoknkbaaW.PrintMore Go.Proofs.Ytnpjbdaaoknkbaa.Mine Go.Proofs.Ytnpjbdaaoknkbaa.PTableFrames
open Go.Proofs.Ytnpjbdaaoknkbaa.Sl (SL Stp Chg St No wpc_seal wpc_round sealed)
set_option linter.unusedVariables false
set_option linter.unusedSimpArgs false
attribute [local go_sem] max2_int min2_int max_two min_two max_three min_three max_four min_four
variable {l : List SL} {w0 w : World}
theorem grow_st (h : St l w0 w) (n : Nat) (v : Value) (xs : List S44) (e : l[n]? = some (SL.row k44 44 v xs)) (a b c : Int) (r : List S44) (hf : table_grow.f xs a b c = some r) :
  Calls Try.prog 61 #[v, .int .i64 a, .int .i64 b, .int .i64 c] w fun e w' => ∃ A' c', e = .returned (.slice A' r.length c') ∧ St (l.set n (SL.row k44 44 (.slice A' r.length c') r)) w0 w' := by
 obtain ⟨S1, h1, hk⟩ := h.at_ n _ e
 have hn : n < l.length := (List.getElem?_eq_some_iff.1 e).1
 refine (table_grow.calls S1 v xs a b c r { w with heap := #[] } w ⟨rfl, rfl, rfl, Nat.zero_le _, fun k hk => absurd hk (Nat.not_lt_zero _)⟩ h1.1 hf).mono ?_
 rintro e' w' ⟨v', rfl, hR, hB, hK⟩
 have hS := hk _ _ _ (SL.row_of hR) ⟨⟨hB.os, hB.tape, hB.output, hK.1, fun i hi hn => hK.2 i hi hn⟩, fun i hi => hi.1⟩
 obtain ⟨A', c', rfl, _⟩ := hS.rowC n (List.getElem?_set_self hn)
 exact ⟨A', c', rfl, hS⟩
theorem ok_next {fr : Int} {ws : List S30} {k : Nat} (h : ∀ j : Nat, j < k → OkW fr ws j) (hk : OkW fr ws k) : ∀ j : Nat, j < k + 1 → OkW fr ws j := by
 intro j hj
 rcases Nat.lt_or_ge j k with h1 | h1
 ·exact h j h1
 ·obtain rfl : j = k := by omega
  exact hk
theorem new_none : fault_New.f 0 = some none := by
 unfold fault_New.f fault_Name.f fault_names.f
 simp only [Option.bind_some]
 rw [if_pos (by decide)]
 simp only [Option.bind_some]
 rw [if_pos (by unfold ByteArray.toList; unfold ByteArray.toList.loop; rw [if_neg (by decide)]; rfl)]
theorem new_some (r : Int) (h : r = 9 ∨ r = 10 ∨ r = 11 ∨ r = 12) : fault_New.f r = some (some r) := by
 rcases h with rfl | rfl | rfl | rfl <;> kernel_rfl
theorem at_st (h : St l w0 w) (i k : Int) : Calls Try.prog 112 #[.int .i64 i, .iface 126 (.int .i64 k)] w fun e w' => ∃ g, e = .returned (.iface 146 (.pointer (some ⟨g, 0, none⟩))) ∧ St l w0 w' := by
 have HS := Go.Lib.hid h
 clear h
 go_enter Try.func112, Try.ntmps112
 go_wp2_with (first | ((with_reducible refine gate_dst (N := 10) rfl ?_); refine Sl.box_st HS.out (by rfl) (cs := #[.int .i64 i, .iface 126 (.int .i64 k)]) (t := 148) ?hr ?_; (case hr => first | (go_simp; done) | (go_simp; rfl)); intro g0 w1_ HSn HBn; clear HBn; replace HS : Hid (St (SL.blk g0 148 #[.int .i64 i, .iface 126 (.int .i64 k)] :: l) w0 w1_) := Go.Lib.hid HSn; clear HSn; obtain ⟨c0_0, c0_1⟩ := HS.out.c2 0 _ _ _ _ rfl))
 go_ret
 exact ⟨g0, rfl, HS.out.drop⟩
/-- What window.Check tells. -/
def ChkPost (l : List SL) (w0 : World) (ok bad : Prop) (e : Ending) (w' : World) : Prop := (e = .returned .nilIface ∧ ok ∧ St l w0 w') ∨ ∃ g, e = .returned (.iface 146 (.pointer (some ⟨g, 0, none⟩))) ∧ bad ∧ St l w0 w'
/-- A window of which something wrong is told. -/
def BadW (id fr : Int) (ws : List S30) (ns : List S87) (ids : List Int) : Prop := ∃ (j : Nat) (r : Int), j < ws.length ∧ r ≠ 0 ∧ window_wrong.f (ids.length + 2) id fr ws ns (j : Int) ids = some r
set_option maxHeartbeats 3200000 in
set_option maxRecDepth 100000 in
theorem check_st (h : St l w0 w) (id fr : Int) (A2 : Option Addr) (c2 : Nat) (ws : List S30) (A3 : Option Addr) (c3 : Nat) (ns : List S87) (AI : Option Addr) (ci : Nat) (ids : List Int) (hr2 : ∀ (lx : List SL) (w1 : World), St (lx ++ l) w0 w1 → Kd.C k30 w1 A2 ws.length ws) (hc2 : ws.length ≤ c2) (hr3 : ∀ (lx : List SL) (w1 : World), St (lx ++ l) w0 w1 → Kd.C k87 w1 A3 ns.length ns) (hc3 : ns.length ≤ c3) (hri : ∀ (lx : List SL) (w1 : World), St (lx ++ l) w0 w1 → Kd.C (Kd.int .i64) w1 AI ids.length ids) (hci : ids.length ≤ ci) (hsm : Small ids) (hf0 : 0 ≤ fr) (hf : fr ≤ 4000000) (hw : ws.length ≤ 1000) (h0 : ∀ j : Nat, j < ws.length → 0 ≤ (ws.getD j z30).f1 ∧ (ws.getD j z30).f1 ≤ 4000000 ∧ (ws.getD j z30).f2 ≤ 4000000) :
  Calls Try.prog 60 #[.agg #[.int .i64 id, .int .i64 fr, .slice A2 ws.length c2, .slice A3 ns.length c3], .slice AI ids.length ci] w (ChkPost l w0 (∀ j : Nat, j < ws.length → OkW fr ws j) (BadW id fr ws ns ids)) := by
 obtain ⟨K_, hK_⟩ : ∃ K_, K_ = ids.length + 2 := ⟨_, rfl⟩
 have HS := Go.Lib.hid h
 have HR2 := Go.Lib.hid hr2
 have HR3 := Go.Lib.hid hr3
 have HI := Go.Lib.hid hri
 have HSM := Go.Lib.hid hsm
 have H0 := Go.Lib.hid h0
 have HK := Go.Lib.hid hK_
 clear h hr2 hr3 h0 hK_ hsm hri
 go_enter Try.func60, Try.ntmps60
 go_wp2_with (first | ((with_reducible refine gate_dst (N := 2) rfl ?_); refine Sl.box_st HS.out (by rfl) (cs := #[.int .i64 id, .int .i64 fr, .slice A2 ws.length c2, .slice A3 ns.length c3]) (t := 25) ?hr ?_; (case hr => first | (go_simp; done) | (go_simp; rfl)); intro gM w1_ HSn HBn; clear HBn; replace HS : Hid (St (SL.blk gM 25 #[.int .i64 id, .int .i64 fr, .slice A2 ws.length c2, .slice A3 ns.length c3] :: l) w0 w1_) := Go.Lib.hid HSn; clear HSn; obtain ⟨c0_0, c0_1, c0_2, c0_3⟩ := HS.out.c4 0 _ _ _ _ _ _ rfl))
 clear c0_0 c0_1 c0_2 c0_3
 go_loopw [10] (fun i wr => ∃ k : Nat, k ≤ ws.length ∧ i = .int .i64 k ∧ (∀ j : Nat, j < k → OkW fr ws j) ∧ St (SL.blk gM 25 #[.int .i64 id, .int .i64 fr, .slice A2 ws.length c2, .slice A3 ns.length c3] :: l) w0 wr) (fun i _ => ws.length - (intOf i).toNat)
 case atStart => exact ⟨0, Nat.zero_le _, rfl, fun j hj => by omega, HS.out⟩
 case round =>
  clear HS
  obtain ⟨k, hk, rfl, hok, hS⟩ := hrel
  have HS := Go.Lib.hid hS
  have HOK := Go.Lib.hid hok
  clear hS hok
  refine Sl.wpc_round (fn := Try.f60) (R := ChkPost l w0 (∀ j : Nat, j < ws.length → OkW fr ws j) (BadW id fr ws ns ids)) (fun a w h => h) ?_
  intro N_ X_ R_ hnorm hexit hret
  obtain ⟨c0_0, c0_1, c0_2, c0_3⟩ := HS.out.c4 0 _ _ _ _ _ _ rfl
  by_cases hlt : k < ws.length
  ·obtain ⟨r, hw_, hz, hcs⟩ := wrong_is id fr ws ns ids HSM.out hf0 hf (by omega) k hlt HOK.out (fun j hj => (H0.out j hj).1) K_ (by have := HK.out; omega)
   have HW := Go.Lib.hid hw_
   have HZ := Go.Lib.hid hz
   clear hw_ hz
   by_cases hr : r = 0
   ·subst hr
    have HN := Go.Lib.hid new_none
    clear hcs
    go_wp2_with (first | (go_at_call 111; refine (window_wrong.calls K_ id fr A2 c2 ws A3 c3 ns (k : Int) AI ci ids _ _ (HR2.out [_] _ HS.out) hc2 (HR3.out [_] _ HS.out) hc3 (HI.out [_] _ HS.out) hci HW.out).mono ?_; rintro e w30_ ⟨rfl, hB⟩; replace HS := Go.Lib.hid (HS.out.then_ hB); clear hB; clear c0_0 c0_1 c0_2 c0_3; obtain ⟨c0_0, c0_1, c0_2, c0_3⟩ := HS.out.c4 0 _ _ _ _ _ _ rfl) | (go_at_call 59; refine (fault_New.calls _ none _ HN.out).mono ?_; rintro e w31_ ⟨rfl, hB⟩; rw [errW_none]; replace HS := Go.Lib.hid (HS.out.then_ hB); clear hB; clear c0_0 c0_1 c0_2 c0_3; obtain ⟨c0_0, c0_1, c0_2, c0_3⟩ := HS.out.c4 0 _ _ _ _ _ _ rfl))
    (try simp only [Exit.inBlock, Exit.then, Sl.sealed]); refine hnorm.out _ _ ?_; go_roundw
    case rel => exact ⟨k + 1, hlt, rfl, ok_next HOK.out (HZ.out (by first | rfl | trivial)), HS.out⟩
    case measure => simp [intOf]; omega
   ·have HN := Go.Lib.hid (new_some r (by omega))
    have HBW : Hid (BadW id fr ws ns ids) := Go.Lib.hid ⟨k, r, hlt, hr, by rw [← HK.out]; exact HW.out⟩
    clear hcs hr
    go_wp2_with (first | (go_at_call 111; refine (window_wrong.calls K_ id fr A2 c2 ws A3 c3 ns (k : Int) AI ci ids _ _ (HR2.out [_] _ HS.out) hc2 (HR3.out [_] _ HS.out) hc3 (HI.out [_] _ HS.out) hci HW.out).mono ?_; rintro e w30_ ⟨rfl, hB⟩; replace HS := Go.Lib.hid (HS.out.then_ hB); clear hB; clear c0_0 c0_1 c0_2 c0_3; obtain ⟨c0_0, c0_1, c0_2, c0_3⟩ := HS.out.c4 0 _ _ _ _ _ _ rfl) | (go_at_call 59; refine (fault_New.calls _ (some r) _ HN.out).mono ?_; rintro e w31_ ⟨rfl, hB⟩; rw [errW_some]; replace HS := Go.Lib.hid (HS.out.then_ hB); clear hB; clear c0_0 c0_1 c0_2 c0_3; obtain ⟨c0_0, c0_1, c0_2, c0_3⟩ := HS.out.c4 0 _ _ _ _ _ _ rfl) | (go_at_call 112; refine (at_st HS.out (k : Int) r).mono ?_; rintro e w32_ ⟨g9, rfl, hSn⟩; replace HS := Go.Lib.hid hSn; clear hSn))
    (try simp only [Exit.inBlock, Exit.then, Sl.sealed]); refine hret.out _ _ (.iface 146 (.pointer (some ⟨g9, 0, none⟩))) ?hr ?hd ?hR; (case hr => exact (results_tmp (fn := Try.f60) (t := 4) (by rfl) _ _ _).trans (by rfl)); (case hd => rfl); (case hR => exact .inr ⟨g9, rfl, HBW.out, HS.out.drop⟩)
  ·obtain rfl : k = ws.length := by omega
   clear hk hlt
   go_wp2_with fail
   refine hexit.out _ _ _ ?_
   go_wp2_with fail
   go_ret
   exact .inl ⟨rfl, HOK.out, HS.out.drop⟩
end Go.Proofs.Ytnpjbdaaoknkbaa.Tab
