/- May a module be asked about. -/
import Derived.Test.YtnniejaknnpcjaaYFin3
namespace Go.Proofs.Ytnniejaknnpcjaa.Fin
open Go.RowKit Go.Proofs.YtnniejaknnpcjaaW.PrintWords Go.Proofs.YtnniejaknnpcjaaW.PrintLast Go.Proofs.YtnniejaknnpcjaaW.PrintMore Go.Proofs.Ytnniejaknnpcjaa.Mine Go.Proofs.Ytnniejaknnpcjaa.PHyperNumbers
open Go.Proofs.Ytnniejaknnpcjaa.Sl (SL Stp Chg St No)
set_option linter.unusedVariables false
set_option linter.unusedSimpArgs false
attribute [local go_sem] max2_int min2_int max_two min_two max_three min_three max_four min_four
/-- A module may be asked about. -/
structure Fine (fi : Int) (ps : List S84) (ss : List S46) (qs : List S95) (av : List S125) : Prop where
 ok : ModOk fi ps ss qs av
 few : NotLarge ps ss qs av
 five : ss.length ≤ 5
def Says (ok : Prop) (w : World) (e : Ending) (w' : World) : Prop := ∃ b : Bool, e = .returned (.bool b) ∧ (b = true → ok) ∧ Below w.heap.size w w'
theorem field80_0 (a b c : Value) (w : World) : (Instr.field 80 (.agg #[a, b, c]) 0).run Try.prog w = .ok a w := by kernel_rfl
attribute [local go_sem] field80_0
set_option maxHeartbeats 3200000 in
set_option maxRecDepth 100000 in
theorem fine_told (w : World) (ep fi : Int) (A2 : Option Addr) (c2 : Nat) (ps : List S84) (A3 : Option Addr) (c3 : Nat) (ss : List S46) (A4 : Option Addr) (c4 : Nat) (qs : List S95) (A5 : Option Addr) (c5 : Nat) (av : List S125) (hr2 : Kd.C k84 w A2 ps.length ps) (hc2 : ps.length ≤ c2) (hr3 : Kd.C k46 w A3 ss.length ss) (hc3 : ss.length ≤ c3) (hr4 : Kd.C k95 w A4 qs.length qs) (hc4 : qs.length ≤ c4) (hr5 : Kd.C k125 w A5 av.length av) (hc5 : av.length ≤ c5) (hnm : ∀ p ∈ ps, p.f1.size ≤ 9223372036854775807) :
  Calls Try.prog 28 #[.agg #[.int .u64 ep, .int .i64 fi, .slice A2 ps.length c2, .slice A3 ss.length c3, .slice A4 qs.length c4, .slice A5 av.length c5]] w (Says (Fine fi ps ss qs av) w) := by
 obtain ⟨KL, hKL⟩ : ∃ KL, KL = ps.length + 2 * ss.length + 3 := ⟨_, rfl⟩
 obtain ⟨b0, hb0, hnl⟩ := large_is (ep := ep) (fi := fi) (ps := ps) (ss := ss) (qs := qs) (av := av) hr2.2.1 hr3.2.1 KL (by omega)
 have HB0 := Go.Lib.hid hb0
 have HNL := Go.Lib.hid hnl
 have HNM := Go.Lib.hid hnm
 have HR2 := Go.Lib.hid hr2
 have HR3 := Go.Lib.hid hr3
 have HR4 := Go.Lib.hid hr4
 have HR5 := Go.Lib.hid hr5
 have HS := Go.Lib.hid (St.start w)
 clear hnm hr2 hr3 hr4 hr5 hb0 hnl hKL
 cases b0
 ·have HL := Go.Lib.hid (HNL.out rfl)
  by_cases h5 : (ss.length : Int) ≤ 5
  ·have d5 : decide ((ss.length : Int) ≤ 5) = true := by simpa using h5
   have H5 := Go.Lib.hid h5
   clear h5
   go_enter Try.func28, Try.ntmps28
   go_wp2_with (first | ((with_reducible refine gate_dst (N := 1) rfl ?_); refine Sl.box_st HS.out (by rfl) (cs := #[.int .u64 ep, .int .i64 fi, .slice A2 ps.length c2, .slice A3 ss.length c3, .slice A4 qs.length c4, .slice A5 av.length c5]) (t := 28) ?hr ?_; (case hr => first | (go_simp; done) | (go_simp; rfl)); intro gM w1_ HSn HBn; clear HBn; replace HS : Hid (St (SL.blk gM 28 #[.int .u64 ep, .int .i64 fi, .slice A2 ps.length c2, .slice A3 ss.length c3, .slice A4 qs.length c4, .slice A5 av.length c5] :: []) w w1_) := Go.Lib.hid HSn; clear HSn; obtain ⟨c0_0, c0_1, c0_2, c0_3, c0_4, c0_5⟩ := HS.out.c6 0 _ _ _ _ _ _ _ _ rfl))
   clear c0_0 c0_1 c0_2 c0_3 c0_4 c0_5
   refine (countwheelref16_Large.calls KL ep fi A2 c2 ps A3 c3 ss A4 c4 qs A5 c5 av false _ (HS.out.C HR2.out) hc2 (HS.out.C HR3.out) hc3 (HS.out.C HR4.out) hc4 (HS.out.C HR5.out) hc5 HB0.out).mono ?_; rintro e w2 ⟨rfl, hB⟩; replace HS := Go.Lib.hid (HS.out.then_ hB); clear hB
   obtain ⟨c0_0, c0_1, c0_2, c0_3, c0_4, c0_5⟩ := HS.out.c6 0 _ _ _ _ _ _ _ _ rfl
   go_wp2_with fail
   refine (wrong_told _ ep fi A2 c2 ps A3 c3 ss A4 c4 qs A5 c5 av (HS.out.C HR2.out) hc2 (HS.out.C HR3.out) hc3 (HS.out.C HR4.out) hc4 (HS.out.C HR5.out) hc5 HL.out HNM.out).mono ?_; rintro e w3 ⟨x, y, z, rfl, htw, hB⟩; have HTW := Go.Lib.hid htw; replace HS := Go.Lib.hid (HS.out.then_ hB); clear hB htw
   clear c0_0 c0_1 c0_2 c0_3 c0_4 c0_5
   obtain ⟨c0_0, c0_1, c0_2, c0_3, c0_4, c0_5⟩ := HS.out.c6 0 _ _ _ _ _ _ _ _ rfl
   by_cases hx : x = 0
   ·have d0 : (x == 0) = true := by rw [beq_iff_eq]; exact hx
    have HX := Go.Lib.hid hx
    clear hx
    go_wp2_with fail
    go_ret
    exact ⟨_, rfl, fun _ => ⟨HTW.out HX.out, HL.out, by have := H5.out; omega⟩, HS.out.below⟩
   ·have d0 : (x == 0) = false := by rw [beq_eq_false_iff_ne]; exact hx
    clear hx
    go_wp2_with fail
    go_ret
    exact ⟨_, rfl, (fun h => by cases h), HS.out.below⟩
  ·have d5 : decide ((ss.length : Int) ≤ 5) = false := by simpa using h5
   clear h5
   go_enter Try.func28, Try.ntmps28
   go_wp2_with (first | ((with_reducible refine gate_dst (N := 1) rfl ?_); refine Sl.box_st HS.out (by rfl) (cs := #[.int .u64 ep, .int .i64 fi, .slice A2 ps.length c2, .slice A3 ss.length c3, .slice A4 qs.length c4, .slice A5 av.length c5]) (t := 28) ?hr ?_; (case hr => first | (go_simp; done) | (go_simp; rfl)); intro gM w1_ HSn HBn; clear HBn; replace HS : Hid (St (SL.blk gM 28 #[.int .u64 ep, .int .i64 fi, .slice A2 ps.length c2, .slice A3 ss.length c3, .slice A4 qs.length c4, .slice A5 av.length c5] :: []) w w1_) := Go.Lib.hid HSn; clear HSn; obtain ⟨c0_0, c0_1, c0_2, c0_3, c0_4, c0_5⟩ := HS.out.c6 0 _ _ _ _ _ _ _ _ rfl))
   clear c0_0 c0_1 c0_2 c0_3 c0_4 c0_5
   refine (countwheelref16_Large.calls KL ep fi A2 c2 ps A3 c3 ss A4 c4 qs A5 c5 av false _ (HS.out.C HR2.out) hc2 (HS.out.C HR3.out) hc3 (HS.out.C HR4.out) hc4 (HS.out.C HR5.out) hc5 HB0.out).mono ?_; rintro e w2 ⟨rfl, hB⟩; replace HS := Go.Lib.hid (HS.out.then_ hB); clear hB
   obtain ⟨c0_0, c0_1, c0_2, c0_3, c0_4, c0_5⟩ := HS.out.c6 0 _ _ _ _ _ _ _ _ rfl
   go_wp2_with fail
   refine (wrong_told _ ep fi A2 c2 ps A3 c3 ss A4 c4 qs A5 c5 av (HS.out.C HR2.out) hc2 (HS.out.C HR3.out) hc3 (HS.out.C HR4.out) hc4 (HS.out.C HR5.out) hc5 HL.out HNM.out).mono ?_; rintro e w3 ⟨x, y, z, rfl, htw, hB⟩; replace HS := Go.Lib.hid (HS.out.then_ hB); clear hB htw
   clear c0_0 c0_1 c0_2 c0_3 c0_4 c0_5
   obtain ⟨c0_0, c0_1, c0_2, c0_3, c0_4, c0_5⟩ := HS.out.c6 0 _ _ _ _ _ _ _ _ rfl
   by_cases hx : x = 0
   ·have d0 : (x == 0) = true := by rw [beq_iff_eq]; exact hx
    clear hx
    go_wp2_with fail
    go_ret
    exact ⟨_, rfl, (fun h => by cases h), HS.out.below⟩
   ·have d0 : (x == 0) = false := by rw [beq_eq_false_iff_ne]; exact hx
    clear hx
    go_wp2_with fail
    go_ret
    exact ⟨_, rfl, (fun h => by cases h), HS.out.below⟩
 ·go_enter Try.func28, Try.ntmps28
  go_wp2_with (first | ((with_reducible refine gate_dst (N := 1) rfl ?_); refine Sl.box_st HS.out (by rfl) (cs := #[.int .u64 ep, .int .i64 fi, .slice A2 ps.length c2, .slice A3 ss.length c3, .slice A4 qs.length c4, .slice A5 av.length c5]) (t := 28) ?hr ?_; (case hr => first | (go_simp; done) | (go_simp; rfl)); intro gM w1_ HSn HBn; clear HBn; replace HS : Hid (St (SL.blk gM 28 #[.int .u64 ep, .int .i64 fi, .slice A2 ps.length c2, .slice A3 ss.length c3, .slice A4 qs.length c4, .slice A5 av.length c5] :: []) w w1_) := Go.Lib.hid HSn; clear HSn; obtain ⟨c0_0, c0_1, c0_2, c0_3, c0_4, c0_5⟩ := HS.out.c6 0 _ _ _ _ _ _ _ _ rfl))
  clear c0_0 c0_1 c0_2 c0_3 c0_4 c0_5
  refine (countwheelref16_Large.calls KL ep fi A2 c2 ps A3 c3 ss A4 c4 qs A5 c5 av true _ (HS.out.C HR2.out) hc2 (HS.out.C HR3.out) hc3 (HS.out.C HR4.out) hc4 (HS.out.C HR5.out) hc5 HB0.out).mono ?_; rintro e w2 ⟨rfl, hB⟩; replace HS := Go.Lib.hid (HS.out.then_ hB); clear hB
  go_wp2_with fail
  go_ret
  exact ⟨_, rfl, (fun h => by cases h), HS.out.below⟩
end Go.Proofs.Ytnniejaknnpcjaa.Fin
