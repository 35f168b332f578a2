/- An engine in memory: what is made due. -/
import Derived.Test.YtnpjbdaaoknkbaaYFrmB
namespace Go.Proofs.Ytnpjbdaaoknkbaa.Frm
open Go.RowKit Go.Proofs.YtnpjbdaaoknkbaaW.PrintWords Go.Proofs.YtnpjbdaaoknkbaaW.PrintLast Go.Proofs.YtnpjbdaaoknkbaaW.PrintMore Go.Proofs.Ytnpjbdaaoknkbaa.Mine Go.Proofs.Ytnpjbdaaoknkbaa.PTableFrames
open Go.Proofs.Ytnpjbdaaoknkbaa.Sl (SL Stp Chg St No wpc_seal wpc_round sealed)
set_option linter.unusedVariables false
set_option linter.unusedSimpArgs false
attribute [local go_sem] max2_int min2_int max_two min_two max_three min_three max_four min_four
open Go.Proofs.Ytnpjbdaaoknkbaa.Tab (InT In Runs cur_tick)
open Go.Proofs.Ytnpjbdaaoknkbaa.Sl (MK look)
/-- Keys that are ids. -/
abbrev KI : MK Try.prog 3 Int := MK.int .i64 Try.underlying3
theorem zero31 (w : World) : (zeroValue 31).run Try.prog w = .ok (.pointer none) w := by kernel_rfl
variable {l : List SL} {w0 w : World} {ge gc gk gt bm : Nat} {due t id fr now frames : Int} {j : Nat} {rs : List S44}
theorem make_no (h : St l w0 w) (ne : Nat) (eE : l[ne]? = some (SL.blk ge 108 #[.map (some bm), .pointer (some ⟨gc, 0, none⟩), .int .i64 due, .pointer (some ⟨gk, 0, none⟩), .int .u64 frames])) (nm : Nat) (m : List (Int × Value)) (eM : l[nm]? = some (SL.map KI bm m)) (x : Int) (hx : (Lit.int .i64 x).wf = true) (hl : Sl.look m x = none) :
  Calls Try.prog 30 #[.pointer (some ⟨ge, 0, none⟩), .int .i64 x] w fun e w' => e = .returned (.bool false) ∧ St l w0 w' := by
 obtain ⟨q0, q1, q2, q3, q4⟩ := h.c5 ne _ _ _ _ _ _ _ eE
 have HS := Go.Lib.hid h
 have HE := Go.Lib.hid eE
 have HM := Go.Lib.hid eM
 have HX : Hid (KI.ok x) := Go.Lib.hid hx
 have HL := Go.Lib.hid hl
 clear h eE eM hx hl
 go_enter Try.func30, Try.ntmps30
 go_wp2_with (first | (at_lookup; refine Sl.lookok_st HS.out nm HM.out 104 31 Try.underlying104 (zero31 _) x HX.out rfl (.tmp 11) (.tmp 12) rfl rfl rfl ?_; rw [HL.out]; simp only [Option.getD_none, Option.isSome_none, Option.getD_some, Option.isSome_some]))
 go_ret
 exact ⟨rfl, HS.out⟩
theorem make_yes (h : St l w0 w) (ne : Nat) (eE : l[ne]? = some (SL.blk ge 108 #[.map (some bm), .pointer (some ⟨gc, 0, none⟩), .int .i64 due, .pointer (some ⟨gk, 0, none⟩), .int .u64 frames])) (nm : Nat) (m : List (Int × Value)) (eM : l[nm]? = some (SL.map KI bm m)) (x : Int) (hx : (Lit.int .i64 x).wf = true) (v : Value) (hl : Sl.look m x = some v) :
  Calls Try.prog 30 #[.pointer (some ⟨ge, 0, none⟩), .int .i64 x] w fun e w' => e = .returned (.bool true) ∧ St (l.set ne (SL.blk ge 108 #[.map (some bm), .pointer (some ⟨gc, 0, none⟩), .int .i64 x, .pointer (some ⟨gk, 0, none⟩), .int .u64 frames])) w0 w' := by
 obtain ⟨q0, q1, q2, q3, q4⟩ := h.c5 ne _ _ _ _ _ _ _ eE
 have HS := Go.Lib.hid h
 have HE := Go.Lib.hid eE
 have HM := Go.Lib.hid eM
 have HX : Hid (KI.ok x) := Go.Lib.hid hx
 have HL := Go.Lib.hid hl
 clear h eE eM hx hl
 go_enter Try.func30, Try.ntmps30
 go_wp2_with (first | (at_lookup; refine Sl.lookok_st HS.out nm HM.out 104 31 Try.underlying104 (zero31 _) x HX.out rfl (.tmp 11) (.tmp 12) rfl rfl rfl ?_; rw [HL.out]; simp only [Option.getD_none, Option.isSome_none, Option.getD_some, Option.isSome_some]) | ((with_reducible refine gate_store (p := 20) rfl ?_); refine Sl.store_st HS.out ne ge 108 _ HE.out 2 (.int .i64 x) (by rfl) (by rfl) ?hr ?_; (case hr => have f_ := HS.out.free ne _ _ _ HE.out 2; first | (go_simp; done) | (go_simp; rfl)); intro w1_ HSn; replace HS := Go.Lib.hid HSn; clear HSn q0 q1 q2 q3 q4))
 go_ret
 exact ⟨rfl, HS.out⟩
end Go.Proofs.Ytnpjbdaaoknkbaa.Frm
