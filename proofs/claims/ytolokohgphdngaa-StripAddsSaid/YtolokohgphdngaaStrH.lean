/- The chapter's example. -/
import Derived.Test.YtolokohgphdngaaStrG
namespace Go.Proofs.Ytolokohgphdngaa.Str
open Go.RowKit Go.Proofs.YtolokohgphdngaaW.PrintWords Go.Proofs.YtolokohgphdngaaW.PrintLast Go.Proofs.YtolokohgphdngaaW.PrintMore Go.Proofs.Ytolokohgphdngaa.Mine Go.Proofs.Ytolokohgphdngaa.PStripAdds
open Go.Proofs.Ytolokohgphdngaa.Sl (SL Stp Chg St No)
set_option linter.unusedVariables false
set_option linter.unusedSimpArgs false
attribute [local go_sem] max2_int min2_int max_two min_two max_three min_three max_four min_four
variable {l : List SL} {w0 w : World} {g : Nat} {rs : List S95}
/-- A call of a printed contract that owns a row, over any state. -/
theorem row_call {α β : Type} {d : Kd α} {d' : Kd β} {ee ee' : Nat} {v : Value} {xs : List α} {ys : List β} {P : Program} {f : FuncId} {args : Array Value} {T : Ending → Value → Prop} {w w0 : World} {l : List SL} (h : St l w0 w) (n : Nat) (e1 : l[n]? = some (SL.row d ee v xs))
    (hc : ∀ (P0 : Nat → Prop) (wz : World), Below wz.heap.size wz w → d.R ee w wz.heap.size P0 v xs → Calls P f args w fun e w' => ∃ v0, T e v0 ∧ d'.R ee' w' wz.heap.size (fun k => P0 k ∨ w.heap.size ≤ k) v0 ys ∧ Below wz.heap.size wz w' ∧ Kept w w' (fun k => P0 k)) :
    Calls P f args w fun e w' => ∃ v0, T e v0 ∧ St (l.set n (SL.row d' ee' v0 ys)) w0 w' := by
  obtain ⟨S1, h1, hk⟩ := h.at_ n _ e1
  refine (hc S1 { w with heap := #[] } ⟨rfl, rfl, rfl, by simp, fun i hi => by simp at hi⟩ h1.1).mono ?_
  rintro e w' ⟨v0, hT, hR, hB, hK⟩
  refine ⟨v0, hT, hk (SL.row d' ee' v0 ys) w' (fun k => (S1 k ∨ w.heap.size ≤ k) ∧ k < w'.heap.size) ⟨Kd.R_mono (Kd.R_bound hR) (fun k hk => ⟨hk.1, hk.2.2.1⟩), fun i hi => hi.2⟩ ?_⟩
  exact ⟨⟨hB.os, hB.tape, hB.output, hK.1, fun i hi hn => hK.2 i hi hn⟩, fun i hi => hi.1⟩
/-- The document's Add: the rows are one's own. -/
theorem add27_st {l : List SL} {w0 w : World} {v : Value} {rs : List S95} (h : St l w0 w) (n : Nat) (e : l[n]? = some (SL.row k99 99 v (cv rs))) (hk : Oks rs) (id m : Int) (hm : -9223372036854775808 ≤ m ∧ m ≤ 9223372036854775807) : Calls Try.prog 36 #[v, .int .i64 id, .int .i64 m] w fun e w' => ∃ v0 A c, e = .returned (.tuple #[v0, .bool (addR rs id m).2]) ∧ v0 = .slice A (addR rs id m).1.length c ∧ St (l.set n (SL.row k99 99 (.slice A (addR rs id m).1.length c) (cv (addR rs id m).1))) w0 w' := by
  refine (row_call (T := fun e v0 => e = .returned (.tuple #[v0, .bool (addR rs id m).2])) (d' := k99) (ee' := 99) (ys := cv (addR rs id m).1) h n e (fun P0 wz hB hR => countwheelref27_Add.calls (rs.length + 3) P0 v (cv rs) id m _ _ wz w hB hR (add_is hk _ id m (Nat.le_refl _) hm))).mono ?_
  rintro e w' ⟨v0, rfl, hS⟩
  have hn : n < l.length := (List.getElem?_eq_some_iff.1 e).1
  obtain ⟨A, c, hv, _⟩ := hS.rowC n (by rw [List.getElem?_set_self hn])
  rw [cv_len] at hv
  subst hv
  exact ⟨_, A, c, rfl, rfl, hS⟩
set_option maxHeartbeats 1600000 in
set_option maxRecDepth 100000 in
theorem awake_st {l : List SL} {w0 w : World} (h : St l w0 w) : Calls Try.prog 34 #[] w fun e w' => e = .returned (.bool true) ∧ St l w0 w' := by
  have hof : ofR [1, 1, -1] = [⟨1, 2⟩, ⟨-1, 1⟩] := by kernel_rfl
  have HO := Go.Lib.hid hof
  clear hof
  suffices hh : Calls Try.prog 34 #[] w fun e w' => e = .returned (.bool true) ∧ Below w.heap.size w w' from hh.mono fun _ _ ⟨he, hb⟩ => ⟨he, h.then_ hb⟩
  clear h
  have HS := Go.Lib.hid (St.start w)
  go_enter Try.func34, Try.ntmps34
  go_upto_region 4 with (first | ((with_reducible refine gate_dst (N := 3) rfl ?_); refine Sl.lit_st (Kd.int .i64) (flat_int .i64) HS.out 3 (by rfl) (xs := [1, 1, -1]) (inner := [.int .i64 1, .int .i64 1, .int .i64 (-1)]) ?hr ?hp ?hm ?_; (case hr => first | (go_simp; done) | (go_simp; rfl)); (case hp => exact Kd.reps_scalar [1, 1, -1]); (case hm => first | decide | (simp; done)); intro v3_ w21_ HSn; obtain ⟨A3, c3, hv3, _⟩ := HSn.rowC 0 rfl; subst hv3; replace HS : Hid (St [SL.row (Kd.int .i64) 3 (.slice A3 3 c3) [1, 1, -1]] w w21_) := Go.Lib.hid HSn; clear HSn) | (go_at_call 48; refine (of_st HS.out 0 rfl rfl (by omega)).mono ?_; rintro e w22_ ⟨g, rfl, HSn⟩; replace HS : Hid (St [stp g (ofR [1, 1, -1]), SL.row (Kd.int .i64) 3 (.slice A3 3 c3) [1, 1, -1]] w w22_) := Go.Lib.hid HSn; clear HSn))
  replace HS : Hid (St [stp g [⟨1, 2⟩, ⟨-1, 1⟩], SL.row (Kd.int .i64) 3 (.slice A3 3 c3) [1, 1, -1]] w w22_) := by rw [← HO.out]; exact HS
  go_upto_region 5 with (go_at_call 42; refine (rows_st HS.out 0 rfl (by rw [← HO.out]; exact ofR_ok _)).mono ?_; rintro e w3 ⟨A, c, rfl, HSn⟩; replace HS := Go.Lib.hid HSn; clear HSn)
  obtain ⟨_, _, hv, _, hC⟩ := HS.out.rowC 0 rfl
  injection hv with q1 _ q3
  subst q1 q3
  obtain ⟨ad, rfl, g0, g1⟩ := at_T95 hC (0 : Int) (by omega) (by simp)
  obtain ⟨ad', he, g2, g3⟩ := at_T95 hC (1 : Int) (by omega) (by simp)
  injection he with he
  subst he
  replace g0 : w3.cell? ad = some (.int .i64 1) := by simpa [Addr.add, rd_T95] using g0
  replace g1 : w3.cell? ⟨ad.block, ad.off + 1, none⟩ = some (.int .i64 2) := by simpa [Addr.add, rd_T95] using g1
  replace g2 : w3.cell? ⟨ad.block, ad.off + 2, none⟩ = some (.int .i64 (-1)) := by simpa [Addr.add, rd_T95] using g2
  replace g3 : w3.cell? ⟨ad.block, ad.off + 2 + 1, none⟩ = some (.int .i64 1) := by simpa [Addr.add, rd_T95] using g3
  clear hC
  go_wp2_with fail
  go_ret
  exact ⟨rfl, HS.out.below⟩
end Go.Proofs.Ytolokohgphdngaa.Str
