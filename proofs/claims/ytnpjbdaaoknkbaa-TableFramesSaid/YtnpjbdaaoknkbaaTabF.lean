/- The chapter's example of a table. -/
import Derived.Test.YtnpjbdaaoknkbaaTabE
namespace Go.Proofs.Ytnpjbdaaoknkbaa.Tab
open Go.RowKit Go.Proofs.YtnpjbdaaoknkbaaW.PrintWords Go.Proofs.YtnpjbdaaoknkbaaW.PrintLast Go.Proofs.YtnpjbdaaoknkbaaW.PrintMore Go.Proofs.Ytnpjbdaaoknkbaa.Mine Go.Proofs.Ytnpjbdaaoknkbaa.PTableFrames
open Go.Proofs.Ytnpjbdaaoknkbaa.Sl (SL Stp Chg St No wpc_seal wpc_round sealed)
set_option linter.unusedVariables false
set_option linter.unusedSimpArgs false
attribute [local go_sem] max2_int min2_int max_two min_two max_three min_three max_four min_four
theorem eqA44 (d : Nat) (w : World) (x0 y0 x1 y1 x2 y2 : Int) :
    (Op.equalIn (d + 2) 44 (.agg #[.int .i64 x0, .int .i64 x1, .int .i64 x2]) (.agg #[.int .i64 y0, .int .i64 y1, .int .i64 y2])).run Try.prog w = .ok (x0 == y0 && (x1 == y1 && (x2 == y2))) w := by
  refine eqA_of Try.underlying44 (by kernel_rfl) ?_
  refine eqf_cons (by rfl) (by go_simp; rfl) (by go_simp; rfl) (by go_simp) ?_
  refine eqf_cons (by rfl) (by go_simp; rfl) (by go_simp; rfl) (by go_simp) ?_
  exact eqf_last (by rfl) (by go_simp; rfl) (by go_simp; rfl) (by go_simp)
attribute [local go_sem high] eqA44
variable {l : List SL} {w0 w : World}
theorem rowC_at {α : Type} {d : Kd α} {ee : Nat} {A : Option Addr} {c : Nat} {xs : List α} {lx : List SL} {w1 : World} (h : St (lx ++ l) w0 w1) (n : Nat) (e : l[n]? = some (SL.row d ee (.slice A xs.length c) xs)) : d.C w1 A xs.length xs := by
  obtain ⟨A', c', hv, _, hC⟩ := h.rowC (lx.length + n) (by rw [List.getElem?_append_right (by omega), Nat.add_sub_cancel_left]; exact e)
  injection hv with q1 _ q2
  rw [q1]; exact hC
theorem nil87 (w : World) : Kd.C k87 w none ([] : List S87).length [] := ⟨rfl, by simp, fun h => absurd h (by simp)⟩
abbrev wsA : List S30 := [⟨1, 2, 3⟩, ⟨1, 5, 1⟩]
theorem badA : ¬ BadW 0 10 wsA [] [1] := by
  rintro ⟨j, r, hj, hr, h⟩
  have hj2 : j = 0 ∨ j = 1 := by simp at hj; omega
  rcases hj2 with rfl | rfl
  · have h2 : window_wrong.f ([(1 : Int)].length + 2) 0 10 wsA [] ((0 : Nat) : Int) [1] = some 0 := by kernel_rfl
    rw [h2] at h; injection h with h; exact hr h.symm
  · have h2 : window_wrong.f ([(1 : Int)].length + 2) 0 10 wsA [] ((1 : Nat) : Int) [1] = some 0 := by kernel_rfl
    rw [h2] at h; injection h with h; exact hr h.symm
theorem allA : allR 10 wsA = [⟨-1, 0, 2⟩, ⟨1, 2, 4⟩, ⟨-1, 6, 4⟩] := by rfl
theorem c3_ {α : Type} {R : α → List Value → Prop} {a b c : Value} {p : α} {ps : List α} {cs : List Value} (hp : R p [a, b, c]) (h : Reps R 3 ps cs) : Reps R 3 (p :: ps) (a :: b :: c :: cs) := Reps.c3 hp h
theorem offA : ∀ j : Nat, j < wsA.length → 0 ≤ (wsA.getD j z30).f1 ∧ (wsA.getD j z30).f1 ≤ 4000000 ∧ (wsA.getD j z30).f2 ≤ 4000000 := by
  intro j hj
  have hj2 : j = 0 ∨ j = 1 := by simp at hj; omega
  rcases hj2 with rfl | rfl <;> exact ⟨by decide, by decide, by decide⟩
set_option maxHeartbeats 3200000 in
set_option maxRecDepth 100000 in
theorem awake_st (h : St l w0 w) : Calls Try.prog 11 #[] w fun e w' => e = .returned (.bool true) ∧ St l w0 w' := by
  have HS := Go.Lib.hid h
  clear h
  go_enter Try.func11, Try.ntmps11
  go_wp2_with (first | ((with_reducible refine gate_dst (N := 7) rfl ?_); refine Sl.lit_st (k30) ((flat_iso (flat_pair (flat_int .i64) (flat_pair (flat_int .i64) (flat_int .i64))))) HS.out 30 (by rfl) (xs := wsA) (inner := [.int .i64 1, .int .i64 2, .int .i64 3, .int .i64 1, .int .i64 5, .int .i64 1]) ?hr ?hp ?hm ?_; (case hr => first | (go_simp; done) | (go_simp; rfl)); (case hp => exact Reps.c3 (k30_mk _ _) (Reps.c3 (k30_mk _ _) (Reps.none _ _))); (case hm => first | decide | (simp; done)); intro v7_ w1_ HSn; obtain ⟨A7, c7, hv7, _⟩ := HSn.rowC 0 rfl; subst hv7; replace HS : Hid (St (SL.row k30 30 (.slice A7 wsA.length c7) wsA :: l) w0 w1_) := Go.Lib.hid HSn; clear HSn) | ((with_reducible refine gate_dst (N := 9) rfl ?_); refine Sl.lit_st (Kd.int .i64) (flat_int .i64) HS.out 3 (by rfl) (xs := [1]) (inner := [.int .i64 1]) ?hr ?hp ?hm ?_; (case hr => first | (go_simp; done) | (go_simp; rfl)); (case hp => exact Kd.reps_scalar [1]); (case hm => first | decide | (simp; done)); intro v9_ w2_ HSn; obtain ⟨A9, c9, hv9, _⟩ := HSn.rowC 0 rfl; subst hv9; replace HS : Hid (St (SL.row (Kd.int .i64) 3 (.slice A9 ([1] : List Int).length c9) [1] :: SL.row k30 30 (.slice A7 wsA.length c7) wsA :: l) w0 w2_) := Go.Lib.hid HSn; clear HSn))
  obtain ⟨_, _, hv7_, hc7, _⟩ := HS.out.rowC 1 rfl
  injection hv7_ with _ _ q7
  obtain ⟨_, _, hv9_, hc9, _⟩ := HS.out.rowC 0 rfl
  injection hv9_ with _ _ q9
  rw [← q7] at hc7
  rw [← q9] at hc9
  have H7 := Go.Lib.hid hc7
  have H9 := Go.Lib.hid hc9
  clear q7 q9 hc7 hc9
  refine (new_st HS.out 0 10 A7 c7 wsA none 0 [] A9 c9 [1] (fun lx w1 h1 => rowC_at h1 1 rfl) H7.out (fun lx w1 h1 => nil87 w1) (Nat.le_refl _) (fun lx w1 h1 => rowC_at h1 0 rfl) H9.out (by unfold Small; simp) (by decide) (by decide) (by simp) offA (by decide) (by decide)).mono ?_
  rintro e w2 (⟨gt, A, c, rfl, _, hS⟩ | ⟨g, rfl, hb, _⟩)
  rotate_left
  · exact absurd hb badA
  · rw [allA] at hS
    have HSa := Go.Lib.hid hS
    clear hS HS
    go_wp2_with fail
    refine (runs_st HSa.out (id := 0) (fr := 10) (rs := [⟨-1, 0, 2⟩, ⟨1, 2, 4⟩, ⟨-1, 6, 4⟩]) ⟨0, 1, A, c, rfl, rfl⟩ (by simp)).mono ?_
    rintro e w3 ⟨A3, c3, rfl, hS⟩
    have HSb := Go.Lib.hid hS
    obtain ⟨_, _, hv, _, hC⟩ := hS.rowC 0 rfl
    injection hv with q1 _ q2
    subst q1
    clear hS HSa
    obtain ⟨ad, rfl, g0, g1, g2⟩ := at_T44 hC 1 (by decide) (by decide)
    have k0 : w3.cell? (ad.add 3) = some (.int .i64 1) := g0
    have k1 : w3.cell? ⟨ad.block, ad.off + 3 + 1, none⟩ = some (.int .i64 2) := g1
    have k2 : w3.cell? ⟨ad.block, ad.off + 3 + 2, none⟩ = some (.int .i64 4) := g2
    have k3 : w3.cell? ⟨ad.block, ad.off + 3, none⟩ = some (.int .i64 1) := k0
    clear hC q2 g0 g1 g2
    go_wp2_with fail
    go_ret
    exact ⟨rfl, HSb.out.drop.drop.drop.drop.drop⟩
end Go.Proofs.Ytnpjbdaaoknkbaa.Tab
