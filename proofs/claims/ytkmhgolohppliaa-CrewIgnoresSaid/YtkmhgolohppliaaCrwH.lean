/- The chapter's example of a crew. -/
import Derived.Test.YtkmhgolohppliaaCrwG
import Derived.WalkArith
namespace Go.Proofs.Ytkmhgolohppliaa.Crw
open Go.RowKit Go.Proofs.Ytkmhgolohppliaa.PCellsPlays Go.Proofs.YtkmhgolohppliaaW.PrintWords Go.Proofs.YtkmhgolohppliaaW.PrintLast Go.Proofs.YtkmhgolohppliaaW.PrintMore Go.Proofs.Ytkmhgolohppliaa.Mine Go.Proofs.Ytkmhgolohppliaa.Cel Go.Proofs.Ytkmhgolohppliaa.Cls
open Go.Proofs.Ytkmhgolohppliaa.Prt (PS new_hd setMode_at act_at write_at shot_at id_st)
open Go.Proofs.Ytkmhgolohppliaa.Sl (SL Stp Chg St No wpc_seal wpc_round sealed MK look)
open Go.Proofs.YtkmhgolohppliaaW.PrintWords (results_list Vals)
set_option linter.unusedVariables false
set_option linter.unusedSimpArgs false
attribute [local go_sem] max2_int min2_int max_two min_two max_three min_three max_four min_four
theorem eqA108 (d : Nat) (w : World) (x0 y0 x1 y1 : Int) (x2 y2 : Bool) :
    (Op.equalIn (d + 2) 108 (.agg #[.int .i64 x0, .int .i64 x1, .bool x2]) (.agg #[.int .i64 y0, .int .i64 y1, .bool y2])).run Try.prog w = .ok (x0 == y0 && (x1 == y1 && (x2 == y2))) w := by
  refine eqA_of Try.underlying108 (by kernel_rfl) ?_
  refine eqf_cons (by rfl) (by go_simp; rfl) (by go_simp; rfl) (by go_simp) ?_
  refine eqf_cons (by rfl) (by go_simp; rfl) (by go_simp; rfl) (by go_simp) ?_
  exact eqf_last (by rfl) (by go_simp; rfl) (by go_simp; rfl) (by go_simp)
attribute [local go_sem high] eqA108
theorem z3 {w : World} {a : Addr} {u : Option Value} (h : w.cell? (a.add ((0 : Int).toNat * 3)) = u) : w.cell? a = u := by
  have e : a.add ((0 : Int).toNat * 3) = a := by cases a; simp [Addr.add]
  rwa [e] at h
theorem z3o {w : World} {a : Addr} {k : Nat} {u : Option Value} (h : w.cell? ⟨(a.add ((0 : Int).toNat * 3)).block, (a.add ((0 : Int).toNat * 3)).off + k, none⟩ = u) : w.cell? ⟨a.block, a.off + k, none⟩ = u := by
  have e : a.add ((0 : Int).toNat * 3) = a := by cases a; simp [Addr.add]
  rwa [e] at h
theorem slit_st {P : Program} {ops : Array Oper} {rest : List Oper} {o : Oper} {a : Act} {Q : Exit → Act → World → Prop} {l : List SL} {w0 W : World} (HS : St l w0 W) (hgd : o.guard = none) {cs : Array Value} {t : TypeId} {n : Nat}
    (hrun : (execOp a.eval o).run P W = .ok (.value (.slice (some ⟨W.heap.size, 0, none⟩) n n)) (W.alloc (.cells cs t (0, 0))))
    (h : ∀ g w1, St (SL.blk g t cs :: l) w0 w1 → Below W.heap.size W w1 → wpList P ops Q rest (a.put o.dst (.slice (some ⟨g, 0, none⟩) n n)) w1) : wpList P ops Q (o :: rest) a W :=
  Kd.event_run hgd hrun (h _ _ (HS.box t cs) (below_alloc (Below.refl _ _) _))
theorem part1 {l : List SL} {w0 : World} {g : Nat} : PartsAt (SL.blk g 63 #[.int .i64 0, .string ⟨#[]⟩, .bool false, .slice none 0 0] :: l) w0 (some ⟨g, 0, none⟩) [z63] := by
  intro k hk
  obtain rfl : k = 0 := by simp at hk; exact hk
  refine ⟨⟨g, 0, none⟩, none, 0, rfl, Nat.le_refl _, fun lx w1 h1 => ?_⟩
  obtain ⟨a, b, c, d⟩ := h1.c4 lx.length g 63 _ _ _ _ (by rw [List.getElem?_append_right (Nat.le_refl _), Nat.sub_self]; rfl)
  exact ⟨a, b, c, d, ⟨rfl, by simp [z63], fun h => absurd h (by simp [z63])⟩⟩
theorem init_fine (g : Nat) (p : S63) (h : p.f3.length ≤ 1000) : Fine ⟨g, p, PS.init p.f3⟩ := ⟨by show (0 : Int) ≤ 1; decide, by show (1 : Int) ≤ 100000; decide, h, by show (p.f3.map _).length = _; simp, Int.le_refl 0⟩
theorem mem_read {α : Type} {d : Kd α} {ee : Nat} {A : Option Addr} {c : Nat} {xs : List α} {L : List SL} {w0 w1 : World} (h : St L w0 w1) (hm : SL.row d ee (.slice A xs.length c) xs ∈ L) : xs.length ≤ c ∧ d.C w1 A xs.length xs := by
  obtain ⟨n, e⟩ := List.getElem?_of_mem hm
  exact rowC_in h n e
variable {l : List SL} {w0 w : World}
set_option maxHeartbeats 3200000 in
set_option maxRecDepth 100000 in
theorem awake_st (h : St l w0 w) : Calls Try.prog 55 #[] w fun e w' => e = .returned (.bool true) ∧ St l w0 w' := by
  have HS := Go.Lib.hid h
  clear h
  go_enter Try.func55, Try.ntmps55
  go_wp2_with ((with_reducible refine gate_dst (N := 8) rfl ?_); refine slit_st HS.out (by rfl) (cs := #[.int .i64 0, .string ⟨#[]⟩, .bool false, .slice none 0 0]) (t := 63) (n := 1) ?hr ?_; (case hr => first | (go_simp; done) | (go_simp; rfl)); intro g w1_ HSn HBn; clear HBn; replace HS := Go.Lib.hid HSn; clear HSn)
  refine (crew_new HS.out (some ⟨g, 0, none⟩) 1 [z63] part1 (by simp) (by simp [z63]) (fun x hx => by rw [List.mem_singleton.1 hx]; exact Go.WalkArith.wf_i64 (by decide))).mono ?_
  rintro e w2 (⟨_, gc, bm, A, c, ids, ps, rfl, hps, hids, hin, hS⟩ | ⟨hn, _⟩)
  rotate_left
  · exact absurd (fun i hi => by simp at hi) hn
  obtain ⟨⟨xg, xp, xs⟩, rfl⟩ : ∃ x, ps = [x] := by
    match ps, hps with
    | [x], _ => exact ⟨x, rfl⟩
    | [], h => cases h
    | _ :: _ :: _, h => simp at h
  obtain rfl : xp = z63 := (List.cons.inj hps).1
  obtain rfl : xs = PS.init [] := hin _ (List.mem_singleton.2 rfl)
  replace HS := Go.Lib.hid hS
  have HI := Go.Lib.hid hids
  clear hps hids hin hS
  go_wp2_with (first | ((with_reducible refine gate_dst (N := 19) rfl ?_); refine Sl.lit_st (k103) ((flat_iso (flat_pair (flat_int .i64) (flat_pair (flat_int .i64) (flat_int .i64))))) HS.out 103 (by rfl) (xs := [⟨1, 0, 2⟩]) (inner := [.int .i64 1, .int .i64 0, .int .i64 2]) ?hr ?hp ?hm ?_; (case hr => first | (go_simp; done) | (go_simp; rfl)); (case hp => exact Reps.c3 (k103_mk _ _) (Reps.none _ _)); (case hm => first | decide | (simp; done)); intro v19_ w11_ HSn; obtain ⟨A19, c19, hv19, _⟩ := HSn.rowC 0 rfl; subst hv19; replace HS : Hid (St (SL.row k103 103 (.slice A19 ([⟨1, 0, 2⟩] : List S103).length c19) [⟨1, 0, 2⟩] :: (crewL gc bm A c ids [⟨xg, z63, PS.init []⟩] (SL.blk g 63 #[.int .i64 0, .string ⟨#[]⟩, .bool false, .slice none 0 0] :: l))) w0 w11_) := Go.Lib.hid HSn; clear HSn))
  refine (change_st (pre := [SL.row k103 103 (.slice A19 ([⟨1, 0, 2⟩] : List S103).length c19) [⟨1, 0, 2⟩]]) HS.out HI.out (by simp [idsC]) (fun x hx => by rw [List.mem_singleton.1 hx]; exact init_fine xg z63 (by simp [z63])) (fun x hx => by rw [List.mem_singleton.1 hx]; show (Lit.int .i64 0).wf = true; exact Go.WalkArith.wf_i64 (by decide)) (by simp) A19 c19 [⟨1, 0, 2⟩] (fun lx ps2 w1 h1 => (mem_read (d := k103) (ee := 103) (c := c19) (xs := [⟨1, 0, 2⟩]) h1 (List.mem_append_right _ (List.mem_append_left _ (by simp)))).2) (by simp) 1).mono ?_
  rintro e w3 ⟨A5, c5, ds, rfl, hds, hS⟩
  obtain rfl : ds = [⟨0, 2, true⟩] := hds
  replace HS : Hid (St ((SL.row k108 108 (.slice A5 ([⟨0, 2, true⟩] : List S108).length c5) [⟨0, 2, true⟩] :: [SL.row k103 103 (.slice A19 ([⟨1, 0, 2⟩] : List S103).length c19) [⟨1, 0, 2⟩]]) ++ crewL gc bm A c ids [actOf [⟨1, 0, 2⟩] 1 ⟨xg, z63, PS.init []⟩] (SL.blk g 63 #[.int .i64 0, .string ⟨#[]⟩, .bool false, .slice none 0 0] :: l)) w0 w3) := Go.Lib.hid hS
  clear hS
  go_wp2_with fail
  refine (change_st (pre := SL.row k108 108 (.slice A5 ([⟨0, 2, true⟩] : List S108).length c5) [⟨0, 2, true⟩] :: [SL.row k103 103 (.slice A19 ([⟨1, 0, 2⟩] : List S103).length c19) [⟨1, 0, 2⟩]]) HS.out HI.out (by simp [idsC]) (fun x hx => by rw [List.mem_singleton.1 hx]; exact (init_fine xg z63 (by simp [z63])).turn _ (by show (1 : Int) ≤ 99999; decide)) (fun x hx => by rw [List.mem_singleton.1 hx]; show (Lit.int .i64 0).wf = true; exact Go.WalkArith.wf_i64 (by decide)) (by simp) A19 c19 [⟨1, 0, 2⟩] (fun lx ps2 w1 h1 => (mem_read (d := k103) (ee := 103) (c := c19) (xs := [⟨1, 0, 2⟩]) h1 (List.mem_append_right _ (List.mem_append_left _ (by simp)))).2) (by simp) 2).mono ?_
  rintro e w4 ⟨A6, c6, ds, rfl, hds, hS⟩
  obtain rfl : ds = [⟨0, 0, false⟩] := hds
  have HS2 := Go.Lib.hid hS
  obtain ⟨a5, rfl, x0, x1, x2⟩ := at_T108 (mem_read (d := k108) (ee := 108) (A := A5) (c := c5) (xs := [⟨0, 2, true⟩]) hS (by simp)).2 0 (by decide) (by decide)
  obtain ⟨a6, rfl, y0, y1, y2⟩ := at_T108 (mem_read (d := k108) (ee := 108) (A := A6) (c := c6) (xs := [⟨0, 0, false⟩]) hS (by simp)).2 0 (by decide) (by decide)
  have k0 : w4.cell? a5 = some (.int .i64 0) := z3 x0
  have k1 : w4.cell? ⟨a5.block, a5.off + 1, none⟩ = some (.int .i64 2) := z3o x1
  have k2 : w4.cell? ⟨a5.block, a5.off + 2, none⟩ = some (.bool true) := z3o x2
  have k3 : w4.cell? a6 = some (.int .i64 0) := z3 y0
  have k4 : w4.cell? ⟨a6.block, a6.off + 1, none⟩ = some (.int .i64 0) := z3o y1
  have k5 : w4.cell? ⟨a6.block, a6.off + 2, none⟩ = some (.bool false) := z3o y2
  clear hS HS x0 x1 x2 y0 y1 y2
  go_wp2_with fail
  go_ret
  exact ⟨rfl, (drop_all (partsL _) (HS2.out.drop.drop.drop.drop.drop.drop)).drop⟩
end Go.Proofs.Ytkmhgolohppliaa.Crw
