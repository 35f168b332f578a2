/- What an engine tells, over its model; the chapter's example. -/
import Derived.Test.YtnpjbdaaoknkbaaYFrmI
namespace Go.Proofs.Ytnpjbdaaoknkbaa.Frm
open Go.RowKit Go.Proofs.YtnpjbdaaoknkbaaW.PrintWords Go.Proofs.YtnpjbdaaoknkbaaW.PrintLast Go.Proofs.YtnpjbdaaoknkbaaW.PrintMore Go.Proofs.Ytnpjbdaaoknkbaa.Mine Go.Proofs.Ytnpjbdaaoknkbaa.PTableFrames
open Go.Proofs.Ytnpjbdaaoknkbaa.Sl (SL Stp Chg St No wpc_seal wpc_round sealed MK look)
open Go.Proofs.Ytnpjbdaaoknkbaa.Tab (InT In InA Runs cur_tick cur_owner step_st nextT nextJ rd_mem cursor_st allR allR_is ownW OkW mkR_len grw_len at_run Small SchedIn BadW NewPost new_st WinIn)
set_option linter.unusedVariables false
set_option linter.unusedSimpArgs false
attribute [local go_sem] max2_int min2_int max_two min_two max_three min_three max_four min_four
section
variable {l : List SL} {w0 w : World} {ge gk bm : Nat} {ts : List Tb} {m : List (Int × Value)} {x : EM}
theorem tabs_of {ts : List Tb} (hok : ∀ x ∈ ts, TbOk x) (l : List SL) : Tabs (tabL ts ++ l) ts := ⟨fun x hx => in_tabL hx l, hok⟩
theorem Tabs.cons {l : List SL} {ts : List Tb} (T : Tabs l ts) (X : SL) : Tabs (X :: l) ts := ⟨fun x hx => (T.ins x hx).cons X, T.ok⟩
theorem e_now (h : EngSt l ge gk bm m x w0 w) : Calls Try.prog 29 #[.pointer (some ⟨ge, 0, none⟩)] w fun e w' => e = .returned (.int .u64 x.now) ∧ w = w' := by
 obtain ⟨gc, j, _, hS⟩ := h; exact eng_now hS 0 rfl 2 rfl
theorem e_halted (h : EngSt l ge gk bm m x w0 w) (b : Bool) (hb : (x.now == 18446744073709551615) = b) : Calls Try.prog 28 #[.pointer (some ⟨ge, 0, none⟩)] w fun e w' => e = .returned (.bool b) ∧ w = w' := by
 obtain ⟨gc, j, _, hS⟩ := h; exact eng_halted hS 0 rfl 2 rfl b hb
theorem e_due (h : EngSt l ge gk bm m x w0 w) : Calls Try.prog 31 #[.pointer (some ⟨ge, 0, none⟩)] w fun e w' => e = .returned (.int .i64 x.due) ∧ w = w' := by
 obtain ⟨gc, j, _, hS⟩ := h; exact eng_due hS 0 rfl
theorem e_frames (h : EngSt l ge gk bm m x w0 w) : Calls Try.prog 27 #[.pointer (some ⟨ge, 0, none⟩)] w fun e w' => e = .returned (.int .u64 x.frames) ∧ w = w' := by
 obtain ⟨gc, j, _, hS⟩ := h; exact eng_frames hS 0 rfl
theorem e_offset (h : EngSt l ge gk bm m x w0 w) (T : Tabs l ts) (G : Good ts x) : Calls Try.prog 25 #[.pointer (some ⟨ge, 0, none⟩)] w fun e w' => e = .returned (.int .i64 x.t) ∧ w = w' := by
 obtain ⟨gc, j, _, hS⟩ := h; exact eng_offset hS 0 rfl 3 rfl (((((T.ins _ G.cur).t.cons _).cons _).cons _).cons _)
theorem e_current (h : EngSt l ge gk bm m x w0 w) (T : Tabs l ts) (G : Good ts x) : Calls Try.prog 26 #[.pointer (some ⟨ge, 0, none⟩)] w fun e w' => e = .returned (.int .i64 x.cur.id) ∧ w = w' := by
 obtain ⟨gc, j, _, hS⟩ := h; exact eng_current hS 0 rfl 3 rfl (((((T.ins _ G.cur).t.cons _).cons _).cons _).cons _)
/-- What Make makes of an engine. -/
def EM.make (ts : List Tb) (x : EM) (id : Int) : EM := if (findT ts id).isSome then { x with due := id } else x
theorem Good.make {ts : List Tb} {x : EM} (G : Good ts x) (id : Int) : Good ts (x.make ts id) := by
 unfold EM.make
 cases c : findT ts id with
 | none => exact G
 | some y => exact ⟨G.cur, G.t0, G.t1, ⟨y, c⟩, G.now0, G.now1, G.f0, G.f1⟩
theorem e_make (h : EngSt l ge gk bm m x w0 w) (M : Maps ts m) (id : Int) (hid : (Lit.int .i64 id).wf = true) : Calls Try.prog 30 #[.pointer (some ⟨ge, 0, none⟩), .int .i64 id] w fun e w' => e = .returned (.bool (findT ts id).isSome) ∧ EngSt l ge gk bm m (x.make ts id) w0 w' := by
 obtain ⟨gc, j, hi, hS⟩ := h
 unfold EM.make
 have hM := M id
 cases c : findT ts id with
 | none =>
  rw [c] at hM
  refine (make_no hS 0 rfl 1 m rfl id hid hM).mono ?_
  rintro e w' ⟨rfl, h2⟩
  exact ⟨rfl, gc, j, hi, h2⟩
 | some y =>
  rw [c] at hM
  refine (make_yes hS 0 rfl 1 m rfl id hid _ hM).mono ?_
  rintro e w' ⟨rfl, h2⟩
  exact ⟨rfl, gc, j, hi, h2⟩
end
section
variable {P : Program} {ops : Array Oper} {rest : List Oper} {o : Oper} {a : Act} {Q : Exit → Act → World → Prop} {l : List SL} {w0 W : World}
/-- A row of structs, written out, as a block. -/
theorem slit_st (HS : St l w0 W) (hgd : o.guard = none) {cs : Array Value} {t : TypeId} {n : Nat}
  (hrun : (execOp a.eval o).run P W = .ok (.value (.slice (some ⟨W.heap.size, 0, none⟩) n n)) (W.alloc (.cells cs t (0, 0))))
  (h : ∀ g w1, St (SL.blk g t cs :: l) w0 w1 → Below W.heap.size W w1 → wpList P ops Q rest (a.put o.dst (.slice (some ⟨g, 0, none⟩) n n)) w1) : wpList P ops Q (o :: rest) a W :=
 Kd.event_run hgd hrun (h _ _ (HS.box t cs) (below_alloc (Below.refl _ _) _))
end
theorem ask2 : ∀ s ∈ [(⟨0, 2, [], []⟩ : S25)], Ask [] s := by
 intro s hs
 obtain rfl := List.mem_singleton.1 hs
 exact ⟨⟨by decide, by decide, by decide, by decide, by decide, by decide, (fun w hw => by cases hw), (fun w hw => by cases hw)⟩, by decide, by decide, fun j hj => absurd hj (Nat.not_lt_zero _)⟩
theorem sched2 {l : List SL} {w0 : World} {g : Nat} : SchedsAt (SL.blk g 25 #[.int .i64 0, .int .i64 2, .slice none 0 0, .slice none 0 0] :: l) w0 (some ⟨g, 0, none⟩) [⟨0, 2, [], []⟩] := by
 intro k hk
 obtain rfl : k = 0 := by simp at hk; exact hk
 refine ⟨⟨g, 0, none⟩, none, 0, none, 0, rfl, Nat.le_refl _, Nat.le_refl _, fun lx w1 h1 => ?_⟩
 obtain ⟨a, b, c, d⟩ := h1.c4 lx.length g 25 _ _ _ _ (by rw [List.getElem?_append_right (Nat.le_refl _), Nat.sub_self]; rfl)
 exact ⟨a, b, c, d, ⟨rfl, by simp, fun h => absurd h (by simp)⟩, ⟨rfl, by simp, fun h => absurd h (by simp)⟩⟩
theorem nilI (w : World) : Kd.C (Kd.int .i64) w none ([] : List Int).length [] := ⟨rfl, by simp, fun h => absurd h (by simp)⟩
set_option maxHeartbeats 1600000 in
set_option maxRecDepth 100000 in
theorem awake_st {l : List SL} {w0 w : World} (h : St l w0 w) : Calls Try.prog 21 #[] w fun e w' => e = .returned (.bool true) ∧ St l w0 w' := by
 have HS := Go.Lib.hid h
 clear h
 go_enter Try.func21, Try.ntmps21
 go_wp2_with ((with_reducible refine gate_dst (N := 11) rfl ?_); refine slit_st HS.out (by rfl) (cs := #[.int .i64 0, .int .i64 2, .slice none 0 0, .slice none 0 0]) (t := 25) (n := 1) ?hr ?_; (case hr => first | (go_simp; done) | (go_simp; rfl)); intro g w1_ HSn HBn; clear HBn; replace HS := Go.Lib.hid HSn; clear HSn)
 refine (tables_st HS.out (some ⟨g, 0, none⟩) 1 [⟨0, 2, [], []⟩] none 0 [] sched2 (fun lx w1 h1 => nilI w1) (Nat.le_refl _) (by unfold Small; simp) ask2 (by decide)).mono ?_
 rintro e w2 ⟨ts, gs, A, c, rfl, hgs, hsrc, hok, hS⟩
 obtain ⟨y, rfl⟩ : ∃ y, ts = [y] := by
  match ts, hsrc with
  | [y], _ => exact ⟨y, rfl⟩
  | [], h => cases h
  | _ :: _ :: _, h => simp at h
 have hsy : y.src = (0, 2, []) := (List.cons.inj hsrc).1
 obtain ⟨yg, yid, yfr, yws, ya, yc⟩ := y
 injection hsy with e1 e2
 injection e2 with e2 e3
 obtain rfl : yid = 0 := e1
 obtain rfl : yfr = 2 := e2
 obtain rfl : yws = [] := e3
 clear hsrc
 replace HS := Go.Lib.hid hS
 have HG := Go.Lib.hid hgs
 have hT : Tabs (SL.row KP 31 (.slice A gs.length c) gs :: (tabL [⟨yg, 0, 2, [], ya, yc⟩] ++ (SL.blk g 25 #[.int .i64 0, .int .i64 2, .slice none 0 0, .slice none 0 0] :: l))) [⟨yg, 0, 2, [], ya, yc⟩] := (tabs_of hok _).cons _
 have HT := Go.Lib.hid hT
 have HM := Go.Lib.hid (maps_of [(⟨yg, 0, 2, [], ya, yc⟩ : Tb)] (by simp))
 have HU := Go.Lib.hid (uniq_of [(⟨yg, 0, 2, [], ya, yc⟩ : Tb)] (by simp))
 clear hS hgs hT hok
 go_wp2_with fail
 refine (eng_new A c [⟨yg, 0, 2, [], ya, yc⟩] gs 0 rfl HS.out HG.out HT.out (by simp) 0 0 (Go.WalkArith.wf_i64 (by decide))).mono ?_
 have hf : findT [(⟨yg, 0, 2, [], ya, yc⟩ : Tb)] 0 = some ⟨yg, 0, 2, [], ya, yc⟩ := by rfl
 rintro e w3 (⟨ge, gk, bm, y, _, hy, rfl, hE⟩ | ⟨hn, _⟩ | ⟨_, hn, _⟩)
 rotate_left
 ·exact absurd (by simp) hn
 ·rw [hf] at hn; cases hn
 rw [hf] at hy
 obtain rfl := Option.some.inj hy
 have G0 : Good [⟨yg, 0, 2, [], ya, yc⟩] ⟨⟨yg, 0, 2, [], ya, yc⟩, 0, 0, 0, 0⟩ := ⟨List.mem_singleton.2 rfl, Int.le_refl 0, by show (0 : Int) < 2; decide, ⟨_, hf⟩, Int.le_refl 0, by show (0 : Int) ≤ 18446744073709551615; decide, Int.le_refl 0, Int.le_refl 0⟩
 have G1 := G0.tick HT.out.ok
 have HE := Go.Lib.hid hE
 have HG0 := Go.Lib.hid G0
 have HG1 := Go.Lib.hid G1
 have hb0 : EM.bnd ⟨⟨yg, 0, 2, [], ya, yc⟩, 0, 0, 0, 0⟩ = false := by rfl
 have hl0 : EM.live ⟨⟨yg, 0, 2, [], ya, yc⟩, 0, 0, 0, 0⟩ = true := by rfl
 have hb1 : EM.bnd (EM.tick [⟨yg, 0, 2, [], ya, yc⟩] ⟨⟨yg, 0, 2, [], ya, yc⟩, 0, 0, 0, 0⟩) = true := by rfl
 have hl1 : EM.live (EM.tick [⟨yg, 0, 2, [], ya, yc⟩] ⟨⟨yg, 0, 2, [], ya, yc⟩, 0, 0, 0, 0⟩) = true := by rfl
 have H0 := Go.Lib.hid (And.intro hb0 hl0)
 have H1 := Go.Lib.hid (And.intro hb1 hl1)
 clear hb0 hl0 hb1 hl1 G0 G1 hE hf hy
 go_wp2_with fail
 refine (tick_st HE.out HT.out HM.out HU.out HG0.out).mono ?_
 rintro e w4 ⟨rfl, hE⟩
 rw [H0.out.1, H0.out.2]
 replace HE := Go.Lib.hid hE
 clear hE
 go_wp2_with fail
 refine (tick_st HE.out HT.out HM.out HU.out HG1.out).mono ?_
 rintro e w5 ⟨rfl, hE⟩
 rw [H1.out.1, H1.out.2]
 replace HE := Go.Lib.hid hE
 clear hE
 go_wp2_with fail
 go_ret
 exact ⟨rfl, HE.out.st.drop.drop.drop.drop⟩
end Go.Proofs.Ytnpjbdaaoknkbaa.Frm
