/- The tables of schedules. -/
import Derived.Test.YtnpjbdaaoknkbaaYFrmG
import Derived.Test.YtnpjbdaaoknkbaaYFew
namespace Go.Proofs.Ytnpjbdaaoknkbaa.Frm
open Go.RowKit Go.Proofs.YtnpjbdaaoknkbaaW.PrintWords Go.Proofs.YtnpjbdaaoknkbaaW.PrintLast Go.Proofs.YtnpjbdaaoknkbaaW.PrintMore Go.Proofs.Ytnpjbdaaoknkbaa.Mine Go.Proofs.Ytnpjbdaaoknkbaa.PTableFrames
open Go.Proofs.Ytnpjbdaaoknkbaa.Sl (SL Stp Chg St No wpc_seal wpc_round sealed MK look)
open Go.Proofs.Ytnpjbdaaoknkbaa.Tab (InT In InA Runs cur_tick cur_owner step_st nextT nextJ rd_mem cursor_st allR allR_is ownW OkW mkR_len grw_len at_run Small SchedIn BadW NewPost new_st WinIn)
set_option linter.unusedVariables false
set_option linter.unusedSimpArgs false
attribute [local go_sem] max2_int min2_int max_two min_two max_three min_three max_four min_four
/-- The tables' memory, the newest ahead. -/
def tabL (ts : List Tb) : List SL := ts.reverse.flatMap Tb.blks
theorem tabL_snoc (ts : List Tb) (x : Tb) (l : List SL) : tabL (ts ++ [x]) ++ l = SL.blk x.g 97 #[.int .i64 x.id, .int .i64 x.fr, .slice x.a x.rs.length x.c] :: SL.row k44 44 (.slice x.a x.rs.length x.c) x.rs :: (tabL ts ++ l) := by
 simp [tabL, Tb.blks]
def Tb.src (x : Tb) : Int × Int × List S30 := (x.id, x.fr, x.ws)
def srcS (s : S25) : Int × Int × List S30 := (s.f0, s.f1, s.f2)
theorem in_tabL {ts : List Tb} {x : Tb} (h : x ∈ ts) (l : List SL) : InA (tabL ts ++ l) x.g x.id x.fr x.rs x.a x.c := by
 have h1 : ∀ y ∈ x.blks, y ∈ tabL ts ++ l := fun y hy => List.mem_append_left _ (List.mem_flatMap.2 ⟨x, List.mem_reverse.2 h, hy⟩)
 obtain ⟨n1, e1⟩ := List.getElem?_of_mem (h1 _ (List.mem_cons_self ..))
 obtain ⟨n2, e2⟩ := List.getElem?_of_mem (h1 _ (List.mem_cons_of_mem _ (List.mem_cons_self ..)))
 exact ⟨n1, n2, e1, e2⟩
/-- Schedules that a call may read, whatever is made beside. -/
def SchedsAt (l : List SL) (w0 : World) (AL : Option Addr) (ss : List S25) : Prop :=
 ∀ k : Nat, k < ss.length → ∃ ad A2 c2 A3 c3, AL = some ad ∧ (ss.getD k z25).f2.length ≤ c2 ∧ (ss.getD k z25).f3.length ≤ c3 ∧ ∀ (lx : List SL) (w1 : World), St (lx ++ l) w0 w1 →
  w1.cell? (ad.add (k * 4)) = some (.int .i64 (ss.getD k z25).f0) ∧ w1.cell? ⟨(ad.add (k * 4)).block, (ad.add (k * 4)).off + 1, none⟩ = some (.int .i64 (ss.getD k z25).f1) ∧
  w1.cell? ⟨(ad.add (k * 4)).block, (ad.add (k * 4)).off + 2, none⟩ = some (.slice A2 (ss.getD k z25).f2.length c2) ∧ w1.cell? ⟨(ad.add (k * 4)).block, (ad.add (k * 4)).off + 3, none⟩ = some (.slice A3 (ss.getD k z25).f3.length c3) ∧
  k30.C w1 A2 (ss.getD k z25).f2.length (ss.getD k z25).f2 ∧ k87.C w1 A3 (ss.getD k z25).f3.length (ss.getD k z25).f3
theorem SchedsAt.more {l : List SL} {w0 : World} {AL : Option Addr} {ss : List S25} (h : SchedsAt l w0 AL ss) (lx : List SL) : SchedsAt (lx ++ l) w0 AL ss := by
 intro k hk
 obtain ⟨ad, A2, c2, A3, c3, h1, h2, h3, h4⟩ := h k hk
 exact ⟨ad, A2, c2, A3, c3, h1, h2, h3, fun ly w1 h5 => h4 (ly ++ lx) w1 (by rw [List.append_assoc]; exact h5)⟩
theorem scheds_arg {l : List SL} {w0 : World} {AL : Option Addr} {ss : List S25} (h : Kd.C k25 w0 AL ss.length ss) : SchedsAt l w0 AL ss := by
 intro k hk
 obtain ⟨ad, A2, c2, A3, c3, e, g0, g1, g2, g3, l2, C2, l3, C3⟩ := at_T25 h (k : Int) (by omega) (by omega)
 have hx : rd_T25 ss (k : Int) = ss.getD k z25 := by unfold rd_T25; rw [Int.toNat_natCast]
 rw [hx, Int.toNat_natCast] at g0 g1 g2 g3
 rw [hx] at l2 C2 l3 C3
 exact ⟨ad, A2, c2, A3, c3, e, l2, l3, fun lx w1 h1 => ⟨h1.old g0, h1.old g1, h1.old g2, h1.old g3, h1.C C2, h1.C C3⟩⟩
def TabsPost (l : List SL) (w0 : World) (ss : List S25) (e : Ending) (w' : World) : Prop :=
 ∃ (ts : List Tb) (gs : List Nat) (A : Option Addr) (c : Nat), e = .returned (.slice A gs.length c) ∧ gs = ts.map Tb.g ∧ ts.map Tb.src = ss.map srcS ∧ (∀ x ∈ ts, TbOk x) ∧ St (SL.row KP 31 (.slice A gs.length c) gs :: (tabL ts ++ l)) w0 w'
theorem src_ok {ids : List Int} {s : S25} (h : Ask ids s) {x : Tb} (hx : x.src = srcS s) : TbOk x := by
 obtain ⟨g, id, fr, ws, a, c⟩ := x
 injection hx with e1 e2
 injection e2 with e2 e3
 obtain rfl : id = s.f0 := e1
 obtain rfl : fr = s.f1 := e2
 obtain rfl : ws = s.f2 := e3
 exact ⟨fun j hj => (h.ok j hj).2, h.inn.fr0, h.fr, h.len, h.inn.id0, h.inn.id1⟩
theorem win_bd {ids : List Int} {s : S25} (h : Ask ids s) : ∀ j : Nat, j < s.f2.length → 0 ≤ (s.f2.getD j z30).f1 ∧ (s.f2.getD j z30).f1 ≤ 4000000 ∧ (s.f2.getD j z30).f2 ≤ 4000000 := by
 intro j hj
 have hm : s.f2.getD j z30 ∈ s.f2 := by rw [List.getD_eq_getElem?_getD, List.getElem?_eq_getElem hj]; exact List.getElem_mem hj
 obtain ⟨_, _, a, b, c, d⟩ := h.inn.win _ hm
 omega
set_option maxHeartbeats 3200000 in
set_option maxRecDepth 100000 in
theorem tables_st {l : List SL} {w0 w : World} (h : St l w0 w) (AL : Option Addr) (cl : Nat) (ss : List S25) (AI : Option Addr) (ci : Nat) (ids : List Int) (hrs : SchedsAt l w0 AL ss)
  (hri : ∀ (lx : List SL) (w1 : World), St (lx ++ l) w0 w1 → Kd.C (Kd.int .i64) w1 AI ids.length ids) (hci : ids.length ≤ ci) (hsm : Small ids) (hask : ∀ s ∈ ss, Ask ids s) (hn : ss.length ≤ 8) :
  Calls Try.prog 23 #[.slice AL ss.length cl, .slice AI ids.length ci] w (TabsPost l w0 ss) := by
 have HS := Go.Lib.hid h
 have HRS := Go.Lib.hid hrs
 have HRI := Go.Lib.hid hri
 have HSM := Go.Lib.hid hsm
 have HASK := Go.Lib.hid hask
 clear h hrs hri hsm hask
 go_enter Try.func23, Try.ntmps23
 go_wp2_with fail
 replace HS : Hid (St (SL.row KP 31 (.slice none ([] : List Nat).length 0) [] :: (tabL [] ++ l)) w0 w) := Go.Lib.hid (HS.out.nilrow KP 31)
 go_loopw [5, 12] (fun a i wr => ∃ (k : Nat) (ts : List Tb) (gs : List Nat) (A : Option Addr) (c : Nat), k ≤ ss.length ∧ a = .slice A gs.length c ∧ i = .int .i64 k ∧ gs = ts.map Tb.g ∧ ts.map Tb.src = (ss.take k).map srcS ∧ (∀ x ∈ ts, TbOk x) ∧ St (SL.row KP 31 (.slice A gs.length c) gs :: (tabL ts ++ l)) w0 wr) (fun _ i _ => ss.length - (intOf i).toNat)
 case atStart => exact ⟨0, [], [], none, 0, Nat.zero_le _, rfl, rfl, rfl, rfl, (fun x hx => by cases hx), HS.out⟩
 case round =>
  clear HS
  obtain ⟨k, ts, gs, A, c, hk, rfl, rfl, hgs, hsrc, hok, hS⟩ := hrel
  have HS := Go.Lib.hid hS
  have HGS := Go.Lib.hid hgs
  have HSRC := Go.Lib.hid hsrc
  have HOK := Go.Lib.hid hok
  have hgl : gs.length ≤ 8 := by rw [hgs, List.length_map, ← List.length_map (f := Tb.src), hsrc, List.length_map, List.length_take]; omega
  clear hS hgs hsrc hok
  by_cases hlt : k < ss.length
  ·obtain ⟨ad, A2, c2, A3, c3, rfl, l2, l3, hrd⟩ := HRS.out k hlt
   have hm : ss.getD k z25 ∈ ss := by rw [List.getD_eq_getElem?_getD, List.getElem?_eq_getElem hlt]; exact List.getElem_mem hlt
   have hA := HASK.out _ hm
   have htk : ss.take (k + 1) = ss.take k ++ [ss.getD k z25] := by rw [List.take_succ_eq_append_getElem hlt, List.getD_eq_getElem?_getD, List.getElem?_eq_getElem hlt]; rfl
   generalize ss.getD k z25 = x at *
   have HA := Go.Lib.hid hA
   have HTK := Go.Lib.hid htk
   have HRD := Go.Lib.hid hrd
   obtain ⟨g0, g1, g2, g3, _, _⟩ := hrd (SL.row KP 31 (.slice A gs.length c) gs :: tabL ts) wr HS.out
   clear hA htk hrd hm
   go_wp2_with (first | ((with_reducible refine gate_dst (N := 7) rfl ?_); refine Sl.box_st HS.out (by rfl) (cs := #[.int .i64 0, .int .i64 0, .slice none 0 0, .slice none 0 0]) (t := 25) ?hr ?_; (case hr => first | (go_simp; done) | (go_simp; rfl)); intro g7 w21_ HSn HBn; clear HBn; replace HS : Hid (St (SL.blk g7 25 #[.int .i64 0, .int .i64 0, .slice none 0 0, .slice none 0 0] :: SL.row KP 31 (.slice A gs.length c) gs :: (tabL ts ++ l)) w0 w21_) := Go.Lib.hid HSn; clear HSn; obtain ⟨c0_0, c0_1, c0_2, c0_3⟩ := HS.out.c4 0 _ _ _ _ _ _ rfl) | ((with_reducible refine gate_store (p := 7) rfl ?_); refine Sl.storeAll_st HS.out 0 g7 25 _ rfl [.int .i64 x.f0, .int .i64 x.f1, .slice A2 x.f2.length c2, .slice A3 x.f3.length c3] rfl (by rfl) (by rfl) ?hr ?_; (case hr => have f_ := HS.out.f4 0 _ _ _ _ _ _ rfl; (try obtain ⟨f0, f1, f2, f3⟩ := f_); first | (go_simp; done) | (go_simp; rfl)); intro w22_ HSn; replace HS : Hid (St (SL.blk g7 25 #[.int .i64 x.f0, .int .i64 x.f1, .slice A2 x.f2.length c2, .slice A3 x.f3.length c3] :: SL.row KP 31 (.slice A gs.length c) gs :: (tabL ts ++ l)) w0 w22_) := Go.Lib.hid HSn; clear HSn; clear c0_0 c0_1 c0_2 c0_3; obtain ⟨c0_0, c0_1, c0_2, c0_3⟩ := HS.out.c4 0 _ _ _ _ _ _ rfl))
   clear g0 g1 g2 g3 c0_0 c0_1 c0_2 c0_3
   have hA := HA.out
   have hin := hA.inn
   refine (new_st HS.out x.f0 x.f1 A2 c2 x.f2 A3 c3 x.f3 AI ci ids (fun lx w1 h1 => (HRD.out (lx ++ [_, _] ++ tabL ts) w1 (by simpa using h1)).2.2.2.2.1) l2 (fun lx w1 h1 => (HRD.out (lx ++ [_, _] ++ tabL ts) w1 (by simpa using h1)).2.2.2.2.2) l3 (fun lx w1 h1 => HRI.out (lx ++ [_, _] ++ tabL ts) w1 (by simpa using h1)) hci HSM.out (by have : 1 ≤ x.f1 := hin.fr0; omega) (by have := hA.fr; omega) (by have := hA.len; omega) (win_bd hA) hin.fr0 hin.fr1).mono ?_
   rintro e w7 (⟨gt, A7, c7, rfl, hokw, hS7⟩ | ⟨gb, rfl, hbw, _⟩)
   rotate_left
   ·exact absurd hbw (not_bad _ _ _ _ _ HSM.out (by have : 1 ≤ x.f1 := hin.fr0; omega) (by have := hA.fr; omega) (by have := hA.len; omega) hA.ok (fun j hj => (win_bd hA j hj).1))
   ·replace HS := Go.Lib.hid hS7
    clear hS7 hA hin hokw
    go_wp2_with (first | ((with_reducible refine gate_dst (N := 31) rfl ?_); refine Sl.append_st (KP) (flat_scalar) HS.out 3 (.slice A gs.length c) (gs) 31 rfl (by rfl) (.tmp 28) (.tmp 30) 52 (.pointer none) 8 rfl Try.underlying52 (by kernel_rfl) rfl (by decide) (by decide) (gt) [.pointer (some ⟨gt, 0, none⟩)] rfl rfl ?hp ?hb ?_; (case hp => first | rfl | exact k31_mk _ _); (case hb => omega); intro v1_ w61_ HSn; obtain ⟨A9_, c9_, hv2_, _⟩ := HSn.rowC 3 rfl; subst hv2_; replace HS : Hid (St (SL.blk gt 97 #[.int .i64 x.f0, .int .i64 x.f1, .slice A7 (allR x.f1 x.f2).length c7] :: SL.row k44 44 (.slice A7 (allR x.f1 x.f2).length c7) (allR x.f1 x.f2) :: SL.blk g7 25 #[.int .i64 x.f0, .int .i64 x.f1, .slice A2 x.f2.length c2, .slice A3 x.f3.length c3] :: SL.row (KP) 31 (.slice A9_ (gs ++ [gt]).length c9_) (gs ++ [gt]) :: (tabL ts ++ l)) w0 w61_) := Go.Lib.hid HSn; clear HSn; obtain ⟨c2_0, c2_1, c2_2, c2_3⟩ := HS.out.c4 2 _ _ _ _ _ _ rfl))
    clear c2_0 c2_1 c2_2 c2_3
    have HS2 : Hid (St (SL.row KP 31 (.slice A9_ (gs ++ [gt]).length c9_) (gs ++ [gt]) :: (tabL (ts ++ [(⟨gt, x.f0, x.f1, x.f2, A7, c7⟩ : Tb)]) ++ l)) w0 w61_) := Go.Lib.hid (by rw [tabL_snoc]; exact (HS.out.erase 2).front 2 _ rfl)
    have hsrc2 : (⟨gt, x.f0, x.f1, x.f2, A7, c7⟩ : Tb).src = srcS x := rfl
    have HOK2 : Hid (∀ y ∈ ts ++ [(⟨gt, x.f0, x.f1, x.f2, A7, c7⟩ : Tb)], TbOk y) := Go.Lib.hid (by intro y hy; rcases List.mem_append.1 hy with hy | hy; exact HOK.out y hy; rw [List.mem_singleton.1 hy]; exact src_ok HA.out hsrc2)
    clear hsrc2
    go_roundw
    case rel => exact ⟨k + 1, ts ++ [⟨gt, x.f0, x.f1, x.f2, A7, c7⟩], gs ++ [gt], A9_, c9_, hlt, by simp, rfl, by rw [HGS.out, List.map_append]; rfl, by rw [HTK.out, List.map_append, List.map_append, HSRC.out]; rfl, HOK2.out, HS2.out⟩
    case measure => simp [intOf]; omega
  ·obtain rfl : k = ss.length := by omega
   go_wp2_with fail
   go_ret
   exact ⟨ts, gs, A, c, rfl, HGS.out, by rw [HSRC.out, List.take_length], HOK.out, HS.out⟩
end Go.Proofs.Ytnpjbdaaoknkbaa.Frm
