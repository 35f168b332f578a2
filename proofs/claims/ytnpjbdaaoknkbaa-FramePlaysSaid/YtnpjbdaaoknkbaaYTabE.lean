/- table.New. -/
import Derived.Test.YtnpjbdaaoknkbaaYTabD
import Derived.IntWalk
namespace Go.Proofs.Ytnpjbdaaoknkbaa.Tab
open Go.RowKit Go.Proofs.YtnpjbdaaoknkbaaW.PrintWords Go.Proofs.YtnpjbdaaoknkbaaW.PrintLast Go.Proofs.YtnpjbdaaoknkbaaW.PrintMore Go.Proofs.Ytnpjbdaaoknkbaa.Mine Go.Proofs.Ytnpjbdaaoknkbaa.PTableFrames
open Go.Proofs.Ytnpjbdaaoknkbaa.Sl (SL Stp Chg St No wpc_seal wpc_round sealed)
set_option linter.unusedVariables false
set_option linter.unusedSimpArgs false
attribute [local go_sem] max2_int min2_int max_two min_two max_three min_three max_four min_four
variable {l : List SL} {w0 w : World}
/-- What table.New leaves: a table of the schedule's runs, where its windows are right; else an error. -/
def NewPost (l : List SL) (w0 : World) (id fr : Int) (ws : List S30) (ns : List S87) (ids : List Int) (e : Ending) (w' : World) : Prop :=
 (∃ (gt : Nat) (A : Option Addr) (c : Nat), e = .returned (.tuple #[.pointer (some ⟨gt, 0, none⟩), .nilIface]) ∧ (∀ j : Nat, j < ws.length → OkW fr ws j) ∧
  St (SL.blk gt 97 #[.int .i64 id, .int .i64 fr, .slice A (allR fr ws).length c] :: SL.row k44 44 (.slice A (allR fr ws).length c) (allR fr ws) :: l) w0 w') ∨
 ∃ g, e = .returned (.tuple #[.pointer none, .iface 146 (.pointer (some ⟨g, 0, none⟩))]) ∧ BadW id fr ws ns ids ∧ St l w0 w'
set_option maxHeartbeats 6400000 in
set_option maxRecDepth 100000 in
theorem new_st (h : St l w0 w) (id fr : Int) (A2 : Option Addr) (c2 : Nat) (ws : List S30) (A3 : Option Addr) (c3 : Nat) (ns : List S87) (AI : Option Addr) (ci : Nat) (ids : List Int) (hr2 : ∀ (lx : List SL) (w1 : World), St (lx ++ l) w0 w1 → Kd.C k30 w1 A2 ws.length ws) (hc2 : ws.length ≤ c2) (hr3 : ∀ (lx : List SL) (w1 : World), St (lx ++ l) w0 w1 → Kd.C k87 w1 A3 ns.length ns) (hc3 : ns.length ≤ c3) (hri : ∀ (lx : List SL) (w1 : World), St (lx ++ l) w0 w1 → Kd.C (Kd.int .i64) w1 AI ids.length ids) (hci : ids.length ≤ ci) (hsm : Small ids) (hf0 : 0 ≤ fr) (hf : fr ≤ 4000000) (hw : ws.length ≤ 1000) (h0 : ∀ j : Nat, j < ws.length → 0 ≤ (ws.getD j z30).f1 ∧ (ws.getD j z30).f1 ≤ 4000000 ∧ (ws.getD j z30).f2 ≤ 4000000) (hf1 : 1 ≤ fr) (hf2 : fr ≤ 1048576) :
  Calls Try.prog 12 #[.agg #[.int .i64 id, .int .i64 fr, .slice A2 ws.length c2, .slice A3 ns.length c3], .slice AI ids.length ci] w (NewPost l w0 id fr ws ns ids) := by
 have HS := Go.Lib.hid h
 have HR2 := Go.Lib.hid hr2
 have HR3 := Go.Lib.hid hr3
 have HI := Go.Lib.hid hri
 have HSM := Go.Lib.hid hsm
 have H0 := Go.Lib.hid h0
 have d1 : decide (fr < 1) = false := by simpa using hf1
 have d2 : decide (1048576 < fr) = false := by simpa using hf2
 clear h hr2 hr3 hri hsm h0
 go_enter Try.func12, Try.ntmps12
 go_wp2_with (first | ((with_reducible refine gate_dst (N := 2) rfl ?_); refine Sl.box_st HS.out (by rfl) (cs := #[.int .i64 id, .int .i64 fr, .slice A2 ws.length c2, .slice A3 ns.length c3]) (t := 25) ?hr ?_; (case hr => first | (go_simp; done) | (go_simp; rfl)); intro gM w1_ HSn HBn; clear HBn; replace HS : Hid (St (SL.blk gM 25 #[.int .i64 id, .int .i64 fr, .slice A2 ws.length c2, .slice A3 ns.length c3] :: l) w0 w1_) := Go.Lib.hid HSn; clear HSn; obtain ⟨c0_0, c0_1, c0_2, c0_3⟩ := HS.out.c4 0 _ _ _ _ _ _ rfl))
 clear c0_0 c0_1 c0_2 c0_3 d1 d2
 refine (check_st HS.out id fr A2 c2 ws A3 c3 ns AI ci ids (fun lx w1 h1 => HR2.out (lx ++ [SL.blk gM 25 #[.int .i64 id, .int .i64 fr, .slice A2 ws.length c2, .slice A3 ns.length c3]]) w1 (by rw [List.append_assoc]; exact h1)) hc2 (fun lx w1 h1 => HR3.out (lx ++ [SL.blk gM 25 #[.int .i64 id, .int .i64 fr, .slice A2 ws.length c2, .slice A3 ns.length c3]]) w1 (by rw [List.append_assoc]; exact h1)) hc3 (fun lx w1 h1 => HI.out (lx ++ [SL.blk gM 25 #[.int .i64 id, .int .i64 fr, .slice A2 ws.length c2, .slice A3 ns.length c3]]) w1 (by rw [List.append_assoc]; exact h1)) hci HSM.out hf0 hf hw H0.out).mono ?_
 rintro e w2_ (⟨rfl, hok, hS⟩ | ⟨g, rfl, hbw, hS⟩)
 rotate_left
 ·replace HS := Go.Lib.hid hS
  clear hS
  obtain ⟨c0_0, c0_1, c0_2, c0_3⟩ := HS.out.c4 0 _ _ _ _ _ _ rfl
  have HBW := Go.Lib.hid hbw
  clear hbw
  go_wp2_with fail
  go_ret2
  exact .inr ⟨g, rfl, HBW.out, HS.out.drop⟩
 ·replace HS := Go.Lib.hid hS
  have HOK := Go.Lib.hid hok
  clear hS hok
  obtain ⟨c0_0, c0_1, c0_2, c0_3⟩ := HS.out.c4 0 _ _ _ _ _ _ rfl
  go_wp2_with (first | ((with_reducible refine gate_dst (N := 31) rfl ?_); refine Sl.box_st HS.out (by rfl) (cs := #[.int .i64 id, .int .i64 fr, .slice none 0 0]) (t := 97) ?hr ?_; (case hr => first | (go_simp; done) | (go_simp; rfl)); intro gt w3_ HSn HBn; clear HBn; replace HS : Hid (St (SL.blk gt 97 #[.int .i64 id, .int .i64 fr, .slice none 0 0] :: SL.blk gM 25 #[.int .i64 id, .int .i64 fr, .slice A2 ws.length c2, .slice A3 ns.length c3] :: l) w0 w3_) := Go.Lib.hid HSn; clear HSn; clear c0_0 c0_1 c0_2 c0_3; obtain ⟨c0_0, c0_1, c0_2⟩ := HS.out.c3 0 _ _ _ _ _ rfl; obtain ⟨c1_0, c1_1, c1_2, c1_3⟩ := HS.out.c4 1 _ _ _ _ _ _ rfl))
  clear c0_0 c0_1 c0_2 c1_0 c1_1 c1_2 c1_3
  replace HS : Hid (St (SL.blk gt 97 #[.int .i64 id, .int .i64 fr, .slice none (([] : List S44)).length 0] :: SL.row k44 44 (.slice none (([] : List S44)).length 0) (([] : List S44)) :: SL.blk gM 25 #[.int .i64 id, .int .i64 fr, .slice A2 ws.length c2, .slice A3 ns.length c3] :: l) w0 w3_) := Go.Lib.hid (HS.out.nilrow k44 44).swap
  go_loopw [8, 35] (fun a i wr => ∃ (k : Nat) (A : Option Addr) (c : Nat), k ≤ ws.length ∧ a = .int .i64 (endB ws k) ∧ i = .int .i64 k ∧ St (SL.blk gt 97 #[.int .i64 id, .int .i64 fr, .slice A (mkR ws k).length c] :: SL.row k44 44 (.slice A (mkR ws k).length c) (mkR ws k) :: SL.blk gM 25 #[.int .i64 id, .int .i64 fr, .slice A2 ws.length c2, .slice A3 ns.length c3] :: l) w0 wr) (fun _ i _ => ws.length - (intOf i).toNat)
  case atStart => exact ⟨0, none, 0, Nat.zero_le _, by unfold endB; rw [if_pos rfl], rfl, HS.out⟩
  case round =>
   clear HS
   obtain ⟨k, A, c, hk, rfl, rfl, hS⟩ := hrel
   have HS := Go.Lib.hid hS
   clear hS
   have hRk := mkR_is HOK.out hf0 hf k hk
   have hbk := endB_le HOK.out hf0 k hk
   have hlk := mkR_len ws k
   by_cases hlt : k < ws.length
   ·have hH := mkH_is HOK.out hf0 hf k hlt hRk
    obtain ⟨ok1, ok2, ok3⟩ := HOK.out k hlt
    obtain ⟨hz0, hz1, hz2⟩ := H0.out k hlt
    have hn2 := endB_succ ws k
    have hg1 := grow_is (mkR ws k) (-1) (endB ws k) ((ws.getD k z30).f1 - endB ws k) (by omega) (hRk.bd (by omega)) (by omega)
    have hl1 := grw_len (mkR ws k) (-1) (endB ws k) ((ws.getD k z30).f1 - endB ws k)
    have hg2 := grow_is (grw (mkR ws k) (-1) (endB ws k) ((ws.getD k z30).f1 - endB ws k)) (ws.getD k z30).f0 (ws.getD k z30).f1 (ws.getD k z30).f2 (by omega) (hH.bd (by omega)) (by omega)
    have hm2 : mkR ws (k + 1) = grw (grw (mkR ws k) (-1) (endB ws k) ((ws.getD k z30).f1 - endB ws k)) (ws.getD k z30).f0 (ws.getD k z30).f1 (ws.getD k z30).f2 := rfl
    rw [← hm2] at hg2
    obtain ⟨ad, rfl, g0, g1, g2⟩ := at_T30 (HR2.out [_, _, _] _ HS.out) (k : Int) (by omega) (by omega)
    have hx : rd_T30 ws (k : Int) = ws.getD k z30 := by unfold rd_T30; rw [Int.toNat_natCast]
    rw [hx, Int.toNat_natCast] at g0 g1 g2
    have HN := Go.Lib.hid hn2
    clear hm2 hn2 hx hRk hH
    generalize ws.getD k z30 = x at *
    generalize endB ws k = eb at *
    generalize grw (mkR ws k) (-1) eb (x.f1 - eb) = r1 at *
    have HG1 := Go.Lib.hid hg1
    have HG2 := Go.Lib.hid hg2
    clear hg1 hg2
    obtain ⟨c0_0, c0_1, c0_2⟩ := HS.out.c3 0 _ _ _ _ _ rfl
    obtain ⟨c2_0, c2_1, c2_2, c2_3⟩ := HS.out.c4 2 _ _ _ _ _ _ rfl
    go_upto_region 11 with (first | ((with_reducible refine gate_dst (N := 10) rfl ?_); refine Sl.box_st HS.out (by rfl) (cs := #[.int .i64 0, .int .i64 0, .int .i64 0]) (t := 30) ?hr ?_; (case hr => first | (go_simp; done) | (go_simp; rfl)); intro g10 w21_ HSn HBn; clear HBn; replace HS : Hid (St (SL.blk g10 30 #[.int .i64 0, .int .i64 0, .int .i64 0] :: SL.blk gt 97 #[.int .i64 id, .int .i64 fr, .slice A (mkR ws k).length c] :: SL.row k44 44 (.slice A (mkR ws k).length c) (mkR ws k) :: SL.blk gM 25 #[.int .i64 id, .int .i64 fr, .slice (some ad) ws.length c2, .slice A3 ns.length c3] :: l) w0 w21_) := Go.Lib.hid HSn; clear HSn; clear c0_0 c0_1 c0_2 c2_0 c2_1 c2_2 c2_3; obtain ⟨c0_0, c0_1, c0_2⟩ := HS.out.c3 0 _ _ _ _ _ rfl; obtain ⟨c1_0, c1_1, c1_2⟩ := HS.out.c3 1 _ _ _ _ _ rfl; obtain ⟨c3_0, c3_1, c3_2, c3_3⟩ := HS.out.c4 3 _ _ _ _ _ _ rfl) | ((with_reducible refine gate_store (p := 10) rfl ?_); refine Sl.storeAll_st HS.out 0 g10 30 _ rfl [.int .i64 x.f0, .int .i64 x.f1, .int .i64 x.f2] rfl (by rfl) (by rfl) ?hr ?_; (case hr => have f_ := HS.out.f3 0 _ _ _ _ _ rfl; (try obtain ⟨f0, f1, f2⟩ := f_); first | (go_simp; done) | (go_simp; rfl)); intro w22_ HSn; replace HS : Hid (St (SL.blk g10 30 #[.int .i64 x.f0, .int .i64 x.f1, .int .i64 x.f2] :: SL.blk gt 97 #[.int .i64 id, .int .i64 fr, .slice A (mkR ws k).length c] :: SL.row k44 44 (.slice A (mkR ws k).length c) (mkR ws k) :: SL.blk gM 25 #[.int .i64 id, .int .i64 fr, .slice (some ad) ws.length c2, .slice A3 ns.length c3] :: l) w0 w22_) := Go.Lib.hid HSn; clear HSn; clear c0_0 c0_1 c0_2 c1_0 c1_1 c1_2 c3_0 c3_1 c3_2 c3_3; obtain ⟨c0_0, c0_1, c0_2⟩ := HS.out.c3 0 _ _ _ _ _ rfl; obtain ⟨c1_0, c1_1, c1_2⟩ := HS.out.c3 1 _ _ _ _ _ rfl; obtain ⟨c3_0, c3_1, c3_2, c3_3⟩ := HS.out.c4 3 _ _ _ _ _ _ rfl))
    clear g0 g1 g2 c0_0 c0_1 c0_2 c1_0 c1_1 c1_2 c3_0 c3_1 c3_2 c3_3
    replace HS := Go.Lib.hid HS.out.drew
    have e1_ : wrap64 (x.f1 - eb) = x.f1 - eb := by unfold wrap64; omega
    have e0_ : IntKind.i64.wrap (x.f1 - eb) = x.f1 - eb := IntWalk.i64_in _ (by omega)
    refine start_ (n := 14) (S := fun w' => (w'.cell? ⟨g10, 0, none⟩ = some (.int .i64 x.f0) ∧ w'.cell? ⟨g10, 1, none⟩ = some (.int .i64 x.f1) ∧ w'.cell? ⟨g10, 2, none⟩ = some (.int .i64 x.f2)) ∧ (w'.cell? ⟨gt, 0, none⟩ = some (.int .i64 id) ∧ w'.cell? ⟨gt, 1, none⟩ = some (.int .i64 fr) ∧ w'.cell? ⟨gt, 2, none⟩ = some (.slice A (mkR ws k).length c))) (ds := [13]) #[false, false, false, false, false, false, false, false, false, false, false, false, false, false] (by kernel_rfl) rfl rfl ⟨HS.out.c3 0 _ _ _ _ _ rfl, HS.out.c3 1 _ _ _ _ _ rfl⟩ (fun hHeld => ?_)
    generalize w22_.drew = W11_ at *
    refine pure_ (i := 0) (N := some 39) (v := ?_) (a' := ?_) #[true, false, false, false, false, false, false, false, false, false, false, false, false, false] rfl rfl (by kernel_rfl) (fun _ _ _ h => h) (Or.inl ⟨by rfl, ?_⟩) ?_ ?_
    rotate_left
    ·intro w'
     go_simp
     with_reducible rfl
    rotate_left
    ·simp only [Act.put, List.setIfInBounds_toArray, List.set_cons_zero, List.set_cons_succ, i64_w, i32_w]
     rfl
    refine pure_ (i := 1) (N := some 40) (v := ?_) (a' := ?_) #[true, true, false, false, false, false, false, false, false, false, false, false, false, false] rfl rfl (by kernel_rfl) (fun _ _ _ h => h) (Or.inl ⟨by rfl, ?_⟩) ?_ ?_
    rotate_left
    ·intro w'
     go_simp
     with_reducible rfl
    rotate_left
    ·simp only [Act.put, List.setIfInBounds_toArray, List.set_cons_zero, List.set_cons_succ, i64_w, i32_w]
     rfl
    refine pure_ (i := 2) (N := some 41) (v := ?_) (a' := ?_) #[true, true, true, false, false, false, false, false, false, false, false, false, false, false] rfl rfl (by kernel_rfl) (fun _ _ _ h => h) (Or.inl ⟨by rfl, ?_⟩) ?_ ?_
    rotate_left
    ·intro w'
     go_simp
     with_reducible rfl
    rotate_left
    ·simp only [Act.put, List.setIfInBounds_toArray, List.set_cons_zero, List.set_cons_succ, i64_w, i32_w]
     rfl
    refine pure_ (i := 3) (N := some 42) (v := ?_) (a' := ?_) #[true, true, true, true, false, false, false, false, false, false, false, false, false, false] rfl rfl (by kernel_rfl) (fun _ _ _ h => h) (Or.inl ⟨by rfl, ?_⟩) ?_ ?_
    rotate_left
    ·intro w'
     go_simp
     with_reducible rfl
    rotate_left
    ·simp only [Act.put, List.setIfInBounds_toArray, List.set_cons_zero, List.set_cons_succ, i64_w, i32_w]
     rfl
    refine pure_ (i := 5) (N := some 44) (v := ?_) (a' := ?_) #[true, true, true, true, false, true, false, false, false, false, false, false, false, false] rfl rfl (by kernel_rfl) (fun _ _ _ h => h) (Or.inl ⟨by rfl, ?_⟩) ?_ ?_
    rotate_left
    ·intro w'
     go_simp
     with_reducible rfl
    rotate_left
    ·simp only [Act.put, List.setIfInBounds_toArray, List.set_cons_zero, List.set_cons_succ, i64_w, i32_w]
     rfl
    refine pure_ (i := 6) (N := some 45) (v := ?_) (a' := ?_) #[true, true, true, true, false, true, true, false, false, false, false, false, false, false] rfl rfl (by kernel_rfl) (fun _ _ _ h => h) (Or.inl ⟨by rfl, ?_⟩) ?_ ?_
    rotate_left
    ·intro w'
     go_simp
     with_reducible rfl
    rotate_left
    ·simp only [Act.put, List.setIfInBounds_toArray, List.set_cons_zero, List.set_cons_succ, i64_w, i32_w]
     rfl
    refine pure_ (i := 8) (N := some 47) (v := ?_) (a' := ?_) #[true, true, true, true, false, true, true, false, true, false, false, false, false, false] rfl rfl (by kernel_rfl) (fun _ _ _ h => h) (Or.inl ⟨by rfl, ?_⟩) ?_ ?_
    rotate_left
    ·intro w'
     go_simp
     with_reducible rfl
    rotate_left
    ·simp only [Act.put, List.setIfInBounds_toArray, List.set_cons_zero, List.set_cons_succ, i64_w, i32_w]
     rfl
    refine take_ (i := 4) (N := some 43) (v := ?_) (a' := ?_) #[true, true, true, true, true, true, true, false, true, false, false, false, false, false] rfl rfl (by kernel_rfl) (fun _ _ _ h => h) (Or.inl ⟨by rfl, ?_⟩) hHeld ?_ ?_
    rotate_left
    ·rintro w' ⟨⟨a0, a1, a2⟩, s0, s1, s2⟩
     go_simp
     with_reducible rfl
    rotate_left
    ·simp only [Act.put, List.setIfInBounds_toArray, List.set_cons_zero, List.set_cons_succ, i64_w, i32_w]
     rfl
    refine take_ (i := 7) (N := some 46) (v := ?_) (a' := ?_) #[true, true, true, true, true, true, true, true, true, false, false, false, false, false] rfl rfl (by kernel_rfl) (fun _ _ _ h => h) (Or.inl ⟨by rfl, ?_⟩) hHeld ?_ ?_
    rotate_left
    ·rintro w' ⟨⟨a0, a1, a2⟩, s0, s1, s2⟩
     go_simp
     with_reducible rfl
    rotate_left
    ·simp only [Act.put, List.setIfInBounds_toArray, List.set_cons_zero, List.set_cons_succ, i64_w, i32_w]
     rfl
    refine pure_ (i := 9) (N := some 48) (v := ?_) (a' := ?_) #[true, true, true, true, true, true, true, true, true, true, false, false, false, false] rfl rfl (by kernel_rfl) (fun _ _ _ h => h) (Or.inl ⟨by rfl, ?_⟩) ?_ ?_
    rotate_left
    ·intro w'
     go_simp
     with_reducible rfl
    rotate_left
    ·simp only [Act.put, List.setIfInBounds_toArray, List.set_cons_zero, List.set_cons_succ, i64_w, i32_w]
     rfl
    refine one_ (i := 10) (N := some 49) #[true, true, true, true, true, true, true, true, true, true, true, false, false, false] rfl rfl (by kernel_rfl) (by decide) (fun K hK => ?_)
    refine goes_ Try.func61 (by kernel_rfl) rfl #[.slice A (mkR ws k).length c, .int .i64 (-1), .int .i64 eb, .int .i64 (x.f1 - eb)] (by rfl) rfl rfl (by (try simp only [List.map_toArray, List.map_cons, List.map_nil]); first | done | rfl) ?_
    refine (grow_st HS.out 2 (.slice A (mkR ws k).length c) (mkR ws k) rfl (-1) (eb) (x.f1 - eb) (r1) HG1.out).mono ?_
    rintro e w71_ ⟨A8, c8, rfl, hSm⟩
    have HSm : Hid (St (SL.blk g10 30 #[.int .i64 x.f0, .int .i64 x.f1, .int .i64 x.f2] :: SL.blk gt 97 #[.int .i64 id, .int .i64 fr, .slice A (mkR ws k).length c] :: SL.row k44 44 (.slice A8 (r1).length c8) (r1) :: SL.blk gM 25 #[.int .i64 id, .int .i64 fr, .slice (some ad) ws.length c2, .slice A3 ns.length c3] :: l) w0 w71_) := Go.Lib.hid hSm
    clear hSm
    refine ⟨_, rfl, ?_⟩
    refine hK.out _ _ ⟨HSm.out.c3 0 _ _ _ _ _ rfl, HSm.out.c3 1 _ _ _ _ _ rfl⟩ (fun hHeld => ?_)
    clear hK K
    refine norm_ (a' := ?_) ?_ ?_
    rotate_left
    ·show Act.put _ (some 49) _ = _
     simp only [Act.put, List.setIfInBounds_toArray, List.set_cons_zero, List.set_cons_succ, i64_w, i32_w]
     rfl
    refine pure_ (i := 11) (N := some 50) (v := ?_) (a' := ?_) #[true, true, true, true, true, true, true, true, true, true, true, true, false, false] rfl rfl (by kernel_rfl) (fun _ _ _ h => h) (Or.inl ⟨by rfl, ?_⟩) ?_ ?_
    rotate_left
    ·intro w'
     go_simp
     with_reducible rfl
    rotate_left
    ·simp only [Act.put, List.setIfInBounds_toArray, List.set_cons_zero, List.set_cons_succ, i64_w, i32_w]
     rfl
    refine pure_ (i := 12) (N := some 51) (v := ?_) (a' := ?_) #[true, true, true, true, true, true, true, true, true, true, true, true, true, false] rfl rfl (by kernel_rfl) (fun _ _ _ h => h) (Or.inl ⟨by rfl, ?_⟩) ?_ ?_
    rotate_left
    ·intro w'
     go_simp
     with_reducible rfl
    rotate_left
    ·simp only [Act.put, List.setIfInBounds_toArray, List.set_cons_zero, List.set_cons_succ, i64_w, i32_w]
     rfl
    refine last_ (i := 13) (N := none) #[true, true, true, true, true, true, true, true, true, true, true, true, true, true] rfl rfl (by kernel_rfl) (by decide) (fun K hK => ?_)
    have f_ := HSm.out.free 1 _ _ _ rfl 2
    have c_ := HSm.out.cell 1 _ _ _ rfl 2
    refine Sl.store_stp HSm.out 1 gt 97 _ rfl 2 (.slice A8 (r1).length c8) (by rfl) rfl (by first | (go_simp; done) | (go_simp; rfl)) ?_
    intro w72_ HSt
    clear f_ c_
    refine hK.out _ _ ?_
    clear hK K
    refine done_ (by kernel_rfl) ?_
    replace HS : Hid (St (SL.blk g10 30 #[.int .i64 x.f0, .int .i64 x.f1, .int .i64 x.f2] :: SL.blk gt 97 #[.int .i64 id, .int .i64 fr, .slice A8 (r1).length c8] :: SL.row k44 44 (.slice A8 (r1).length c8) (r1) :: SL.blk gM 25 #[.int .i64 id, .int .i64 fr, .slice (some ad) ws.length c2, .slice A3 ns.length c3] :: l) w0 w72_) := Go.Lib.hid HSt
    clear HSt HSm
    clear e0_ e1_
    go_upto_region 12 with (fail)
    replace HS := Go.Lib.hid HS.out.drew
    refine start_ (n := 15) (S := fun w' => (w'.cell? ⟨g10, 0, none⟩ = some (.int .i64 x.f0) ∧ w'.cell? ⟨g10, 1, none⟩ = some (.int .i64 x.f1) ∧ w'.cell? ⟨g10, 2, none⟩ = some (.int .i64 x.f2)) ∧ (w'.cell? ⟨gt, 0, none⟩ = some (.int .i64 id) ∧ w'.cell? ⟨gt, 1, none⟩ = some (.int .i64 fr) ∧ w'.cell? ⟨gt, 2, none⟩ = some (.slice A8 (r1).length c8))) (ds := [14]) #[false, false, false, false, false, false, false, false, false, false, false, false, false, false, false] (by kernel_rfl) rfl rfl ⟨HS.out.c3 0 _ _ _ _ _ rfl, HS.out.c3 1 _ _ _ _ _ rfl⟩ (fun hHeld => ?_)
    generalize w72_.drew = W12_ at *
    refine pure_ (i := 0) (N := some 52) (v := ?_) (a' := ?_) #[true, false, false, false, false, false, false, false, false, false, false, false, false, false, false] rfl rfl (by kernel_rfl) (fun _ _ _ h => h) (Or.inl ⟨by rfl, ?_⟩) ?_ ?_
    rotate_left
    ·intro w'
     go_simp
     with_reducible rfl
    rotate_left
    ·simp only [Act.put, List.setIfInBounds_toArray, List.set_cons_zero, List.set_cons_succ, i64_w, i32_w]
     rfl
    refine pure_ (i := 1) (N := some 53) (v := ?_) (a' := ?_) #[true, true, false, false, false, false, false, false, false, false, false, false, false, false, false] rfl rfl (by kernel_rfl) (fun _ _ _ h => h) (Or.inl ⟨by rfl, ?_⟩) ?_ ?_
    rotate_left
    ·intro w'
     go_simp
     with_reducible rfl
    rotate_left
    ·simp only [Act.put, List.setIfInBounds_toArray, List.set_cons_zero, List.set_cons_succ, i64_w, i32_w]
     rfl
    refine pure_ (i := 2) (N := some 54) (v := ?_) (a' := ?_) #[true, true, true, false, false, false, false, false, false, false, false, false, false, false, false] rfl rfl (by kernel_rfl) (fun _ _ _ h => h) (Or.inl ⟨by rfl, ?_⟩) ?_ ?_
    rotate_left
    ·intro w'
     go_simp
     with_reducible rfl
    rotate_left
    ·simp only [Act.put, List.setIfInBounds_toArray, List.set_cons_zero, List.set_cons_succ, i64_w, i32_w]
     rfl
    refine pure_ (i := 3) (N := some 55) (v := ?_) (a' := ?_) #[true, true, true, true, false, false, false, false, false, false, false, false, false, false, false] rfl rfl (by kernel_rfl) (fun _ _ _ h => h) (Or.inl ⟨by rfl, ?_⟩) ?_ ?_
    rotate_left
    ·intro w'
     go_simp
     with_reducible rfl
    rotate_left
    ·simp only [Act.put, List.setIfInBounds_toArray, List.set_cons_zero, List.set_cons_succ, i64_w, i32_w]
     rfl
    refine pure_ (i := 5) (N := some 57) (v := ?_) (a' := ?_) #[true, true, true, true, false, true, false, false, false, false, false, false, false, false, false] rfl rfl (by kernel_rfl) (fun _ _ _ h => h) (Or.inl ⟨by rfl, ?_⟩) ?_ ?_
    rotate_left
    ·intro w'
     go_simp
     with_reducible rfl
    rotate_left
    ·simp only [Act.put, List.setIfInBounds_toArray, List.set_cons_zero, List.set_cons_succ, i64_w, i32_w]
     rfl
    refine pure_ (i := 7) (N := some 59) (v := ?_) (a' := ?_) #[true, true, true, true, false, true, false, true, false, false, false, false, false, false, false] rfl rfl (by kernel_rfl) (fun _ _ _ h => h) (Or.inl ⟨by rfl, ?_⟩) ?_ ?_
    rotate_left
    ·intro w'
     go_simp
     with_reducible rfl
    rotate_left
    ·simp only [Act.put, List.setIfInBounds_toArray, List.set_cons_zero, List.set_cons_succ, i64_w, i32_w]
     rfl
    refine pure_ (i := 9) (N := some 61) (v := ?_) (a' := ?_) #[true, true, true, true, false, true, false, true, false, true, false, false, false, false, false] rfl rfl (by kernel_rfl) (fun _ _ _ h => h) (Or.inl ⟨by rfl, ?_⟩) ?_ ?_
    rotate_left
    ·intro w'
     go_simp
     with_reducible rfl
    rotate_left
    ·simp only [Act.put, List.setIfInBounds_toArray, List.set_cons_zero, List.set_cons_succ, i64_w, i32_w]
     rfl
    refine take_ (i := 4) (N := some 56) (v := ?_) (a' := ?_) #[true, true, true, true, true, true, false, true, false, true, false, false, false, false, false] rfl rfl (by kernel_rfl) (fun _ _ _ h => h) (Or.inl ⟨by rfl, ?_⟩) hHeld ?_ ?_
    rotate_left
    ·rintro w' ⟨⟨a0, a1, a2⟩, s0, s1, s2⟩
     go_simp
     with_reducible rfl
    rotate_left
    ·simp only [Act.put, List.setIfInBounds_toArray, List.set_cons_zero, List.set_cons_succ, i64_w, i32_w]
     rfl
    refine take_ (i := 6) (N := some 58) (v := ?_) (a' := ?_) #[true, true, true, true, true, true, true, true, false, true, false, false, false, false, false] rfl rfl (by kernel_rfl) (fun _ _ _ h => h) (Or.inl ⟨by rfl, ?_⟩) hHeld ?_ ?_
    rotate_left
    ·rintro w' ⟨⟨a0, a1, a2⟩, s0, s1, s2⟩
     go_simp
     with_reducible rfl
    rotate_left
    ·simp only [Act.put, List.setIfInBounds_toArray, List.set_cons_zero, List.set_cons_succ, i64_w, i32_w]
     rfl
    refine take_ (i := 8) (N := some 60) (v := ?_) (a' := ?_) #[true, true, true, true, true, true, true, true, true, true, false, false, false, false, false] rfl rfl (by kernel_rfl) (fun _ _ _ h => h) (Or.inl ⟨by rfl, ?_⟩) hHeld ?_ ?_
    rotate_left
    ·rintro w' ⟨⟨a0, a1, a2⟩, s0, s1, s2⟩
     go_simp
     with_reducible rfl
    rotate_left
    ·simp only [Act.put, List.setIfInBounds_toArray, List.set_cons_zero, List.set_cons_succ, i64_w, i32_w]
     rfl
    refine take_ (i := 10) (N := some 62) (v := ?_) (a' := ?_) #[true, true, true, true, true, true, true, true, true, true, true, false, false, false, false] rfl rfl (by kernel_rfl) (fun _ _ _ h => h) (Or.inl ⟨by rfl, ?_⟩) hHeld ?_ ?_
    rotate_left
    ·rintro w' ⟨⟨a0, a1, a2⟩, s0, s1, s2⟩
     go_simp
     with_reducible rfl
    rotate_left
    ·simp only [Act.put, List.setIfInBounds_toArray, List.set_cons_zero, List.set_cons_succ, i64_w, i32_w]
     rfl
    refine one_ (i := 11) (N := some 63) #[true, true, true, true, true, true, true, true, true, true, true, true, false, false, false] rfl rfl (by kernel_rfl) (by decide) (fun K hK => ?_)
    refine goes_ Try.func61 (by kernel_rfl) rfl #[.slice A8 (r1).length c8, .int .i64 x.f0, .int .i64 x.f1, .int .i64 x.f2] (by rfl) rfl rfl (by (try simp only [List.map_toArray, List.map_cons, List.map_nil]); first | done | rfl) ?_
    refine (grow_st HS.out 2 (.slice A8 (r1).length c8) (r1) rfl (x.f0) (x.f1) (x.f2) (mkR ws (k + 1)) HG2.out).mono ?_
    rintro e w71_ ⟨A9, c9, rfl, hSm⟩
    have HSm : Hid (St (SL.blk g10 30 #[.int .i64 x.f0, .int .i64 x.f1, .int .i64 x.f2] :: SL.blk gt 97 #[.int .i64 id, .int .i64 fr, .slice A8 (r1).length c8] :: SL.row k44 44 (.slice A9 (mkR ws (k + 1)).length c9) (mkR ws (k + 1)) :: SL.blk gM 25 #[.int .i64 id, .int .i64 fr, .slice (some ad) ws.length c2, .slice A3 ns.length c3] :: l) w0 w71_) := Go.Lib.hid hSm
    clear hSm
    refine ⟨_, rfl, ?_⟩
    refine hK.out _ _ ⟨HSm.out.c3 0 _ _ _ _ _ rfl, HSm.out.c3 1 _ _ _ _ _ rfl⟩ (fun hHeld => ?_)
    clear hK K
    refine norm_ (a' := ?_) ?_ ?_
    rotate_left
    ·show Act.put _ (some 63) _ = _
     simp only [Act.put, List.setIfInBounds_toArray, List.set_cons_zero, List.set_cons_succ, i64_w, i32_w]
     rfl
    refine pure_ (i := 12) (N := some 64) (v := ?_) (a' := ?_) #[true, true, true, true, true, true, true, true, true, true, true, true, true, false, false] rfl rfl (by kernel_rfl) (fun _ _ _ h => h) (Or.inl ⟨by rfl, ?_⟩) ?_ ?_
    rotate_left
    ·intro w'
     go_simp
     with_reducible rfl
    rotate_left
    ·simp only [Act.put, List.setIfInBounds_toArray, List.set_cons_zero, List.set_cons_succ, i64_w, i32_w]
     rfl
    refine pure_ (i := 13) (N := some 65) (v := ?_) (a' := ?_) #[true, true, true, true, true, true, true, true, true, true, true, true, true, true, false] rfl rfl (by kernel_rfl) (fun _ _ _ h => h) (Or.inl ⟨by rfl, ?_⟩) ?_ ?_
    rotate_left
    ·intro w'
     go_simp
     with_reducible rfl
    rotate_left
    ·simp only [Act.put, List.setIfInBounds_toArray, List.set_cons_zero, List.set_cons_succ, i64_w, i32_w]
     rfl
    refine last_ (i := 14) (N := none) #[true, true, true, true, true, true, true, true, true, true, true, true, true, true, true] rfl rfl (by kernel_rfl) (by decide) (fun K hK => ?_)
    have f_ := HSm.out.free 1 _ _ _ rfl 2
    have c_ := HSm.out.cell 1 _ _ _ rfl 2
    refine Sl.store_stp HSm.out 1 gt 97 _ rfl 2 (.slice A9 (mkR ws (k + 1)).length c9) (by rfl) rfl (by first | (go_simp; done) | (go_simp; rfl)) ?_
    intro w73_ HSt
    clear f_ c_
    refine hK.out _ _ ?_
    clear hK K
    refine done_ (by kernel_rfl) ?_
    replace HS : Hid (St (SL.blk g10 30 #[.int .i64 x.f0, .int .i64 x.f1, .int .i64 x.f2] :: SL.blk gt 97 #[.int .i64 id, .int .i64 fr, .slice A9 (mkR ws (k + 1)).length c9] :: SL.row k44 44 (.slice A9 (mkR ws (k + 1)).length c9) (mkR ws (k + 1)) :: SL.blk gM 25 #[.int .i64 id, .int .i64 fr, .slice (some ad) ws.length c2, .slice A3 ns.length c3] :: l) w0 w73_) := Go.Lib.hid HSt
    clear HSt HSm
    obtain ⟨c0_0, c0_1, c0_2⟩ := HS.out.c3 0 _ _ _ _ _ rfl
    obtain ⟨c1_0, c1_1, c1_2⟩ := HS.out.c3 1 _ _ _ _ _ rfl
    obtain ⟨c3_0, c3_1, c3_2, c3_3⟩ := HS.out.c4 3 _ _ _ _ _ _ rfl
    go_wp2_with fail
    go_roundw
    case rel => exact ⟨k + 1, A9, c9, hlt, by rw [HN.out], rfl, HS.out.drop⟩
    case measure => simp [intOf]; omega
   ·obtain rfl : k = ws.length := by omega
    have hg := grow_is (mkR ws ws.length) (-1) (endB ws ws.length) (fr - endB ws ws.length) (by omega) (hRk.bd (by omega)) (by omega)
    have hAl : grw (mkR ws ws.length) (-1) (endB ws ws.length) (fr - endB ws ws.length) = allR fr ws := rfl
    rw [hAl] at hg
    have HG := Go.Lib.hid hg
    clear hg hAl hRk hk hlt
    generalize endB ws ws.length = eb at *
    obtain ⟨c0_0, c0_1, c0_2⟩ := HS.out.c3 0 _ _ _ _ _ rfl
    obtain ⟨c2_0, c2_1, c2_2, c2_3⟩ := HS.out.c4 2 _ _ _ _ _ _ rfl
    go_upto_region 15 with (fail)
    clear c0_0 c0_1 c0_2 c2_0 c2_1 c2_2 c2_3
    replace HS := Go.Lib.hid HS.out.drew
    have e1_ : wrap64 (fr - eb) = fr - eb := by unfold wrap64; omega
    have e0_ : IntKind.i64.wrap (fr - eb) = fr - eb := IntWalk.i64_in _ (by omega)
    refine start_ (n := 14) (S := fun w' => (w'.cell? ⟨gt, 0, none⟩ = some (.int .i64 id) ∧ w'.cell? ⟨gt, 1, none⟩ = some (.int .i64 fr) ∧ w'.cell? ⟨gt, 2, none⟩ = some (.slice A (mkR ws ws.length).length c)) ∧ (w'.cell? ⟨gM, 0, none⟩ = some (.int .i64 id) ∧ w'.cell? ⟨gM, 1, none⟩ = some (.int .i64 fr) ∧ w'.cell? ⟨gM, 2, none⟩ = some (.slice A2 ws.length c2) ∧ w'.cell? ⟨gM, 3, none⟩ = some (.slice A3 ns.length c3))) (ds := [13]) #[false, false, false, false, false, false, false, false, false, false, false, false, false, false] (by kernel_rfl) rfl rfl ⟨HS.out.c3 0 _ _ _ _ _ rfl, HS.out.c4 2 _ _ _ _ _ _ rfl⟩ (fun hHeld => ?_)
    generalize wr.drew = W15_ at *
    refine pure_ (i := 0) (N := some 72) (v := ?_) (a' := ?_) #[true, false, false, false, false, false, false, false, false, false, false, false, false, false] rfl rfl (by kernel_rfl) (fun _ _ _ h => h) (Or.inl ⟨by rfl, ?_⟩) ?_ ?_
    rotate_left
    ·intro w'
     go_simp
     with_reducible rfl
    rotate_left
    ·simp only [Act.put, List.setIfInBounds_toArray, List.set_cons_zero, List.set_cons_succ, i64_w, i32_w]
     rfl
    refine pure_ (i := 1) (N := some 73) (v := ?_) (a' := ?_) #[true, true, false, false, false, false, false, false, false, false, false, false, false, false] rfl rfl (by kernel_rfl) (fun _ _ _ h => h) (Or.inl ⟨by rfl, ?_⟩) ?_ ?_
    rotate_left
    ·intro w'
     go_simp
     with_reducible rfl
    rotate_left
    ·simp only [Act.put, List.setIfInBounds_toArray, List.set_cons_zero, List.set_cons_succ, i64_w, i32_w]
     rfl
    refine pure_ (i := 2) (N := some 74) (v := ?_) (a' := ?_) #[true, true, true, false, false, false, false, false, false, false, false, false, false, false] rfl rfl (by kernel_rfl) (fun _ _ _ h => h) (Or.inl ⟨by rfl, ?_⟩) ?_ ?_
    rotate_left
    ·intro w'
     go_simp
     with_reducible rfl
    rotate_left
    ·simp only [Act.put, List.setIfInBounds_toArray, List.set_cons_zero, List.set_cons_succ, i64_w, i32_w]
     rfl
    refine pure_ (i := 3) (N := some 75) (v := ?_) (a' := ?_) #[true, true, true, true, false, false, false, false, false, false, false, false, false, false] rfl rfl (by kernel_rfl) (fun _ _ _ h => h) (Or.inl ⟨by rfl, ?_⟩) ?_ ?_
    rotate_left
    ·intro w'
     go_simp
     with_reducible rfl
    rotate_left
    ·simp only [Act.put, List.setIfInBounds_toArray, List.set_cons_zero, List.set_cons_succ, i64_w, i32_w]
     rfl
    refine pure_ (i := 5) (N := some 77) (v := ?_) (a' := ?_) #[true, true, true, true, false, true, false, false, false, false, false, false, false, false] rfl rfl (by kernel_rfl) (fun _ _ _ h => h) (Or.inl ⟨by rfl, ?_⟩) ?_ ?_
    rotate_left
    ·intro w'
     go_simp
     with_reducible rfl
    rotate_left
    ·simp only [Act.put, List.setIfInBounds_toArray, List.set_cons_zero, List.set_cons_succ, i64_w, i32_w]
     rfl
    refine pure_ (i := 6) (N := some 78) (v := ?_) (a' := ?_) #[true, true, true, true, false, true, true, false, false, false, false, false, false, false] rfl rfl (by kernel_rfl) (fun _ _ _ h => h) (Or.inl ⟨by rfl, ?_⟩) ?_ ?_
    rotate_left
    ·intro w'
     go_simp
     with_reducible rfl
    rotate_left
    ·simp only [Act.put, List.setIfInBounds_toArray, List.set_cons_zero, List.set_cons_succ, i64_w, i32_w]
     rfl
    refine pure_ (i := 8) (N := some 80) (v := ?_) (a' := ?_) #[true, true, true, true, false, true, true, false, true, false, false, false, false, false] rfl rfl (by kernel_rfl) (fun _ _ _ h => h) (Or.inl ⟨by rfl, ?_⟩) ?_ ?_
    rotate_left
    ·intro w'
     go_simp
     with_reducible rfl
    rotate_left
    ·simp only [Act.put, List.setIfInBounds_toArray, List.set_cons_zero, List.set_cons_succ, i64_w, i32_w]
     rfl
    refine take_ (i := 4) (N := some 76) (v := ?_) (a' := ?_) #[true, true, true, true, true, true, true, false, true, false, false, false, false, false] rfl rfl (by kernel_rfl) (fun _ _ _ h => h) (Or.inl ⟨by rfl, ?_⟩) hHeld ?_ ?_
    rotate_left
    ·rintro w' ⟨⟨s0, s1, s2⟩, b0, b1, b2, b3⟩
     go_simp
     with_reducible rfl
    rotate_left
    ·simp only [Act.put, List.setIfInBounds_toArray, List.set_cons_zero, List.set_cons_succ, i64_w, i32_w]
     rfl
    refine take_ (i := 7) (N := some 79) (v := ?_) (a' := ?_) #[true, true, true, true, true, true, true, true, true, false, false, false, false, false] rfl rfl (by kernel_rfl) (fun _ _ _ h => h) (Or.inl ⟨by rfl, ?_⟩) hHeld ?_ ?_
    rotate_left
    ·rintro w' ⟨⟨s0, s1, s2⟩, b0, b1, b2, b3⟩
     go_simp
     with_reducible rfl
    rotate_left
    ·simp only [Act.put, List.setIfInBounds_toArray, List.set_cons_zero, List.set_cons_succ, i64_w, i32_w]
     rfl
    refine pure_ (i := 9) (N := some 81) (v := ?_) (a' := ?_) #[true, true, true, true, true, true, true, true, true, true, false, false, false, false] rfl rfl (by kernel_rfl) (fun _ _ _ h => h) (Or.inl ⟨by rfl, ?_⟩) ?_ ?_
    rotate_left
    ·intro w'
     go_simp
     with_reducible rfl
    rotate_left
    ·simp only [Act.put, List.setIfInBounds_toArray, List.set_cons_zero, List.set_cons_succ, i64_w, i32_w]
     rfl
    refine one_ (i := 10) (N := some 82) #[true, true, true, true, true, true, true, true, true, true, true, false, false, false] rfl rfl (by kernel_rfl) (by decide) (fun K hK => ?_)
    refine goes_ Try.func61 (by kernel_rfl) rfl #[.slice A (mkR ws ws.length).length c, .int .i64 (-1), .int .i64 eb, .int .i64 (fr - eb)] (by rfl) rfl rfl (by (try simp only [List.map_toArray, List.map_cons, List.map_nil]); first | done | rfl) ?_
    refine (grow_st HS.out 1 (.slice A (mkR ws ws.length).length c) (mkR ws ws.length) rfl (-1) (eb) (fr - eb) (allR fr ws) HG.out).mono ?_
    rintro e w71_ ⟨A9, c9, rfl, hSm⟩
    have HSm : Hid (St (SL.blk gt 97 #[.int .i64 id, .int .i64 fr, .slice A (mkR ws ws.length).length c] :: SL.row k44 44 (.slice A9 (allR fr ws).length c9) (allR fr ws) :: SL.blk gM 25 #[.int .i64 id, .int .i64 fr, .slice A2 ws.length c2, .slice A3 ns.length c3] :: l) w0 w71_) := Go.Lib.hid hSm
    clear hSm
    refine ⟨_, rfl, ?_⟩
    refine hK.out _ _ ⟨HSm.out.c3 0 _ _ _ _ _ rfl, HSm.out.c4 2 _ _ _ _ _ _ rfl⟩ (fun hHeld => ?_)
    clear hK K
    refine norm_ (a' := ?_) ?_ ?_
    rotate_left
    ·show Act.put _ (some 82) _ = _
     simp only [Act.put, List.setIfInBounds_toArray, List.set_cons_zero, List.set_cons_succ, i64_w, i32_w]
     rfl
    refine pure_ (i := 11) (N := some 83) (v := ?_) (a' := ?_) #[true, true, true, true, true, true, true, true, true, true, true, true, false, false] rfl rfl (by kernel_rfl) (fun _ _ _ h => h) (Or.inl ⟨by rfl, ?_⟩) ?_ ?_
    rotate_left
    ·intro w'
     go_simp
     with_reducible rfl
    rotate_left
    ·simp only [Act.put, List.setIfInBounds_toArray, List.set_cons_zero, List.set_cons_succ, i64_w, i32_w]
     rfl
    refine pure_ (i := 12) (N := some 84) (v := ?_) (a' := ?_) #[true, true, true, true, true, true, true, true, true, true, true, true, true, false] rfl rfl (by kernel_rfl) (fun _ _ _ h => h) (Or.inl ⟨by rfl, ?_⟩) ?_ ?_
    rotate_left
    ·intro w'
     go_simp
     with_reducible rfl
    rotate_left
    ·simp only [Act.put, List.setIfInBounds_toArray, List.set_cons_zero, List.set_cons_succ, i64_w, i32_w]
     rfl
    refine last_ (i := 13) (N := none) #[true, true, true, true, true, true, true, true, true, true, true, true, true, true] rfl rfl (by kernel_rfl) (by decide) (fun K hK => ?_)
    have f_ := HSm.out.free 0 _ _ _ rfl 2
    have c_ := HSm.out.cell 0 _ _ _ rfl 2
    refine Sl.store_stp HSm.out 0 gt 97 _ rfl 2 (.slice A9 (allR fr ws).length c9) (by rfl) rfl (by first | (go_simp; done) | (go_simp; rfl)) ?_
    intro w73_ HSt
    clear f_ c_
    refine hK.out _ _ ?_
    clear hK K
    refine done_ (by kernel_rfl) ?_
    replace HS : Hid (St (SL.blk gt 97 #[.int .i64 id, .int .i64 fr, .slice A9 (allR fr ws).length c9] :: SL.row k44 44 (.slice A9 (allR fr ws).length c9) (allR fr ws) :: SL.blk gM 25 #[.int .i64 id, .int .i64 fr, .slice A2 ws.length c2, .slice A3 ns.length c3] :: l) w0 w73_) := Go.Lib.hid HSt
    clear HSt HSm
    clear e0_ e1_
    go_wp2_with fail
    go_ret2
    exact .inl ⟨gt, A9, c9, rfl, HOK.out, HS.out.erase 2⟩
end Go.Proofs.Ytnpjbdaaoknkbaa.Tab
