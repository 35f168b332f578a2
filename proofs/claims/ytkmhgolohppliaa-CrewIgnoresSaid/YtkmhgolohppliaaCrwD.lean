/- What a schedule does to a crew. -/
import Derived.Test.YtkmhgolohppliaaCrwC
namespace Go.Proofs.Ytkmhgolohppliaa.Crw
open Go.RowKit Go.Proofs.Ytkmhgolohppliaa.PCellsPlays Go.Proofs.YtkmhgolohppliaaW.PrintWords Go.Proofs.YtkmhgolohppliaaW.PrintLast Go.Proofs.YtkmhgolohppliaaW.PrintMore Go.Proofs.Ytkmhgolohppliaa.Mine Go.Proofs.Ytkmhgolohppliaa.Cel Go.Proofs.Ytkmhgolohppliaa.Cls
open Go.Proofs.Ytkmhgolohppliaa.Prt (PS new_hd setMode_at act_at write_at shot_at id_st)
open Go.Proofs.Ytkmhgolohppliaa.Sl (SL Stp Chg St No wpc_seal wpc_round sealed MK look)
open Go.Proofs.YtkmhgolohppliaaW.PrintWords (results_list Vals)
set_option linter.unusedVariables false
set_option linter.unusedSimpArgs false
attribute [local go_sem] max2_int min2_int max_two min_two max_three min_three max_four min_four
def actOf (acs : List S103) (s : Int) (x : CP) : CP := ⟨x.g, x.p, x.s.act x.p.f3 (forM acs s x.p.f0)⟩
def didOf (acs : List S103) (s : Int) (x : CP) : S108 := ⟨x.p.f0, forM acs s x.p.f0, !decide ((Mod.actM x.s.mode (forM acs s x.p.f0)).2.1 = 0)⟩
theorem cr_pre {pre L : List SL} {n : Nat} {X : SL} (h : pre[n]? = some X) : (pre ++ L)[n]? = some X := by
  rw [List.getElem?_append_left (List.getElem?_eq_some_iff.1 h).1]; exact h
/-- A partition that may be called on. -/
structure Fine (x : CP) : Prop where
  s0 : 0 ≤ x.s.starts
  s1 : x.s.starts ≤ 100000
  n : x.p.f3.length ≤ 1000
  len : x.s.now.length = x.p.f3.length
  wr0 : 0 ≤ x.s.wr
theorem Fine.turn {x : CP} (h : Fine x) (a : Int) (h1 : x.s.starts ≤ 99999) : Fine ⟨x.g, x.p, x.s.act x.p.f3 a⟩ := by
  have h2 := Prt.act_wr x.p.f3 x.s a h.wr0
  refine ⟨?_, ?_, h.n, Prt.act_len x.p.f3 x.s a h.len, h2.1⟩
  · have := h.s0
    by_cases c : (Mod.actM x.s.mode a).2.1 = 0
    · show 0 ≤ (x.s.act x.p.f3 a).starts; rw [Prt.act_plain _ _ _ c]; exact this
    · show 0 ≤ (x.s.act x.p.f3 a).starts; rw [(Prt.act_grant _ _ _ c).1]; omega
  · by_cases c : (Mod.actM x.s.mode a).2.1 = 0
    · show (x.s.act x.p.f3 a).starts ≤ _; rw [Prt.act_plain _ _ _ c]; omega
    · show (x.s.act x.p.f3 a).starts ≤ _; rw [(Prt.act_grant _ _ _ c).1]; omega
variable {l pre : List SL} {w0 w : World} {gc bm : Nat} {A : Option Addr} {c : Nat} {ids : List Int} {ps : List CP}
set_option maxHeartbeats 3200000 in
set_option maxRecDepth 100000 in
theorem did_st (h : St (pre ++ crewL gc bm A c ids ps l) w0 w) (AA : Option Addr) (ca : Nat) (acs : List S103) (hact : ∀ (lx : List SL) (w1 : World), St (lx ++ (pre ++ crewL gc bm A c ids ps l)) w0 w1 → k103.C w1 AA acs.length acs) (hlen : acs.length ≤ 1000000) (n4 n5 b4 b5 : Nat) (s : Int)
    (e4 : pre[n4]? = some (SL.blk b4 93 #[.slice AA acs.length ca])) (e5 : pre[n5]? = some (SL.blk b5 3 #[.int .i64 s])) (i : Nat) (hi : i < ps.length) (x : CP) (hx : ps[i] = x) (hfx : Fine x) :
    Calls Try.prog 110 #[.pointer (some ⟨x.g, 0, none⟩), .pointer (some ⟨b4, 0, none⟩), .pointer (some ⟨b5, 0, none⟩)] w fun e w' => e = .returned (.agg #[.int .i64 (didOf acs s x).f0, .int .i64 (didOf acs s x).f1, .bool (didOf acs s x).f2]) ∧ St (pre ++ crewL gc bm A c ids (ps.set i (actOf acs s x)) l) w0 w' := by
  have HS := Go.Lib.hid h
  have HA := Go.Lib.hid hact
  have E4 := Go.Lib.hid (cr_pre (L := crewL gc bm A c ids ps l) e4)
  have E5 := Go.Lib.hid (cr_pre (L := crewL gc bm A c ids ps l) e5)
  have EP : ∀ pre2 : List SL, (pre2 ++ crewL gc bm A c ids ps l)[pre2.length + (3 + (ps.length - 1 - i))]? = some (Prt.part x.g x.p.f0 x.p.f1 x.p.f2 x.p.f3 x.s) := fun pre2 => by rw [← hx]; exact cr_part i hi
  have HEP := Go.Lib.hid EP
  have HTU : Hid (∀ (pre2 : List SL) (s2 : PS), (pre2 ++ crewL gc bm A c ids ps l).set (pre2.length + (3 + (ps.length - 1 - i))) (Prt.part x.g x.p.f0 x.p.f1 x.p.f2 x.p.f3 s2) = pre2 ++ crewL gc bm A c ids (ps.set i ⟨x.g, x.p, s2⟩) l) := Go.Lib.hid (fun pre2 s2 => by subst hx; exact cr_turn i hi s2)
  have hs0 := hfx.s0
  have hs1 := hfx.s1
  have hn := hfx.n
  clear h hact e4 e5 EP hx hfx
  go_enter Try.func110, Try.ntmps110
  go_upto_region 1 with (first | ((with_reducible refine gate_dst (N := 4) rfl ?_); refine Sl.box_st HS.out (by rfl) (cs := #[.int .i64 0, .int .i64 0, .bool false]) (t := 108) ?hr ?_; (case hr => first | (go_simp; done) | (go_simp; rfl)); intro g4 w1_ HSn HBn; clear HBn; replace HS : Hid (St (SL.blk g4 108 #[.int .i64 0, .int .i64 0, .bool false] :: (pre ++ crewL gc bm A c ids ps l)) w0 w1_) := Go.Lib.hid HSn; clear HSn; obtain ⟨c0_0, c0_1, c0_2⟩ := HS.out.c3 0 _ _ _ _ _ rfl))
  clear c0_0 c0_1 c0_2
  replace HS := Go.Lib.hid HS.out.drew
  refine start_ (n := 6) (S := fun w' => w'.cell? ⟨b4, 0, none⟩ = some (.slice AA acs.length ca) ∧ w'.cell? ⟨b5, 0, none⟩ = some (.int .i64 s)) (ds := []) #[false, false, false, false, false, false] (by kernel_rfl) rfl rfl ⟨HS.out.c1 (n4 + 1) _ _ _ E4.out, HS.out.c1 (n5 + 1) _ _ _ E5.out⟩ (fun hHeld => ?_)
  generalize w1_.drew = W_ at *
  refine pure_ (i := 2) (N := some 8) (v := ?_) (a' := ?_) #[false, false, true, false, false, false] rfl rfl (by kernel_rfl) (fun _ _ _ h => h) (Or.inl ⟨by rfl, ?_⟩) ?_ ?_
  rotate_left
  · intro w'
    go_simp
    with_reducible rfl
  rotate_left
  · simp only [Act.put, List.setIfInBounds_toArray, List.set_cons_zero, List.set_cons_succ, i64_w, i32_w]
    rfl
  refine take_ (i := 0) (N := some 6) (v := ?_) (a' := ?_) #[true, false, true, false, false, false] rfl rfl (by kernel_rfl) (fun _ _ _ h => h) (Or.inl ⟨by rfl, ?_⟩) hHeld ?_ ?_
  rotate_left
  · rintro w' ⟨s0, s1⟩
    go_simp
    with_reducible rfl
  rotate_left
  · simp only [Act.put, List.setIfInBounds_toArray, List.set_cons_zero, List.set_cons_succ, i64_w, i32_w]
    rfl
  refine take_ (i := 1) (N := some 7) (v := ?_) (a' := ?_) #[true, true, true, false, false, false] rfl rfl (by kernel_rfl) (fun _ _ _ h => h) (Or.inl ⟨by rfl, ?_⟩) hHeld ?_ ?_
  rotate_left
  · rintro w' ⟨s0, s1⟩
    go_simp
    with_reducible rfl
  rotate_left
  · simp only [Act.put, List.setIfInBounds_toArray, List.set_cons_zero, List.set_cons_succ, i64_w, i32_w]
    rfl
  refine one_ (i := 3) (N := some 9) #[true, true, true, true, false, false] rfl rfl (by kernel_rfl) (by decide) (fun K hK => ?_)
  refine goes_ Try.func50 (by kernel_rfl) rfl #[.pointer (some ⟨x.g, 0, none⟩)] (by rfl) rfl rfl (by (try simp only [List.map_toArray, List.map_cons, List.map_nil]); first | done | rfl) ?_
  refine (id_st (l := (SL.blk g4 108 #[.int .i64 0, .int .i64 0, .bool false] :: pre) ++ crewL gc bm A c ids ps l) HS.out _ (HEP.out _)).mono ?_
  rintro e w' ⟨rfl, rfl⟩
  refine ⟨_, rfl, ?_⟩
  refine hK.out _ _ ⟨HS.out.c1 (n4 + 1) _ _ _ E4.out, HS.out.c1 (n5 + 1) _ _ _ E5.out⟩ (fun hHeld => ?_)
  clear hK K
  refine norm_ (a' := ?_) ?_ ?_
  rotate_left
  · show Act.put _ (some 9) _ = _
    simp only [Act.put, List.setIfInBounds_toArray, List.set_cons_zero, List.set_cons_succ, i64_w, i32_w]
    rfl
  refine one_ (i := 4) (N := some 10) #[true, true, true, true, true, false] rfl rfl (by kernel_rfl) (by decide) (fun K hK => ?_)
  refine goes_ Try.func111 (by kernel_rfl) rfl #[.slice AA acs.length ca, .int .i64 s, .int .i64 x.p.f0] (by rfl) rfl rfl (by (try simp only [List.map_toArray, List.map_cons, List.map_nil]); first | done | rfl) ?_
  refine (for_st HS.out AA ca acs (fun lx w1 h1 => HA.out (lx ++ [_]) w1 (by rw [List.append_assoc]; exact h1)) hlen s x.p.f0).mono ?_
  rintro e w3 ⟨rfl, hS⟩
  replace HS : Hid (St (SL.blk g4 108 #[.int .i64 0, .int .i64 0, .bool false] :: (pre ++ crewL gc bm A c ids ps l)) w0 w3) := Go.Lib.hid hS
  clear hS
  refine ⟨_, rfl, ?_⟩
  refine hK.out _ _ ⟨HS.out.c1 (n4 + 1) _ _ _ E4.out, HS.out.c1 (n5 + 1) _ _ _ E5.out⟩ (fun hHeld => ?_)
  clear hK K
  refine norm_ (a' := ?_) ?_ ?_
  rotate_left
  · show Act.put _ (some 10) _ = _
    simp only [Act.put, List.setIfInBounds_toArray, List.set_cons_zero, List.set_cons_succ, i64_w, i32_w]
    rfl
  refine pure_ (i := 5) (N := some 5) (v := ?_) (a' := ?_) #[true, true, true, true, true, true] rfl rfl (by kernel_rfl) (fun _ _ _ h => h) (Or.inl ⟨by rfl, ?_⟩) ?_ ?_
  rotate_left
  · intro w'
    go_simp
    with_reducible rfl
  rotate_left
  · simp only [Act.put, List.setIfInBounds_toArray, List.set_cons_zero, List.set_cons_succ, i64_w, i32_w]
    rfl
  refine done_ (by kernel_rfl) ?_
  go_wp2_with (first | (go_at_call 50; refine (id_st (l := (SL.blk g4 108 #[.int .i64 0, .int .i64 0, .bool false] :: pre) ++ crewL gc bm A c ids ps l) HS.out _ (HEP.out _)).mono ?_; rintro e w' ⟨rfl, rfl⟩) | (go_at_call 41; refine (act_at (l := (SL.blk g4 108 #[.int .i64 0, .int .i64 0, .bool false] :: pre) ++ crewL gc bm A c ids ps l) HS.out _ (HEP.out _) (forM acs s x.p.f0) hs0 (by omega) (by omega)).mono ?_; rintro e w31_ ⟨rfl, hS⟩; rw [HTU.out] at hS; replace HS : Hid (St (SL.blk g4 108 #[.int .i64 0, .int .i64 0, .bool false] :: (pre ++ crewL gc bm A c ids (ps.set i (actOf acs s x)) l)) w0 w31_) := Go.Lib.hid hS; clear hS; obtain ⟨c0_0, c0_1, c0_2⟩ := HS.out.c3 0 _ _ _ _ _ rfl) | ((with_reducible refine gate_store (p := 4) rfl ?_); refine Sl.storeAll_st HS.out 0 g4 108 _ rfl [.int .i64 x.p.f0, .int .i64 (forM acs s x.p.f0), .bool (!decide ((Mod.actM x.s.mode (forM acs s x.p.f0)).2.1 = 0))] rfl (by rfl) (by rfl) ?hr ?_; (case hr => have f_ := HS.out.f3 0 _ _ _ _ _ rfl; (try obtain ⟨f0, f1, f2⟩ := f_); first | (go_simp; done) | (go_simp; rfl)); intro w31_ HSn; replace HS : Hid (St (SL.blk g4 108 #[.int .i64 x.p.f0, .int .i64 (forM acs s x.p.f0), .bool (!decide ((Mod.actM x.s.mode (forM acs s x.p.f0)).2.1 = 0))] :: (pre ++ crewL gc bm A c ids (ps.set i (actOf acs s x)) l)) w0 w31_) := Go.Lib.hid HSn; clear HSn; clear c0_0 c0_1 c0_2; obtain ⟨c0_0, c0_1, c0_2⟩ := HS.out.c3 0 _ _ _ _ _ rfl))
  exact bodyPost_ret (results_cell_row (by rfl) _ _ g4 108 _ (0, 0) _ rfl (HS.out.heap 0 _ _ _ rfl) Try.underlying108 rfl (by kernel_rfl)) rfl ⟨rfl, HS.out.drop⟩
end Go.Proofs.Ytkmhgolohppliaa.Crw
