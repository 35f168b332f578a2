/- Change: each partition does what a schedule says. -/
import Derived.Test.YtkmhgolohppliaaCrwD
namespace Go.Proofs.Ytkmhgolohppliaa.Crw
open Go.RowKit Go.Proofs.Ytkmhgolohppliaa.PCellsPlays Go.Proofs.YtkmhgolohppliaaW.PrintWords Go.Proofs.YtkmhgolohppliaaW.PrintLast Go.Proofs.YtkmhgolohppliaaW.PrintMore Go.Proofs.Ytkmhgolohppliaa.Mine Go.Proofs.Ytkmhgolohppliaa.Cel Go.Proofs.Ytkmhgolohppliaa.Cls
open Go.Proofs.Ytkmhgolohppliaa.Prt (PS new_hd setMode_at act_at write_at shot_at id_st)
open Go.Proofs.Ytkmhgolohppliaa.Sl (SL Stp Chg St No wpc_seal wpc_round sealed MK look)
open Go.Proofs.YtkmhgolohppliaaW.PrintWords (results_list Vals)
set_option linter.unusedVariables false
set_option linter.unusedSimpArgs false
attribute [local go_sem] max2_int min2_int max_two min_two max_three min_three max_four min_four
/-- The crew, the first ones turned. -/
def turned (acs : List S103) (s : Int) (ps : List CP) (k : Nat) : List CP := (ps.take k).map (actOf acs s) ++ ps.drop k
theorem turned_len (acs : List S103) (s : Int) (ps : List CP) (k : Nat) : (turned acs s ps k).length = ps.length := by
  unfold turned; rw [List.length_append, List.length_map, List.length_take, List.length_drop]; omega
theorem turned_zero (acs : List S103) (s : Int) (ps : List CP) : turned acs s ps 0 = ps := by simp [turned]
theorem turned_all (acs : List S103) (s : Int) (ps : List CP) : turned acs s ps ps.length = ps.map (actOf acs s) := by simp [turned]
theorem turned_get (acs : List S103) (s : Int) (ps : List CP) (k : Nat) (h : k < ps.length) : (turned acs s ps k)[k]'(by rw [turned_len]; exact h) = ps[k] := by
  unfold turned
  rw [List.getElem_append_right (by rw [List.length_map, List.length_take]; omega)]
  rw [List.getElem_drop]
  congr 1
  rw [List.length_map, List.length_take]; omega
theorem turned_next (acs : List S103) (s : Int) (ps : List CP) (k : Nat) (h : k < ps.length) : (turned acs s ps k).set k (actOf acs s ps[k]) = turned acs s ps (k + 1) := by
  unfold turned
  rw [List.set_append_right _ _ (by rw [List.length_map, List.length_take]; omega), List.length_map, List.length_take, show k - min k ps.length = 0 by omega]
  rw [List.take_succ_eq_append_getElem h, List.map_append, List.append_assoc]
  congr 1
  rw [← List.getElem_cons_drop h]
  rfl
theorem turned_map (acs : List S103) (s : Int) (ps : List CP) (k : Nat) : mapC (turned acs s ps k) = mapC ps ∧ idsC (turned acs s ps k) = idsC ps := by
  have h1 : ∀ {β : Type} (f : CP → β), (∀ x, f (actOf acs s x) = f x) → (turned acs s ps k).map f = ps.map f := by
    intro β f hf
    unfold turned
    rw [List.map_append, List.map_map, show f ∘ actOf acs s = f from funext hf, ← List.map_append, List.take_append_drop]
  exact ⟨by unfold mapC; rw [h1 _ (fun x => rfl)], by unfold idsC; rw [h1 _ (fun x => rfl)]⟩
variable {l pre : List SL} {w0 w : World} {gc bm : Nat} {A : Option Addr} {c : Nat} {ids : List Int} {ps : List CP}
set_option maxHeartbeats 3200000 in
set_option maxRecDepth 100000 in
theorem eachDid_st (h : St (pre ++ crewL gc bm A c ids ps l) w0 w) (hid : ids = idsC ps) (hnd : (idsC ps).Nodup) (hfi : ∀ x ∈ ps, Fine x) (hwf : ∀ x ∈ ps, (Lit.int .i64 x.p.f0).wf = true) (hn : ps.length ≤ 1000) (AA : Option Addr) (ca : Nat) (acs : List S103)
    (hact : ∀ (lx : List SL) (ps2 : List CP) (w1 : World), St (lx ++ (pre ++ crewL gc bm A c ids ps2 l)) w0 w1 → k103.C w1 AA acs.length acs) (hlen : acs.length ≤ 1000000) (n4 n5 b4 b5 : Nat) (s : Int)
    (e4 : pre[n4]? = some (SL.blk b4 93 #[.slice AA acs.length ca])) (e5 : pre[n5]? = some (SL.blk b5 3 #[.int .i64 s])) :
    Calls Try.prog 109 #[.pointer (some ⟨gc, 0, none⟩), .func (.func 110) #[] #[.pointer (some ⟨b4, 0, none⟩), .pointer (some ⟨b5, 0, none⟩)]] w fun e w' => ∃ A9 c9 ds, e = .returned (.slice A9 ds.length c9) ∧ ds = ps.map (didOf acs s) ∧ St (SL.row k108 108 (.slice A9 ds.length c9) ds :: (pre ++ crewL gc bm A c ids (ps.map (actOf acs s)) l)) w0 w' := by
  have HS := Go.Lib.hid h
  have HA := Go.Lib.hid hact
  have HID := Go.Lib.hid hid
  have HND := Go.Lib.hid hnd
  have HFI := Go.Lib.hid hfi
  have HWF := Go.Lib.hid hwf
  have hil : ids.length = ps.length := by rw [hid]; unfold idsC; rw [List.length_map]
  have HIL := Go.Lib.hid hil
  have hil2 : ids.length ≤ 1000 := by omega
  obtain ⟨q0, q1⟩ := h.c2 _ _ _ _ _ cr_gc
  clear h hact hid hnd hfi hwf hil
  go_enter Try.func109, Try.ntmps109
  go_wp2_with fail
  clear q0 q1
  replace HS : Hid (St (SL.row k108 108 (.slice none ([] : List S108).length 0) [] :: (pre ++ crewL gc bm A c ids (turned acs s ps 0) l)) w0 w) := Go.Lib.hid (by rw [turned_zero]; exact HS.out.nilrow k108 108)
  go_loopw [5, 13] (fun a i wr => ∃ (k : Nat) (ds : List S108) (A9 : Option Addr) (c9 : Nat), k ≤ ps.length ∧ a = .slice A9 ds.length c9 ∧ i = .int .i64 k ∧ ds = (ps.take k).map (didOf acs s) ∧ St (SL.row k108 108 (.slice A9 ds.length c9) ds :: (pre ++ crewL gc bm A c ids (turned acs s ps k) l)) w0 wr) (fun _ i _ => ps.length - (intOf i).toNat)
  case atStart => exact ⟨0, [], none, 0, Nat.zero_le _, rfl, rfl, rfl, HS.out⟩
  case round =>
    clear HS
    obtain ⟨k, ds, A9, c9, hk, rfl, rfl, hds, hS⟩ := hrel
    have HS : Hid (St ((SL.row k108 108 (.slice A9 ds.length c9) ds :: pre) ++ crewL gc bm A c ids (turned acs s ps k) l) w0 wr) := Go.Lib.hid hS
    have HDS := Go.Lib.hid hds
    have hdl : ds.length ≤ 1000 := by rw [hds, List.length_map, List.length_take]; omega
    clear hS hds
    have hik : ids.length = ps.length := HIL.out
    by_cases hlt : k < ps.length
    · obtain ⟨q0, q1⟩ := HS.out.c2 _ _ _ _ _ cr_gc
      obtain ⟨A', c', hv, _, hC⟩ := HS.out.rowC _ cr_ids
      injection hv with v1 v2 v3
      rw [← v1] at hC
      clear v1 v2 v3
      obtain ⟨ai, rfl, g0⟩ := Kd.at_int hC (k : Int) (by omega) (by omega)
      rw [Int.toNat_natCast] at g0
      obtain ⟨x, hx⟩ : ∃ x, ps[k] = x := ⟨_, rfl⟩
      have hxm : x ∈ ps := by rw [← hx]; exact List.getElem_mem hlt
      have hrd : rd ids (k : Int) = x.p.f0 := by
        unfold rd; rw [Int.toNat_natCast, HID.out, List.getD_eq_getElem?_getD]
        unfold idsC
        rw [List.getElem?_map, List.getElem?_eq_getElem hlt, hx]; rfl
      rw [hrd] at g0
      have hlk : Sl.look (mapC (turned acs s ps k)) x.p.f0 = some (.pointer (some ⟨x.g, 0, none⟩)) := by
        rw [(turned_map acs s ps k).1, ← hx]; exact look_at ps HND.out k hlt
      have HL := Go.Lib.hid hlk
      have HX : Hid (KI.ok x.p.f0) := Go.Lib.hid (HWF.out x hxm)
      have HFX := Go.Lib.hid (HFI.out x hxm)
      have HTG := Go.Lib.hid ((turned_get acs s ps k hlt).trans hx)
      have HTN : Hid ((turned acs s ps k).set k (actOf acs s x) = turned acs s ps (k + 1)) := Go.Lib.hid (by rw [← hx]; exact turned_next acs s ps k hlt)
      have HDN : Hid ((ps.take (k + 1)).map (didOf acs s) = (ps.take k).map (didOf acs s) ++ [didOf acs s x]) := Go.Lib.hid (by rw [List.take_succ_eq_append_getElem hlt, hx, List.map_append]; rfl)
      have htl : k < (turned acs s ps k).length := by rw [turned_len]; exact hlt
      have hki : k < ids.length := by omega
      clear hC hrd hlk hx hxm hik
      go_wp2_with (first | (at_lookup; refine Sl.lookup_st HS.out _ cr_map 186 65 Try.underlying186 (zero65 _) x.p.f0 HX.out rfl (.tmp 22) (.tmp 23) rfl rfl rfl ?_; rw [HL.out]; simp only [Option.getD_some]) | (go_at_call 110; refine (did_st HS.out AA ca acs (fun lx w1 h1 => HA.out (lx ++ [_]) _ w1 (by rw [List.append_assoc]; exact h1)) hlen (n4 + 1) (n5 + 1) b4 b5 s e4 e5 k htl x HTG.out HFX.out).mono ?_; rintro e w40_ ⟨rfl, hS⟩; rw [HTN.out] at hS; replace HS : Hid (St (SL.row k108 108 (.slice A9 ds.length c9) ds :: (pre ++ crewL gc bm (some ai) c ids (turned acs s ps (k + 1)) l)) w0 w40_) := Go.Lib.hid hS; clear hS q0 q1 g0) | ((with_reducible refine gate_dst (N := 27) rfl ?_); refine Sl.append_st (k108) ((flat_iso (flat_pair (flat_int .i64) (flat_pair (flat_int .i64) flat_bool)))) HS.out 0 (.slice A9 ds.length c9) (ds) 108 rfl (by rfl) (.tmp 17) (.tmp 26) 105 (.agg #[.int .i64 0, .int .i64 0, .bool false]) 24 rfl Try.underlying105 (by kernel_rfl) rfl (by decide) (by decide) (didOf acs s x) [.int .i64 (didOf acs s x).f0, .int .i64 (didOf acs s x).f1, .bool (didOf acs s x).f2] rfl rfl ?hp ?hb ?_; (case hp => first | rfl | exact k108_mk _ _); (case hb => omega); intro v1_ w51_ HSn; obtain ⟨A19_, c19_, hv2_, _⟩ := HSn.rowC 0 rfl; subst hv2_; replace HS : Hid (St (SL.row (k108) 108 (.slice A19_ (ds ++ [didOf acs s x]).length c19_) (ds ++ [didOf acs s x]) :: (pre ++ crewL gc bm (some ai) c ids (turned acs s ps (k + 1)) l)) w0 w51_) := Go.Lib.hid HSn; clear HSn))
      have HS2 : Hid (St (SL.row k108 108 (.slice A19_ (ds ++ [didOf acs s x]).length c19_) (ds ++ [didOf acs s x]) :: (pre ++ crewL gc bm (some ai) c ids (turned acs s ps (k + 1)) l)) w0 w51_) := Go.Lib.hid HS.out
      go_roundw
      case rel => exact ⟨k + 1, ds ++ [didOf acs s x], A19_, c19_, hlt, by simp, by go_num, by rw [HDN.out, ← HDS.out], HS2.out⟩
      case measure => simp [intOf]; omega
    · obtain rfl : k = ps.length := by omega
      have hnl : ¬ ps.length < ids.length := by omega
      clear hik
      go_wp2_with fail
      go_ret
      exact ⟨A9, c9, ds, rfl, by rw [HDS.out, List.take_length], by have h9 := HS.out; rw [turned_all] at h9; exact h9⟩
set_option maxHeartbeats 1600000 in
set_option maxRecDepth 100000 in
theorem change_st (h : St (pre ++ crewL gc bm A c ids ps l) w0 w) (hid : ids = idsC ps) (hnd : (idsC ps).Nodup) (hfi : ∀ x ∈ ps, Fine x) (hwf : ∀ x ∈ ps, (Lit.int .i64 x.p.f0).wf = true) (hn : ps.length ≤ 1000) (AA : Option Addr) (ca : Nat) (acs : List S103)
    (hact : ∀ (lx : List SL) (ps2 : List CP) (w1 : World), St (lx ++ (pre ++ crewL gc bm A c ids ps2 l)) w0 w1 → k103.C w1 AA acs.length acs) (hlen : acs.length ≤ 1000000) (s : Int) :
    Calls Try.prog 63 #[.pointer (some ⟨gc, 0, none⟩), .slice AA acs.length ca, .int .i64 s] w fun e w' => ∃ A9 c9 ds, e = .returned (.slice A9 ds.length c9) ∧ ds = ps.map (didOf acs s) ∧ St (SL.row k108 108 (.slice A9 ds.length c9) ds :: (pre ++ crewL gc bm A c ids (ps.map (actOf acs s)) l)) w0 w' := by
  have HS := Go.Lib.hid h
  have HA := Go.Lib.hid hact
  clear h hact
  go_enter Try.func63, Try.ntmps63
  go_wp2_with (first | ((with_reducible refine gate_dst (N := 4) rfl ?_); refine Sl.box_st HS.out (by rfl) (cs := #[.slice AA acs.length ca]) (t := 93) ?hr ?_; (case hr => first | (go_simp; done) | (go_simp; rfl)); intro b4 w1_ HSn HBn; clear HBn; replace HS : Hid (St (SL.blk b4 93 #[.slice AA acs.length ca] :: (pre ++ crewL gc bm A c ids ps l)) w0 w1_) := Go.Lib.hid HSn; clear HSn; obtain c0_0 := HS.out.c1 0 _ _ _ rfl) | ((with_reducible refine gate_dst (N := 5) rfl ?_); refine Sl.box_st HS.out (by rfl) (cs := #[.int .i64 s]) (t := 3) ?hr ?_; (case hr => first | (go_simp; done) | (go_simp; rfl)); intro b5 w2_ HSn HBn; clear HBn; replace HS : Hid (St (SL.blk b5 3 #[.int .i64 s] :: SL.blk b4 93 #[.slice AA acs.length ca] :: (pre ++ crewL gc bm A c ids ps l)) w0 w2_) := Go.Lib.hid HSn; clear HSn; clear c0_0; obtain c0_0 := HS.out.c1 0 _ _ _ rfl; obtain c1_0 := HS.out.c1 1 _ _ _ rfl))
  clear c0_0 c1_0
  refine (eachDid_st (pre := SL.blk b5 3 #[.int .i64 s] :: SL.blk b4 93 #[.slice AA acs.length ca] :: pre) HS.out hid hnd hfi hwf hn AA ca acs (fun lx ps2 w1 h1 => HA.out (lx ++ [_, _]) ps2 w1 (by rw [List.append_assoc]; exact h1)) hlen 1 0 b4 b5 s rfl rfl).mono ?_
  rintro e w9 ⟨A9, c9, ds, rfl, hds, hS⟩
  have HSn : Hid (St (SL.row k108 108 (.slice A9 ds.length c9) ds :: SL.blk b5 3 #[.int .i64 s] :: SL.blk b4 93 #[.slice AA acs.length ca] :: (pre ++ crewL gc bm A c ids (ps.map (actOf acs s)) l)) w0 w9) := Go.Lib.hid hS
  have HD := Go.Lib.hid hds
  clear hS hds
  go_wp2_with fail
  go_ret
  exact ⟨A9, c9, ds, rfl, HD.out, (HSn.out.erase 1).erase 1⟩
end Go.Proofs.Ytkmhgolohppliaa.Crw
