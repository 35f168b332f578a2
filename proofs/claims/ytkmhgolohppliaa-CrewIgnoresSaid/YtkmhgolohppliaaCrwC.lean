/- A crew read; what acts say of a partition. -/
import Derived.Test.YtkmhgolohppliaaCrwB
namespace Go.Proofs.Ytkmhgolohppliaa.Crw
open Go.RowKit Go.Proofs.Ytkmhgolohppliaa.PCellsPlays Go.Proofs.YtkmhgolohppliaaW.PrintWords Go.Proofs.YtkmhgolohppliaaW.PrintLast Go.Proofs.YtkmhgolohppliaaW.PrintMore Go.Proofs.Ytkmhgolohppliaa.Mine Go.Proofs.Ytkmhgolohppliaa.Cel Go.Proofs.Ytkmhgolohppliaa.Cls
open Go.Proofs.Ytkmhgolohppliaa.Prt (PS new_hd setMode_at act_at write_at shot_at id_st)
open Go.Proofs.Ytkmhgolohppliaa.Sl (SL Stp Chg St No wpc_seal wpc_round sealed MK look)
open Go.Proofs.YtkmhgolohppliaaW.PrintWords (results_list Vals)
set_option linter.unusedVariables false
set_option linter.unusedSimpArgs false
attribute [local go_sem] max2_int min2_int max_two min_two max_three min_three max_four min_four
/-- What was done to a partition. -/
structure S108 where
  f0 : Int
  f1 : Int
  f2 : Bool
def z108 : S108 := ⟨0, 0, false⟩
def k108 : Kd S108 := Kd.iso (Kd.pair (Kd.int .i64) (Kd.pair (Kd.int .i64) (Kd.bool))) (fun x : S108 => (x.f0, x.f1, x.f2))
theorem k108_open {w : World} {x : S108} {cs : List Value} (h : k108.K w x cs) : cs = [.int .i64 x.f0, .int .i64 x.f1, .bool x.f2] := by
  obtain ⟨_, _, rfl, rfl, ⟨_, _, rfl, rfl, rfl⟩⟩ := h
  exact rfl
theorem k108_mk (w : World) (x : S108) : k108.K w x [.int .i64 x.f0, .int .i64 x.f1, .bool x.f2] := ⟨[.int .i64 x.f0], [.int .i64 x.f1, .bool x.f2], rfl, rfl, ⟨[.int .i64 x.f1], [.bool x.f2], rfl, rfl, rfl⟩⟩
def rd_T108 (xs : List S108) (i : Int) : S108 := xs.getD i.toNat z108
theorem at_T108 {w : World} {A : Option Addr} {n : Nat} {xs : List S108} (h : Kd.C k108 w A n xs) (i : Int) (h0 : 0 ≤ i) (h1 : i < n) : ∃ ad , A = some ad ∧ w.cell? (ad.add (i.toNat * 3)) = some (.int .i64 (rd_T108 xs i).f0) ∧
    w.cell? ⟨(ad.add (i.toNat * 3)).block, (ad.add (i.toNat * 3)).off + 1, none⟩ = some (.int .i64 (rd_T108 xs i).f1) ∧
    w.cell? ⟨(ad.add (i.toNat * 3)).block, (ad.add (i.toNat * 3)).off + 2, none⟩ = some (.bool (rd_T108 xs i).f2) := by
  obtain ⟨ad, c, e, _, hK, hc0⟩ := Kd.C_get h z108 i h0 h1
  have hc : ∀ j u, c[j]? = some u → w.cell? (ad.add (i.toNat * 3 + j)) = some u := hc0
  obtain rfl := k108_open hK
  exact ⟨ad, e, hc 0 _ rfl, by rw [← add_field _ _ 1 (by omega)]; exact hc 1 _ rfl, by rw [← add_field _ _ 2 (by omega)]; exact hc 2 _ rfl⟩
set_option maxHeartbeats 400000 in
theorem clone107_calls (A : Option Addr) (n c : Nat) (xs : List Int) (w : World) (hC : (Kd.int .i64).C w A n xs) (hn : n * 8 ≤ 140737488355328) :
    Calls Try.prog 107 #[.slice A n c] w fun e w' => ∃ v, e = .returned v ∧ (Kd.int .i64).R 3 w' w.heap.size (fun _ => True) v xs ∧ Below w.heap.size w w' := by
  rcases A with _ | ad
  · have h0 : n = 0 := by
      rcases Nat.eq_zero_or_pos n with h0 | h0
      · exact h0
      · obtain ⟨_, h, _⟩ := hC.2.2 h0; cases h
    subst h0
    obtain rfl : xs = [] := List.eq_nil_of_length_eq_zero hC.1
    have hq := Go.Lib.run_eql_slice_nil (P := Try.prog) w 22 3 none 0 c 0 0 Try.underlying22
    go_enter Try.func107, Try.ntmps107
    go_wp2_with fail
    go_ret
    exact ⟨_, rfl, Kd.R_nil _ _ _ _ _, Below.refl _ _⟩
  · have HC := Go.Lib.hid hC
    clear hC
    have hq := Go.Lib.run_eql_slice_nil (P := Try.prog) w 22 3 (some ad) n c 0 0 Try.underlying22
    go_enter Try.func107, Try.ntmps107
    go_wp2_with (first | (at_builtin; refine append_clone (d := Kd.int .i64) (flat_int .i64) w rfl _ _ 22 3 (.int .i64 0) 8 rfl Try.underlying22 (by kernel_rfl) rfl (by decide) (by decide) xs ad n c rfl rfl HC.out hn ?_; intro v1 w1 hR1 hB1; have HR1 := Go.Lib.hid hR1; have HB1 := Go.Lib.hid hB1; clear hR1 hB1))
    go_ret
    exact ⟨_, rfl, HR1.out, HB1.out⟩

section
variable {l pre : List SL} {w0 w : World} {gc bm : Nat} {A : Option Addr} {c : Nat} {ids : List Int} {ps : List CP}
theorem cr_at (pre : List SL) (L : List SL) (i : Nat) (X : SL) (h : L[i]? = some X) : (pre ++ L)[pre.length + i]? = some X := by
  rw [List.getElem?_append_right (by omega), Nat.add_sub_cancel_left]; exact h
theorem cr_set (pre L : List SL) (i : Nat) (X : SL) : (pre ++ L).set (pre.length + i) X = pre ++ L.set i X := by
  rw [List.set_append_right _ _ (by omega), Nat.add_sub_cancel_left]
theorem cr_gc : (pre ++ crewL gc bm A c ids ps l)[pre.length + 0]? = some (SL.blk gc 188 #[.slice A ids.length c, .map (some bm)]) := cr_at _ _ 0 _ rfl
theorem cr_ids : (pre ++ crewL gc bm A c ids ps l)[pre.length + 1]? = some (SL.row (Kd.int .i64) 3 (.slice A ids.length c) ids) := cr_at _ _ 1 _ rfl
theorem cr_map : (pre ++ crewL gc bm A c ids ps l)[pre.length + 2]? = some (SL.map KI bm (mapC ps)) := cr_at _ _ 2 _ rfl
theorem cr_part (i : Nat) (h : i < ps.length) : (pre ++ crewL gc bm A c ids ps l)[pre.length + (3 + (ps.length - 1 - i))]? = some (ps[i]).sl := by
  refine cr_at _ _ _ _ ?_
  unfold crewL
  rw [show 3 + (ps.length - 1 - i) = (ps.length - 1 - i) + 1 + 1 + 1 by omega]
  simp only [List.getElem?_cons_succ]
  exact partsL_get ps l i h
theorem cr_turn (i : Nat) (h : i < ps.length) (s : PS) : (pre ++ crewL gc bm A c ids ps l).set (pre.length + (3 + (ps.length - 1 - i))) (CP.sl ⟨(ps[i]).g, (ps[i]).p, s⟩) = pre ++ crewL gc bm A c ids (ps.set i ⟨(ps[i]).g, (ps[i]).p, s⟩) l := by
  rw [cr_set]
  congr 1
  unfold crewL
  rw [show 3 + (ps.length - 1 - i) = (ps.length - 1 - i) + 1 + 1 + 1 by omega]
  simp only [List.set_cons_succ]
  rw [partsL_set ps l i h, mapC_set ps i h]
theorem clone_ids (h : St l w0 w) (A : Option Addr) (n c : Nat) (xs : List Int) (hC : (Kd.int .i64).C w A n xs) (hn : n ≤ 1000000) :
    Calls Try.prog 107 #[.slice A n c] w fun e w' => ∃ A9 c9, e = .returned (.slice A9 xs.length c9) ∧ St (SL.row (Kd.int .i64) 3 (.slice A9 xs.length c9) xs :: l) w0 w' := by
  refine (clone107_calls A n c xs w hC (by omega)).mono ?_
  rintro e w1 ⟨v, rfl, hR, hB⟩
  have HSn := h.row hR hB
  obtain ⟨A', c', rfl, _⟩ := HSn.rowC 0 rfl
  exact ⟨A', c', rfl, HSn⟩
theorem ids_st (h : St (pre ++ crewL gc bm A c ids ps l) w0 w) (hn : ids.length ≤ 1000000) : Calls Try.prog 60 #[.pointer (some ⟨gc, 0, none⟩)] w fun e w' => ∃ A9 c9, e = .returned (.slice A9 ids.length c9) ∧ St (SL.row (Kd.int .i64) 3 (.slice A9 ids.length c9) ids :: (pre ++ crewL gc bm A c ids ps l)) w0 w' := by
  obtain ⟨q0, q1⟩ := h.c2 _ _ _ _ _ cr_gc
  obtain ⟨A', c', hv, _, hC⟩ := h.rowC _ cr_ids
  injection hv with v1 v2 v3
  rw [← v1] at hC
  clear v1 v2 v3
  have HS := Go.Lib.hid h
  have HC := Go.Lib.hid hC
  clear h hC
  go_enter Try.func60, Try.ntmps60
  go_wp2_with fail
  refine (clone_ids HS.out A ids.length c ids HC.out hn).mono ?_
  rintro e w1 ⟨A9, c9, rfl, hS⟩
  have HSn := Go.Lib.hid hS
  clear hS
  go_wp2_with fail
  go_ret
  exact ⟨A9, c9, rfl, HSn.out⟩
theorem getp_st (h : St (pre ++ crewL gc bm A c ids ps l) w0 w) (hnd : (idsC ps).Nodup) (i : Nat) (hi : i < ps.length) (id : Int) (hid : (ps[i]).p.f0 = id) (g : Nat) (hg : (ps[i]).g = g) (hwf : (Lit.int .i64 id).wf = true) :
    Calls Try.prog 61 #[.pointer (some ⟨gc, 0, none⟩), .int .i64 id] w fun e w' => e = .returned (.tuple #[.pointer (some ⟨g, 0, none⟩), .bool true]) ∧ w = w' := by
  have hl := look_at ps hnd i hi
  rw [hid, hg] at hl
  obtain ⟨q0, q1⟩ := h.c2 _ _ _ _ _ cr_gc
  have HS := Go.Lib.hid h
  have HL := Go.Lib.hid hl
  have HX : Hid (KI.ok id) := Go.Lib.hid hwf
  clear h hl hwf
  go_enter Try.func61, Try.ntmps61
  go_wp2_with (at_lookup; refine Sl.lookok_st HS.out _ cr_map 186 65 Try.underlying186 (zero65 _) id HX.out rfl (.tmp 12) (.tmp 13) rfl rfl rfl ?_; rw [HL.out]; simp only [Option.getD_some, Option.isSome_some])
  go_ret2
  exact ⟨rfl, rfl⟩
end
/-- Does an act speak of a partition, in a schedule? -/
def speaks (s id : Int) (a : S103) : Bool := a.f0 == s && a.f1 == id
def idxM (acs : List S103) (s id : Int) : Int := match acs.findIdx? (speaks s id) with | some j => (j : Int) | none => -1
/-- What acts say of a partition. -/
def forM (acs : List S103) (s id : Int) : Int := if idxM acs s id < 0 then 0 else (acs.getD (idxM acs s id).toNat z103).f2
theorem idx_some {acs : List S103} {s id : Int} {k : Nat} (hk : k < acs.length) (h : ∀ j : Nat, j < k → speaks s id (acs.getD j z103) = false) (h1 : speaks s id (acs.getD k z103) = true) : idxM acs s id = (k : Int) := by
  unfold idxM
  have e : acs.findIdx? (speaks s id) = some k := by
    rw [List.findIdx?_eq_some_iff_getElem]
    refine ⟨hk, ?_, fun j hj => ?_⟩
    · rwa [List.getD_eq_getElem?_getD, List.getElem?_eq_getElem hk] at h1
    · have := h j hj
      rw [List.getD_eq_getElem?_getD, List.getElem?_eq_getElem (by omega)] at this
      simpa using this
  rw [e]
theorem idx_none {acs : List S103} {s id : Int} (h : ∀ j : Nat, j < acs.length → speaks s id (acs.getD j z103) = false) : idxM acs s id = -1 := by
  unfold idxM
  have e : acs.findIdx? (speaks s id) = none := by
    rw [List.findIdx?_eq_none_iff]
    intro x hx
    obtain ⟨j, hj, rfl⟩ := List.getElem_of_mem hx
    have := h j hj
    rwa [List.getD_eq_getElem?_getD, List.getElem?_eq_getElem hj] at this
  rw [e]
theorem idx_cases (acs : List S103) (s id : Int) : idxM acs s id = -1 ∨ ∃ k : Nat, k < acs.length ∧ idxM acs s id = (k : Int) := by
  unfold idxM
  cases e : acs.findIdx? (speaks s id) with
  | none => exact .inl rfl
  | some k => exact .inr ⟨k, (List.findIdx?_eq_some_iff_getElem.1 e).1, rfl⟩
variable {l : List SL} {w0 w : World}
set_option maxHeartbeats 800000 in
theorem speaks_st (h : St l w0 w) (n4 n5 b4 b5 : Nat) (s id : Int) (e4 : l[n4]? = some (SL.blk b4 3 #[.int .i64 s])) (e5 : l[n5]? = some (SL.blk b5 3 #[.int .i64 id])) (a : S103) :
    Calls Try.prog 126 #[.agg #[.int .i64 a.f0, .int .i64 a.f1, .int .i64 a.f2], .pointer (some ⟨b4, 0, none⟩), .pointer (some ⟨b5, 0, none⟩)] w fun e w' => e = .returned (.bool (speaks s id a)) ∧ St l w0 w' := by
  have HS := Go.Lib.hid h
  have E4 := Go.Lib.hid e4
  have E5 := Go.Lib.hid e5
  clear h e4 e5
  unfold speaks
  cases hq : (a.f0 == s)
  · rw [Bool.false_and]
    go_enter Try.func126, Try.ntmps126
    have z4 := HS.out.c1 n4 _ _ _ E4.out
    have z5 := HS.out.c1 n5 _ _ _ E5.out
    go_wp2_with (first | ((with_reducible refine gate_dst (N := 3) rfl ?_); refine Sl.box_st HS.out (by rfl) (cs := #[.int .i64 a.f0, .int .i64 a.f1, .int .i64 a.f2]) (t := 103) ?hr ?_; (case hr => first | (go_simp; done) | (go_simp; rfl)); intro g3 w1_ HSn HBn; clear HBn; replace HS : Hid (St (SL.blk g3 103 #[.int .i64 a.f0, .int .i64 a.f1, .int .i64 a.f2] :: l) w0 w1_) := Go.Lib.hid HSn; clear HSn; clear z4 z5; have z4 := HS.out.c1 (n4 + 1) _ _ _ E4.out; have z5 := HS.out.c1 (n5 + 1) _ _ _ E5.out; obtain ⟨c0_0, c0_1, c0_2⟩ := HS.out.c3 0 _ _ _ _ _ rfl))
    go_ret
    exact ⟨rfl, HS.out.drop⟩
  · rw [Bool.true_and]
    go_enter Try.func126, Try.ntmps126
    have z4 := HS.out.c1 n4 _ _ _ E4.out
    have z5 := HS.out.c1 n5 _ _ _ E5.out
    go_wp2_with (first | ((with_reducible refine gate_dst (N := 3) rfl ?_); refine Sl.box_st HS.out (by rfl) (cs := #[.int .i64 a.f0, .int .i64 a.f1, .int .i64 a.f2]) (t := 103) ?hr ?_; (case hr => first | (go_simp; done) | (go_simp; rfl)); intro g3 w1_ HSn HBn; clear HBn; replace HS : Hid (St (SL.blk g3 103 #[.int .i64 a.f0, .int .i64 a.f1, .int .i64 a.f2] :: l) w0 w1_) := Go.Lib.hid HSn; clear HSn; clear z4 z5; have z4 := HS.out.c1 (n4 + 1) _ _ _ E4.out; have z5 := HS.out.c1 (n5 + 1) _ _ _ E5.out; obtain ⟨c0_0, c0_1, c0_2⟩ := HS.out.c3 0 _ _ _ _ _ rfl))
    go_ret
    exact ⟨rfl, HS.out.drop⟩
set_option maxHeartbeats 1600000 in
set_option maxRecDepth 100000 in
theorem index_st (h : St l w0 w) (AA : Option Addr) (ca : Nat) (acs : List S103) (hact : ∀ (lx : List SL) (w1 : World), St (lx ++ l) w0 w1 → k103.C w1 AA acs.length acs) (hlen : acs.length ≤ 1000000) (n4 n5 b4 b5 : Nat) (s id : Int) (e4 : l[n4]? = some (SL.blk b4 3 #[.int .i64 s])) (e5 : l[n5]? = some (SL.blk b5 3 #[.int .i64 id])) :
    Calls Try.prog 125 #[.slice AA acs.length ca, .func (.func 126) #[] #[.pointer (some ⟨b4, 0, none⟩), .pointer (some ⟨b5, 0, none⟩)]] w fun e w' => e = .returned (.int .i64 (idxM acs s id)) ∧ St l w0 w' := by
  have HS := Go.Lib.hid h
  have HA := Go.Lib.hid hact
  have E4 := Go.Lib.hid e4
  have E5 := Go.Lib.hid e5
  clear h hact e4 e5
  go_enter Try.func125, Try.ntmps125
  go_wp2_with fail
  go_loopw [8] (fun i wr => ∃ k : Nat, k ≤ acs.length ∧ i = .int .i64 k ∧ (∀ j : Nat, j < k → speaks s id (acs.getD j z103) = false) ∧ St l w0 wr) (fun i _ => acs.length - (intOf i).toNat)
  case atStart => exact ⟨0, Nat.zero_le _, rfl, fun j hj => absurd hj (Nat.not_lt_zero _), HS.out⟩
  case round =>
    clear HS
    obtain ⟨k, hk, rfl, hne, hS⟩ := hrel
    have HS := Go.Lib.hid hS
    have HNE := Go.Lib.hid hne
    clear hS hne
    by_cases hlt : k < acs.length
    · obtain ⟨ad, rfl, g0, g1, g2⟩ := at_T103 (HA.out [] wr HS.out) (k : Int) (by omega) (by omega)
      have hx : rd_T103 acs (k : Int) = acs.getD k z103 := by unfold rd_T103; rw [Int.toNat_natCast]
      rw [hx, Int.toNat_natCast] at g0 g1 g2
      clear hx
      have HNX : Hid (speaks s id (acs.getD k z103) = false → ∀ j : Nat, j < k + 1 → speaks s id (acs.getD j z103) = false) := Go.Lib.hid (fun h1 j hj => by rcases Nat.lt_or_ge j k with q | q; exact HNE.out j q; obtain rfl : j = k := (by omega); exact h1)
      have HSM : Hid (speaks s id (acs.getD k z103) = true → idxM acs s id = (k : Int)) := Go.Lib.hid (idx_some hlt HNE.out)
      generalize acs.getD k z103 = a at *
      cases hb : speaks s id a
      · have HB := Go.Lib.hid hb
        have HN2 := Go.Lib.hid (HNX.out hb)
        clear hb
        go_wp2_with (go_at_call 126; refine (speaks_st HS.out n4 n5 b4 b5 s id E4.out E5.out a).mono ?_; rintro e w9 ⟨rfl, hS⟩; rw [HB.out]; replace HS := Go.Lib.hid hS; clear hS)
        go_roundw
        case rel => exact ⟨k + 1, hlt, by go_num, HN2.out, HS.out⟩
        case measure => simp [intOf]; omega
      · have HB := Go.Lib.hid hb
        have HN2 := Go.Lib.hid (HSM.out hb)
        clear hb
        go_wp2_with (go_at_call 126; refine (speaks_st HS.out n4 n5 b4 b5 s id E4.out E5.out a).mono ?_; rintro e w9 ⟨rfl, hS⟩; rw [HB.out]; replace HS := Go.Lib.hid hS; clear hS)
        go_ret
        exact ⟨by rw [HN2.out]; rfl, HS.out⟩
    · obtain rfl : k = acs.length := by omega
      go_wp2_with fail
      go_ret
      exact ⟨by rw [idx_none HNE.out]; rfl, HS.out⟩
set_option maxHeartbeats 1600000 in
set_option maxRecDepth 100000 in
theorem for_st (h : St l w0 w) (AA : Option Addr) (ca : Nat) (acs : List S103) (hact : ∀ (lx : List SL) (w1 : World), St (lx ++ l) w0 w1 → k103.C w1 AA acs.length acs) (hlen : acs.length ≤ 1000000) (s id : Int) :
    Calls Try.prog 111 #[.slice AA acs.length ca, .int .i64 s, .int .i64 id] w fun e w' => e = .returned (.int .i64 (forM acs s id)) ∧ St l w0 w' := by
  have HS := Go.Lib.hid h
  have HA := Go.Lib.hid hact
  clear h hact
  go_enter Try.func111, Try.ntmps111
  go_wp2_with (first | ((with_reducible refine gate_dst (N := 4) rfl ?_); refine Sl.box_st HS.out (by rfl) (cs := #[.int .i64 s]) (t := 3) ?hr ?_; (case hr => first | (go_simp; done) | (go_simp; rfl)); intro b4 w1_ HSn HBn; clear HBn; replace HS : Hid (St (SL.blk b4 3 #[.int .i64 s] :: l) w0 w1_) := Go.Lib.hid HSn; clear HSn; obtain c0_0 := HS.out.c1 0 _ _ _ rfl) | ((with_reducible refine gate_dst (N := 5) rfl ?_); refine Sl.box_st HS.out (by rfl) (cs := #[.int .i64 id]) (t := 3) ?hr ?_; (case hr => first | (go_simp; done) | (go_simp; rfl)); intro b5 w2_ HSn HBn; clear HBn; replace HS : Hid (St (SL.blk b5 3 #[.int .i64 id] :: SL.blk b4 3 #[.int .i64 s] :: l) w0 w2_) := Go.Lib.hid HSn; clear HSn; clear c0_0; obtain c0_0 := HS.out.c1 0 _ _ _ rfl; obtain c1_0 := HS.out.c1 1 _ _ _ rfl))
  clear c0_0 c1_0
  refine (index_st HS.out AA ca acs (fun lx w1 h1 => HA.out (lx ++ [_, _]) w1 (by simpa using h1)) hlen 1 0 b4 b5 s id rfl rfl).mono ?_
  rintro e w9 ⟨rfl, hS⟩
  replace HS := Go.Lib.hid hS
  clear hS
  rcases idx_cases acs s id with hx | ⟨k, hk, hx⟩
  · rw [hx]
    have HX := Go.Lib.hid hx
    clear hx
    go_wp2_with fail
    go_ret
    exact ⟨by unfold forM; rw [HX.out, if_pos (by decide)]; rfl, HS.out.drop.drop⟩
  · rw [hx]
    have HX := Go.Lib.hid hx
    obtain ⟨ad, rfl, g0, g1, g2⟩ := at_T103 (HA.out [_, _] w9 HS.out) (k : Int) (by omega) (by omega)
    have hx2 : rd_T103 acs (k : Int) = acs.getD k z103 := by unfold rd_T103; rw [Int.toNat_natCast]
    rw [hx2, Int.toNat_natCast] at g0 g1 g2
    clear hx2 hx
    obtain ⟨a, ha⟩ : ∃ a, a = acs.getD k z103 := ⟨_, rfl⟩
    rw [← ha] at g0 g1 g2
    have HAE := Go.Lib.hid ha
    clear ha
    go_wp2_with fail
    go_ret
    exact ⟨by unfold forM; rw [HX.out, if_neg (by omega), Int.toNat_natCast, ← HAE.out]; rfl, HS.out.drop.drop⟩
end Go.Proofs.Ytkmhgolohppliaa.Crw
