/- The shots of a crew. -/
import Derived.Test.YtkmhgolohppliaaCrwE
namespace Go.Proofs.Ytkmhgolohppliaa.Crw
open Go.RowKit Go.Proofs.Ytkmhgolohppliaa.PCellsPlays Go.Proofs.YtkmhgolohppliaaW.PrintWords Go.Proofs.YtkmhgolohppliaaW.PrintLast Go.Proofs.YtkmhgolohppliaaW.PrintMore Go.Proofs.Ytkmhgolohppliaa.Mine Go.Proofs.Ytkmhgolohppliaa.Cel Go.Proofs.Ytkmhgolohppliaa.Cls
open Go.Proofs.Ytkmhgolohppliaa.Prt (PS new_hd setMode_at act_at write_at shot_at id_st)
open Go.Proofs.Ytkmhgolohppliaa.Sl (SL Stp Chg St No wpc_seal wpc_round sealed MK look)
open Go.Proofs.YtkmhgolohppliaaW.PrintWords (results_list Vals)
set_option linter.unusedVariables false
set_option linter.unusedSimpArgs false
attribute [local go_sem] max2_int min2_int max_two min_two max_three min_three max_four min_four
/-- A shot, its cells' row told by where it lies. -/
structure SH where
  id : Int
  mode : Int
  starts : Int
  cause : Int
  A : Option Addr
  c : Nat
  now : List Int
def zSH : SH := ⟨0, 0, 0, 0, none, 0, []⟩
abbrev kSl : Kd (Option Addr × Nat × Nat) := Kd.scalar (fun q : Option Addr × Nat × Nat => Value.slice q.1 q.2.1 q.2.2) (fun _ => rfl)
def kh81 : Kd SH := Kd.iso (Kd.pair (Kd.int .i64) (Kd.pair (Kd.int .i64) (Kd.pair (Kd.int .i64) (Kd.pair (Kd.int .i64) kSl)))) (fun x : SH => (x.id, x.mode, x.starts, x.cause, (x.A, x.now.length, x.c)))
theorem kh81_open {w : World} {x : SH} {cs : List Value} (h : kh81.K w x cs) : cs = [.int .i64 x.id, .int .i64 x.mode, .int .i64 x.starts, .int .i64 x.cause, .slice x.A x.now.length x.c] := by
  obtain ⟨_, _, rfl, rfl, ⟨_, _, rfl, rfl, ⟨_, _, rfl, rfl, ⟨_, _, rfl, rfl, rfl⟩⟩⟩⟩ := h
  exact rfl
theorem k81_mk (w : World) (x : SH) : kh81.K w x [.int .i64 x.id, .int .i64 x.mode, .int .i64 x.starts, .int .i64 x.cause, .slice x.A x.now.length x.c] :=
  ⟨[.int .i64 x.id], [.int .i64 x.mode, .int .i64 x.starts, .int .i64 x.cause, .slice x.A x.now.length x.c], rfl, rfl, ⟨[.int .i64 x.mode], [.int .i64 x.starts, .int .i64 x.cause, .slice x.A x.now.length x.c], rfl, rfl, ⟨[.int .i64 x.starts], [.int .i64 x.cause, .slice x.A x.now.length x.c], rfl, rfl, ⟨[.int .i64 x.cause], [.slice x.A x.now.length x.c], rfl, rfl, rfl⟩⟩⟩⟩
theorem at_sh {w : World} {A : Option Addr} {n : Nat} {xs : List SH} (h : Kd.C kh81 w A n xs) (k : Nat) (h1 : k < n) : ∃ ad, A = some ad ∧ w.cell? (ad.add (k * 5)) = some (.int .i64 (xs.getD k zSH).id) ∧ w.cell? ⟨(ad.add (k * 5)).block, (ad.add (k * 5)).off + 1, none⟩ = some (.int .i64 (xs.getD k zSH).mode) ∧
    w.cell? ⟨(ad.add (k * 5)).block, (ad.add (k * 5)).off + 2, none⟩ = some (.int .i64 (xs.getD k zSH).starts) ∧ w.cell? ⟨(ad.add (k * 5)).block, (ad.add (k * 5)).off + 3, none⟩ = some (.int .i64 (xs.getD k zSH).cause) ∧
    w.cell? ⟨(ad.add (k * 5)).block, (ad.add (k * 5)).off + 4, none⟩ = some (.slice (xs.getD k zSH).A (xs.getD k zSH).now.length (xs.getD k zSH).c) := by
  obtain ⟨ad, c, e, _, hK, hc0⟩ := Kd.C_get h zSH (k : Int) (by omega) (by omega)
  rw [Int.toNat_natCast] at hK hc0
  have hc : ∀ j u, c[j]? = some u → w.cell? (ad.add (k * 5 + j)) = some u := hc0
  obtain rfl := kh81_open hK
  exact ⟨ad, e, hc 0 _ rfl, by rw [← add_field _ _ 1 (by omega)]; exact hc 1 _ rfl, by rw [← add_field _ _ 2 (by omega)]; exact hc 2 _ rfl, by rw [← add_field _ _ 3 (by omega)]; exact hc 3 _ rfl, by rw [← add_field _ _ 4 (by omega)]; exact hc 4 _ rfl⟩
def SH.row (x : SH) : SL := SL.row (Kd.int .u32) 39 (.slice x.A x.now.length x.c) x.now
def SH.sem (x : SH) : Int × Int × Int × Int × List Int := (x.id, x.mode, x.starts, x.cause, x.now)
def CP.sem (x : CP) : Int × Int × Int × Int × List Int := (x.p.f0, x.s.mode, x.s.starts, x.s.cause, x.s.now)
def rowsL (hs : List SH) : List SL := (hs.map SH.row).reverse
theorem rowsL_snoc (hs : List SH) (x : SH) (l : List SL) : rowsL (hs ++ [x]) ++ l = x.row :: (rowsL hs ++ l) := by simp [rowsL]
theorem set_of_get {α : Type} {l : List α} {n : Nat} {x : α} (e : l[n]? = some x) : l.set n x = l := by
  obtain ⟨h, rfl⟩ := List.getElem?_eq_some_iff.1 e
  exact List.set_getElem_self h
variable {l pre : List SL} {w0 w : World} {gc bm : Nat} {A : Option Addr} {c : Nat} {ids : List Int} {ps : List CP}
set_option maxHeartbeats 3200000 in
set_option maxRecDepth 100000 in
theorem shots_st (h : St (pre ++ crewL gc bm A c ids ps l) w0 w) (hid : ids = idsC ps) (hnd : (idsC ps).Nodup) (hfi : ∀ x ∈ ps, Fine x) (hwf : ∀ x ∈ ps, (Lit.int .i64 x.p.f0).wf = true) (hn : ps.length ≤ 1000) :
    Calls Try.prog 108 #[.pointer (some ⟨gc, 0, none⟩), .func (.func 47) #[] #[]] w fun e w' => ∃ A9 c9 hs, e = .returned (.slice A9 hs.length c9) ∧ hs.map SH.sem = ps.map CP.sem ∧ St (SL.row kh81 81 (.slice A9 hs.length c9) hs :: (rowsL hs ++ (pre ++ crewL gc bm A c ids ps l))) w0 w' := by
  have HS := Go.Lib.hid h
  have HID := Go.Lib.hid hid
  have HND := Go.Lib.hid hnd
  have HFI := Go.Lib.hid hfi
  have HWF := Go.Lib.hid hwf
  have hil : ids.length = ps.length := by rw [hid]; unfold idsC; rw [List.length_map]
  have HIL := Go.Lib.hid hil
  have hil2 : ids.length ≤ 1000 := by omega
  obtain ⟨q0, q1⟩ := h.c2 _ _ _ _ _ cr_gc
  clear h hid hnd hfi hwf hil
  go_enter Try.func108, Try.ntmps108
  go_wp2_with fail
  clear q0 q1
  replace HS : Hid (St (SL.row kh81 81 (.slice none ([] : List SH).length 0) [] :: (rowsL [] ++ (pre ++ crewL gc bm A c ids ps l))) w0 w) := Go.Lib.hid (HS.out.nilrow kh81 81)
  go_loopw [5, 13] (fun a i wr => ∃ (k : Nat) (hs : List SH) (A9 : Option Addr) (c9 : Nat), k ≤ ps.length ∧ a = .slice A9 hs.length c9 ∧ i = .int .i64 k ∧ hs.map SH.sem = (ps.take k).map CP.sem ∧ St (SL.row kh81 81 (.slice A9 hs.length c9) hs :: (rowsL hs ++ (pre ++ crewL gc bm A c ids ps l))) w0 wr) (fun _ i _ => ps.length - (intOf i).toNat)
  case atStart => exact ⟨0, [], none, 0, Nat.zero_le _, rfl, rfl, rfl, HS.out⟩
  case round =>
    clear HS
    obtain ⟨k, hs, A9, c9, hk, rfl, rfl, hds, hS⟩ := hrel
    have HS : Hid (St ((SL.row kh81 81 (.slice A9 hs.length c9) hs :: (rowsL hs ++ pre)) ++ crewL gc bm A c ids ps l) w0 wr) := Go.Lib.hid (by rw [List.cons_append, List.append_assoc]; exact hS)
    have HDS := Go.Lib.hid hds
    have hdl : hs.length ≤ 1000 := by rw [← List.length_map (f := SH.sem), hds, List.length_map, List.length_take]; omega
    clear hS hds
    have hik : ids.length = ps.length := HIL.out
    by_cases hlt : k < ps.length
    · obtain ⟨q0, q1⟩ := HS.out.c2 _ _ _ _ _ cr_gc
      obtain ⟨A', c', hv, _, hC⟩ := HS.out.rowC _ cr_ids
      injection hv with v1 v2 v3
      rw [← v1] at hC
      clear v1 v2 v3
      obtain ⟨ai, rfl, g0⟩ := Kd.at_int hC (k : Int) (by omega) (by omega)
      rw [Int.toNat_natCast] at g0
      obtain ⟨x, hx⟩ : ∃ x, ps[k] = x := ⟨_, rfl⟩
      have hxm : x ∈ ps := by rw [← hx]; exact List.getElem_mem hlt
      have hrd : rd ids (k : Int) = x.p.f0 := by
        unfold rd; rw [Int.toNat_natCast, HID.out, List.getD_eq_getElem?_getD]
        unfold idsC
        rw [List.getElem?_map, List.getElem?_eq_getElem hlt, hx]; rfl
      rw [hrd] at g0
      have hlk : Sl.look (mapC ps) x.p.f0 = some (.pointer (some ⟨x.g, 0, none⟩)) := by rw [← hx]; exact look_at ps HND.out k hlt
      have HL := Go.Lib.hid hlk
      have HX : Hid (KI.ok x.p.f0) := Go.Lib.hid (HWF.out x hxm)
      have hfx := HFI.out x hxm
      have hnl : x.s.now.length ≤ 1000 := by rw [hfx.len]; exact hfx.n
      have HDN : Hid ((ps.take (k + 1)).map CP.sem = (ps.take k).map CP.sem ++ [x.sem]) := Go.Lib.hid (by rw [List.take_succ_eq_append_getElem hlt, hx, List.map_append]; rfl)
      have HEP : Hid (∀ pre2 : List SL, (pre2 ++ crewL gc bm (some ai) c ids ps l)[pre2.length + (3 + (ps.length - 1 - k))]? = some (Prt.part x.g x.p.f0 x.p.f1 x.p.f2 x.p.f3 x.s)) := Go.Lib.hid (fun pre2 => by rw [← hx]; exact cr_part k hlt)
      have hki : k < ids.length := by omega
      clear hC hrd hlk hx hxm hik hfx
      go_wp2_with (first | (at_lookup; refine Sl.lookup_st HS.out _ cr_map 186 65 Try.underlying186 (zero65 _) x.p.f0 HX.out rfl (.tmp 22) (.tmp 23) rfl rfl rfl ?_; rw [HL.out]; simp only [Option.getD_some]) | (go_at_call 47; refine (shot_at HS.out _ (HEP.out _) (by omega)).mono ?_; rintro e w40_ ⟨A17, c17, rfl, hS⟩; rw [set_of_get (HEP.out _)] at hS; replace HS : Hid (St (SL.row (Kd.int .u32) 39 (.slice A17 x.s.now.length c17) x.s.now :: SL.row kh81 81 (.slice A9 hs.length c9) hs :: (rowsL hs ++ (pre ++ crewL gc bm (some ai) c ids ps l))) w0 w40_) := Go.Lib.hid (by rw [List.cons_append, List.append_assoc] at hS; exact hS); clear hS q0 q1 g0) | ((with_reducible refine gate_dst (N := 27) rfl ?_); refine Sl.append_st (kh81) ((flat_iso (flat_pair (flat_int .i64) (flat_pair (flat_int .i64) (flat_pair (flat_int .i64) (flat_pair (flat_int .i64) flat_scalar)))))) HS.out 1 (.slice A9 hs.length c9) (hs) 81 rfl (by rfl) (.tmp 17) (.tmp 26) 88 (.agg #[.int .i64 0, .int .i64 0, .int .i64 0, .int .i64 0, .slice none 0 0]) 56 rfl Try.underlying88 (by kernel_rfl) rfl (by decide) (by decide) ((⟨x.p.f0, x.s.mode, x.s.starts, x.s.cause, A17, c17, x.s.now⟩ : SH)) [.int .i64 x.p.f0, .int .i64 x.s.mode, .int .i64 x.s.starts, .int .i64 x.s.cause, .slice A17 x.s.now.length c17] rfl rfl ?hp ?hb ?_; (case hp => first | rfl | exact k81_mk _ _); (case hb => omega); intro v1_ w51_ HSn; obtain ⟨A19_, c19_, hv2_, _⟩ := HSn.rowC 1 rfl; subst hv2_; replace HS : Hid (St (SL.row (Kd.int .u32) 39 (.slice A17 x.s.now.length c17) x.s.now :: SL.row (kh81) 81 (.slice A19_ (hs ++ [(⟨x.p.f0, x.s.mode, x.s.starts, x.s.cause, A17, c17, x.s.now⟩ : SH)]).length c19_) (hs ++ [(⟨x.p.f0, x.s.mode, x.s.starts, x.s.cause, A17, c17, x.s.now⟩ : SH)]) :: (rowsL hs ++ (pre ++ crewL gc bm (some ai) c ids ps l))) w0 w51_) := Go.Lib.hid HSn; clear HSn))
      have HS2 : Hid (St (SL.row kh81 81 (.slice A19_ (hs ++ [(⟨x.p.f0, x.s.mode, x.s.starts, x.s.cause, A17, c17, x.s.now⟩ : SH)]).length c19_) (hs ++ [(⟨x.p.f0, x.s.mode, x.s.starts, x.s.cause, A17, c17, x.s.now⟩ : SH)]) :: (rowsL (hs ++ [(⟨x.p.f0, x.s.mode, x.s.starts, x.s.cause, A17, c17, x.s.now⟩ : SH)]) ++ (pre ++ crewL gc bm (some ai) c ids ps l))) w0 w51_) := Go.Lib.hid (by
        have h9 := HS.out.swap
        rw [rowsL_snoc]
        exact h9)
      go_roundw
      case rel => exact ⟨k + 1, hs ++ [(⟨x.p.f0, x.s.mode, x.s.starts, x.s.cause, A17, c17, x.s.now⟩ : SH)], A19_, c19_, hlt, by simp, by go_num, by rw [List.map_append, HDN.out, HDS.out]; rfl, HS2.out⟩
      case measure => simp [intOf]; omega
    · obtain rfl : k = ps.length := by omega
      have hnl : ¬ ps.length < ids.length := by omega
      clear hik
      go_wp2_with fail
      go_ret
      exact ⟨A9, c9, hs, rfl, by rw [HDS.out, List.take_length], by have h9 := HS.out; rw [List.cons_append, List.append_assoc] at h9; exact h9⟩
theorem crewShots_st (h : St (pre ++ crewL gc bm A c ids ps l) w0 w) (hid : ids = idsC ps) (hnd : (idsC ps).Nodup) (hfi : ∀ x ∈ ps, Fine x) (hwf : ∀ x ∈ ps, (Lit.int .i64 x.p.f0).wf = true) (hn : ps.length ≤ 1000) :
    Calls Try.prog 62 #[.pointer (some ⟨gc, 0, none⟩)] w fun e w' => ∃ A9 c9 hs, e = .returned (.slice A9 hs.length c9) ∧ hs.map SH.sem = ps.map CP.sem ∧ St (SL.row kh81 81 (.slice A9 hs.length c9) hs :: (rowsL hs ++ (pre ++ crewL gc bm A c ids ps l))) w0 w' := by
  have HS := Go.Lib.hid h
  clear h
  go_enter Try.func62, Try.ntmps62
  go_wp2_with fail
  refine (shots_st HS.out hid hnd hfi hwf hn).mono ?_
  rintro e w9 ⟨A9, c9, hs, rfl, hds, hS⟩
  have HSn := Go.Lib.hid hS
  have HD := Go.Lib.hid hds
  clear hS hds
  go_wp2_with fail
  go_ret
  exact ⟨A9, c9, hs, rfl, HD.out, HSn.out⟩
end Go.Proofs.Ytkmhgolohppliaa.Crw
