/- frame.New. -/
import Derived.Test.YtnpjbdaaoknkbaaYFrmH
namespace Go.Proofs.Ytnpjbdaaoknkbaa.Frm
open Go.RowKit Go.Proofs.YtnpjbdaaoknkbaaW.PrintWords Go.Proofs.YtnpjbdaaoknkbaaW.PrintLast Go.Proofs.YtnpjbdaaoknkbaaW.PrintMore Go.Proofs.Ytnpjbdaaoknkbaa.Mine Go.Proofs.Ytnpjbdaaoknkbaa.PTableFrames
open Go.Proofs.Ytnpjbdaaoknkbaa.Sl (SL Stp Chg St No wpc_seal wpc_round sealed MK look)
open Go.Proofs.Ytnpjbdaaoknkbaa.Tab (InT In InA Runs cur_tick cur_owner step_st nextT nextJ rd_mem cursor_st allR allR_is ownW OkW mkR_len grw_len at_run Small SchedIn BadW NewPost new_st WinIn)
set_option linter.unusedVariables false
set_option linter.unusedSimpArgs false
attribute [local go_sem] max2_int min2_int max_two min_two max_three min_three max_four min_four
theorem snoc_ind {α : Type} {p : List α → Prop} (h0 : p []) (h1 : ∀ (l : List α) (x : α), p l → p (l ++ [x])) (l : List α) : p l := by
 have h : ∀ r : List α, p r.reverse := by
  intro r
  induction r with
  | nil => exact h0
  | cons x r ih => rw [List.reverse_cons]; exact h1 _ _ ih
 have := h l.reverse
 rwa [List.reverse_reverse] at this
/-- The engine's map: ids to tables, the newest ahead. -/
def mapOf (ts : List Tb) : List (Int × Value) := (ts.map fun x => (x.id, Value.pointer (some ⟨x.g, 0, none⟩))).reverse
theorem mapOf_snoc (ts : List Tb) (x : Tb) : mapOf (ts ++ [x]) = (x.id, .pointer (some ⟨x.g, 0, none⟩)) :: mapOf ts := by simp [mapOf]
theorem mapOf_len (ts : List Tb) : (mapOf ts).length = ts.length := by simp [mapOf]
theorem look_none : ∀ (ts : List Tb) (id : Int), id ∉ ts.map Tb.id → Sl.look (mapOf ts) id = none := by
 refine snoc_ind ?_ ?_
 ·intro id _; rfl
 ·intro ts x ih
  intro id h
  rw [mapOf_snoc]
  rw [List.map_append, List.mem_append] at h
  have h1 : x.id ≠ id := fun e => h (.inr (by simp [e]))
  rw [Sl.look_other _ _ h1]
  exact ih id (fun h2 => h (.inl h2))
theorem look_some : ∀ (ts : List Tb) (id : Int), id ∈ ts.map Tb.id → ∃ v, Sl.look (mapOf ts) id = some v := by
 refine snoc_ind ?_ ?_
 ·intro id h; cases h
 ·intro ts x ih
  intro id h
  rw [mapOf_snoc]
  by_cases e : x.id = id
  ·rw [e, Sl.look_same]; exact ⟨_, rfl⟩
  ·rw [Sl.look_other _ _ e]
   rw [List.map_append, List.mem_append] at h
   rcases h with h | h
   ·exact ih id h
   ·exact absurd (by rw [List.map_singleton, List.mem_singleton] at h; exact h.symm) e
theorem find_snoc (ts : List Tb) (x : Tb) (id : Int) : findT (ts ++ [x]) id = (findT ts id).or (if x.id = id then some x else none) := by
 unfold findT
 rw [List.find?_append, List.find?_cons]
 by_cases e : x.id = id
 ·rw [if_pos e]; simp [e]
 ·rw [if_neg e]
  have e2 : (x.id == id) = false := by simpa using e
  rw [e2]; rfl
theorem find_none {ts : List Tb} {id : Int} (h : id ∉ ts.map Tb.id) : findT ts id = none := by
 unfold findT
 rw [List.find?_eq_none]
 intro x hx he
 exact h (List.mem_map.2 ⟨x, hx, by simpa using he⟩)
theorem find_in {ts : List Tb} {id : Int} (h : id ∈ ts.map Tb.id) : ∃ y, findT ts id = some y := by
 cases c : findT ts id with
 | some y => exact ⟨y, rfl⟩
 | none =>
  obtain ⟨x, hx, rfl⟩ := List.mem_map.1 h
  unfold findT at c
  rw [List.find?_eq_none] at c
  exact absurd (by simp) (c x hx)
theorem maps_of : ∀ (ts : List Tb), (ts.map Tb.id).Nodup → Maps ts (mapOf ts) := by
 refine snoc_ind ?_ ?_
 ·intro _ id; rfl
 ·intro ts x ih
  intro h id
  rw [List.map_append, List.nodup_append] at h
  obtain ⟨h1, _, h2⟩ := h
  have h3 : x.id ∉ ts.map Tb.id := fun hm => h2 _ hm x.id (by simp) rfl
  rw [mapOf_snoc, find_snoc]
  by_cases e : x.id = id
  ·subst e
   rw [Sl.look_same, if_pos rfl, find_none h3]; rfl
  ·rw [Sl.look_other _ _ e, if_neg e, ih h1 id, Option.or_none]
theorem uniq_of : ∀ (ts : List Tb), (ts.map Tb.id).Nodup → Uniq ts := by
 refine snoc_ind ?_ ?_
 ·intro _ x hx; cases hx
 ·intro ts y ih
  intro h x hx
  rw [List.map_append, List.nodup_append] at h
  obtain ⟨h1, _, h2⟩ := h
  have h3 : y.id ∉ ts.map Tb.id := fun hm => h2 _ hm y.id (by simp) rfl
  rw [find_snoc]
  rcases List.mem_append.1 hx with hx | hx
  ·rw [ih h1 x hx]; rfl
  ·obtain rfl := List.mem_singleton.1 hx
   rw [find_none h3, if_pos rfl]; rfl
section
variable {P : Program} {ops : Array Oper} {rest : List Oper} {o : Oper} {act : Act} {Q : Exit → Act → World → Prop} {Kc : Act → World → Prop} {l : List SL} {w0 W : World} {κ : Type} [DecidableEq κ] {k : TypeId}
/-- m[k], and whether it is there, in a region that draws -/
theorem lookok_stp {K : MK P k κ} {b : Nat} {m : List (κ × Value)} (HS : St l w0 W) (n : Nat) (e : l[n]? = some (SL.map K b m)) (t et : TypeId) (ht : P.underlying t = some (.map k et)) {z : Value} (hz : (zeroValue et).run P W = .ok z W) (a : κ) (ha : K.ok a)
  (hw : Region.wanted o (yielded ops act.tmps) = true) (x y : Operand) (ho : o.op = .lookup t x y true) (hx : act.eval x = .map (some b)) (hy : act.eval y = K.enc a)
  (h : Kc (act.put o.dst (.tuple #[(Sl.look m a).getD z, .bool (Sl.look m a).isSome])) W) : if Region.wanted o (yielded ops act.tmps) = true then Oper.wp P o act W Kc Q else Kc (act.put o.dst undef) W := by
 refine event_step hw (w1 := W) ?_ h
 simp [execOp, ho, hx, hy, (HS.look n e ht hz a ha).2, Result.andThen]
end
def EngPost (l : List SL) (w0 : World) (ts : List Tb) (first epoch : Int) (e : Ending) (w' : World) : Prop :=
 (∃ (ge gk bm : Nat) (y : Tb), (ts.map Tb.id).Nodup ∧ findT ts first = some y ∧ e = .returned (.tuple #[.pointer (some ⟨ge, 0, none⟩), .int .i64 0]) ∧ EngSt l ge gk bm (mapOf ts) ⟨y, first, 0, epoch, 0⟩ w0 w') ∨
 (¬ (ts.map Tb.id).Nodup ∧ e = .returned (.tuple #[.pointer none, .int .i64 9]) ∧ St l w0 w') ∨
 ((ts.map Tb.id).Nodup ∧ findT ts first = none ∧ e = .returned (.tuple #[.pointer none, .int .i64 10]) ∧ St l w0 w')
theorem take_nodup {ts : List Tb} (h : (ts.map Tb.id).Nodup) (k : Nat) : ((ts.take k).map Tb.id).Nodup := by
 rw [List.map_take]; exact h.sublist (List.take_sublist _ _)
theorem nodup_next {ts : List Tb} {k : Nat} (hk : k < ts.length) (h : ((ts.take k).map Tb.id).Nodup) (hn : ts[k].id ∉ (ts.take k).map Tb.id) : ((ts.take (k + 1)).map Tb.id).Nodup := by
 rw [List.take_succ_eq_append_getElem hk, List.map_append, List.nodup_append]
 refine ⟨h, by simp, ?_⟩
 intro a ha b hb e
 subst e
 rw [List.map_singleton, List.mem_singleton] at hb
 exact hn (hb ▸ ha)
set_option maxHeartbeats 6400000 in
set_option maxRecDepth 100000 in
theorem eng_new {l : List SL} {w0 w : World} (A : Option Addr) (c : Nat) (ts : List Tb) (gs : List Nat) (n : Nat) (e : l[n]? = some (SL.row KP 31 (.slice A gs.length c) gs)) (h : St l w0 w) (hg : gs = ts.map Tb.g) (hT : Tabs l ts) (hl : ts.length ≤ 100000)
  (first epoch : Int) (hwf : (Lit.int .i64 first).wf = true) : Calls Try.prog 22 #[.slice A gs.length c, .int .i64 first, .int .u64 epoch] w (EngPost l w0 ts first epoch) := by
 have HS := Go.Lib.hid h
 have HE := Go.Lib.hid e
 have HG := Go.Lib.hid hg
 have HT := Go.Lib.hid hT
 have HWF : Hid (KI.ok first) := Go.Lib.hid hwf
 have hgl : gs.length = ts.length := by rw [hg, List.length_map]
 have HGL := Go.Lib.hid hgl
 have hgl2 : gs.length ≤ 100000 := by omega
 clear h e hg hT hwf hgl
 go_enter Try.func22, Try.ntmps22
 go_wp2_with (first | ((with_reducible refine gate_dst (N := 15) rfl ?_); refine Sl.map_st KI HS.out (by rfl) ?hr ?_; (case hr => first | (go_simp; done) | (go_simp; rfl)); intro bm w1_ HSn HBn; clear HBn; replace HS : Hid (St (SL.map KI bm (mapOf []) :: l) w0 w1_) := Go.Lib.hid HSn; clear HSn) | (go_at_call 66; refine (clk_new HS.out epoch).mono ?_; rintro e w2_ ⟨gk, rfl, HSn⟩; replace HS : Hid (St (SL.blk gk 132 #[.int .u64 epoch] :: SL.map KI bm (mapOf []) :: l) w0 w2_) := Go.Lib.hid HSn; clear HSn; obtain c0_0 := HS.out.c1 0 _ _ _ rfl) | ((with_reducible refine gate_dst (N := 20) rfl ?_); refine Sl.box_st HS.out (by rfl) (cs := #[.map (some bm), .pointer none, .int .i64 first, .pointer (some ⟨gk, 0, none⟩), .int .u64 0]) (t := 108) ?hr ?_; (case hr => first | (go_simp; done) | (go_simp; rfl)); intro ge w3_ HSn HBn; clear HBn; replace HS : Hid (St (SL.blk ge 108 #[.map (some bm), .pointer none, .int .i64 first, .pointer (some ⟨gk, 0, none⟩), .int .u64 0] :: SL.blk gk 132 #[.int .u64 epoch] :: SL.map KI bm (mapOf []) :: l) w0 w3_) := Go.Lib.hid HSn; clear HSn; clear c0_0; obtain ⟨c0_0, c0_1, c0_2, c0_3, c0_4⟩ := HS.out.c5 0 _ _ _ _ _ _ _ rfl; obtain c1_0 := HS.out.c1 1 _ _ _ rfl) | (go_at_call 67; obtain ⟨A_, c_, hv_, _, hC_⟩ := HS.out.rowC (n + 3) HE.out; injection hv_ with q1_ _ _; rw [← q1_] at hC_; refine (contains_nil A c gs _ hC_).mono ?_; rintro e w' ⟨rfl, rfl⟩; clear hC_ q1_))
 clear c0_0 c0_1 c0_2 c0_3 c0_4 c1_0
 go_loopw [25] (fun i wr => ∃ k : Nat, k ≤ ts.length ∧ i = .int .i64 k ∧ ((ts.take k).map Tb.id).Nodup ∧ St (SL.blk ge 108 #[.map (some bm), .pointer none, .int .i64 first, .pointer (some ⟨gk, 0, none⟩), .int .u64 0] :: SL.blk gk 132 #[.int .u64 epoch] :: SL.map KI bm (mapOf (ts.take k)) :: l) w0 wr) (fun i _ => ts.length - (intOf i).toNat)
 case atStart => exact ⟨0, Nat.zero_le _, rfl, by simp, HS.out⟩
 case round =>
  clear HS
  obtain ⟨k, hk, rfl, hnd, hS⟩ := hrel
  have HS := Go.Lib.hid hS
  have HND := Go.Lib.hid hnd
  clear hS hnd
  by_cases hlt : k < ts.length
  ·obtain ⟨A_, c_, hv_, _, hC_⟩ := HS.out.rowC (n + 3) HE.out
   injection hv_ with q1_ _ _
   rw [← q1_] at hC_
   clear q1_
   have hkg : k < gs.length := by rw [HGL.out]; exact hlt
   obtain ⟨ad, rfl, g0⟩ := at_ptr hC_ k hkg
   clear hC_
   have hx : gs.getD k 0 = ts[k].g := by rw [HG.out, List.getD_eq_getElem?_getD, List.getElem?_map, List.getElem?_eq_getElem hlt]; rfl
   rw [hx] at g0
   clear hx
   have hin := HT.out.ins _ (List.getElem_mem hlt)
   have hok := HT.out.ok _ (List.getElem_mem hlt)
   have HNX : Hid (ts[k].id ∉ (ts.take k).map Tb.id → ((ts.take (k + 1)).map Tb.id).Nodup) := Go.Lib.hid (nodup_next hlt HND.out)
   have HMO : Hid (mapOf (ts.take (k + 1)) = (ts[k].id, .pointer (some ⟨ts[k].g, 0, none⟩)) :: mapOf (ts.take k)) := Go.Lib.hid (by rw [List.take_succ_eq_append_getElem hlt, mapOf_snoc])
   have HDUP : Hid (ts[k].id ∈ (ts.take k).map Tb.id → ¬ (ts.map Tb.id).Nodup) := Go.Lib.hid (by intro h1 h2; have h3 := take_nodup h2 (k + 1); rw [List.take_succ_eq_append_getElem hlt, List.map_append, List.nodup_append] at h3; exact h3.2.2 _ h1 _ (by simp) rfl)
   have HML : Hid ((mapOf (ts.take k)).length < maxLen) := Go.Lib.hid (by rw [mapOf_len, List.length_take]; unfold maxLen; omega)
   generalize ts[k] = x at *
   have HX : Hid (KI.ok x.id) := Go.Lib.hid (Go.WalkArith.wf_i64 (by have := hok.id0; have := hok.id1; omega))
   have HIN := Go.Lib.hid hin
   clear hin hok
   skip
   by_cases hmem : x.id ∈ (ts.take k).map Tb.id
   ·obtain ⟨v, hlk⟩ := look_some _ _ hmem
    have HL := Go.Lib.hid hlk
    have HD := Go.Lib.hid (HDUP.out hmem)
    clear hlk hmem
    go_upto_region 7 with (fail)
    replace HS := Go.Lib.hid HS.out.drew
    refine start_ (n := 12) (S := fun w' => w'.cell? ⟨ge, 0, none⟩ = some (.map (some bm)) ∧ w'.cell? ⟨ge, 1, none⟩ = some (.pointer none) ∧ w'.cell? ⟨ge, 2, none⟩ = some (.int .i64 first) ∧ w'.cell? ⟨ge, 3, none⟩ = some (.pointer (some ⟨gk, 0, none⟩)) ∧ w'.cell? ⟨ge, 4, none⟩ = some (.int .u64 0)) (ds := []) #[false, false, false, false, false, false, false, false, false, false, false, false] (by kernel_rfl) rfl rfl (HS.out.c5 0 _ _ _ _ _ _ _ rfl) (fun hHeld => ?_)
    generalize wr.drew = W_ at *
    refine pure_ (i := 0) (N := some 30) (v := ?_) (a' := ?_) #[true, false, false, false, false, false, false, false, false, false, false, false] rfl rfl (by kernel_rfl) (fun _ _ _ h => h) (Or.inl ⟨by rfl, ?_⟩) ?_ ?_
    rotate_left
    ·intro w'
     go_simp
     with_reducible rfl
    rotate_left
    ·simp only [Act.put, List.setIfInBounds_toArray, List.set_cons_zero, List.set_cons_succ, i64_w, i32_w]
     rfl
    refine pure_ (i := 1) (N := some 31) (v := ?_) (a' := ?_) #[true, true, false, false, false, false, false, false, false, false, false, false] rfl rfl (by kernel_rfl) (fun _ _ _ h => h) (Or.inl ⟨by rfl, ?_⟩) ?_ ?_
    rotate_left
    ·intro w'
     go_simp
     with_reducible rfl
    rotate_left
    ·simp only [Act.put, List.setIfInBounds_toArray, List.set_cons_zero, List.set_cons_succ, i64_w, i32_w]
     rfl
    refine pure_ (i := 2) (N := some 32) (v := ?_) (a' := ?_) #[true, true, true, false, false, false, false, false, false, false, false, false] rfl rfl (by kernel_rfl) (fun _ _ _ h => h) (Or.inl ⟨by rfl, ?_⟩) ?_ ?_
    rotate_left
    ·intro w'
     go_simp
     with_reducible rfl
    rotate_left
    ·simp only [Act.put, List.setIfInBounds_toArray, List.set_cons_zero, List.set_cons_succ, i64_w, i32_w]
     rfl
    refine pure_ (i := 4) (N := some 34) (v := ?_) (a' := ?_) #[true, true, true, false, true, false, false, false, false, false, false, false] rfl rfl (by kernel_rfl) (fun _ _ _ h => h) (Or.inl ⟨by rfl, ?_⟩) ?_ ?_
    rotate_left
    ·intro w'
     go_simp
     with_reducible rfl
    rotate_left
    ·simp only [Act.put, List.setIfInBounds_toArray, List.set_cons_zero, List.set_cons_succ, i64_w, i32_w]
     rfl
    refine take_ (i := 3) (N := some 33) (v := ?_) (a' := ?_) #[true, true, true, true, true, false, false, false, false, false, false, false] rfl rfl (by kernel_rfl) (fun _ _ _ h => h) (Or.inl ⟨by rfl, ?_⟩) hHeld ?_ ?_
    rotate_left
    ·rintro w' ⟨s0, s1, s2, s3, s4⟩
     go_simp
     with_reducible rfl
    rotate_left
    ·simp only [Act.put, List.setIfInBounds_toArray, List.set_cons_zero, List.set_cons_succ, i64_w, i32_w]
     rfl
    refine one_ (i := 5) (N := some 35) #[true, true, true, true, true, true, false, false, false, false, false, false] rfl rfl (by kernel_rfl) (by decide) (fun K hK => ?_)
    refine goes_ Try.func68 (by kernel_rfl) rfl #[.pointer (some ⟨x.g, 0, none⟩)] (by rfl) rfl rfl (by (try simp only [List.map_toArray, List.map_cons, List.map_nil]); first | done | rfl) ?_
    refine (tab_id HS.out (((HIN.out.t.cons _).cons _).cons _)).mono ?_
    rintro e w' ⟨rfl, rfl⟩
    refine ⟨_, rfl, ?_⟩
    refine hK.out _ _ (HS.out.c5 0 _ _ _ _ _ _ _ rfl) (fun hHeld => ?_)
    clear hK K
    refine norm_ (a' := ?_) ?_ ?_
    rotate_left
    ·show Act.put _ (some 35) _ = _
     simp only [Act.put, List.setIfInBounds_toArray, List.set_cons_zero, List.set_cons_succ, i64_w, i32_w]
     rfl
    refine one_ (i := 6) (N := some 36) #[true, true, true, true, true, true, true, false, false, false, false, false] rfl rfl (by kernel_rfl) (by decide) (fun K hK => ?_)
    refine lookok_stp HS.out 2 rfl 104 31 Try.underlying104 (zero31 _) x.id HX.out (by rfl) (.tmp 33) (.tmp 35) rfl rfl rfl ?_
    rw [HL.out]
    simp only [Option.getD_none, Option.isSome_none, Option.getD_some, Option.isSome_some]
    refine hK.out _ _ (HS.out.c5 0 _ _ _ _ _ _ _ rfl) (fun hHeld => ?_)
    clear hK K
    refine norm_ (a' := ?_) ?_ ?_
    rotate_left
    ·show Act.put _ (some 36) _ = _
     simp only [Act.put, List.setIfInBounds_toArray, List.set_cons_zero, List.set_cons_succ, i64_w, i32_w]
     rfl
    refine pure_ (i := 7) (N := some 29) (v := ?_) (a' := ?_) #[true, true, true, true, true, true, true, true, false, false, false, false] rfl rfl (by kernel_rfl) (fun _ _ _ h => h) (Or.inl ⟨by rfl, ?_⟩) ?_ ?_
    rotate_left
    ·intro w'
     go_simp
     with_reducible rfl
    rotate_left
    ·simp only [Act.put, List.setIfInBounds_toArray, List.set_cons_zero, List.set_cons_succ, i64_w, i32_w]
     rfl
    refine pure_ (i := 8) (N := some 37) (v := ?_) (a' := ?_) #[true, true, true, true, true, true, true, true, true, false, false, false] rfl rfl (by kernel_rfl) (fun _ _ _ h => h) (Or.inl ⟨by rfl, ?_⟩) ?_ ?_
    rotate_left
    ·intro w'
     go_simp
     with_reducible rfl
    rotate_left
    ·simp only [Act.put, List.setIfInBounds_toArray, List.set_cons_zero, List.set_cons_succ, i64_w, i32_w]
     rfl
    refine pure_ (i := 9) (N := some 38) (v := ?_) (a' := ?_) #[true, true, true, true, true, true, true, true, true, true, false, false] rfl rfl (by kernel_rfl) (fun _ _ _ h => h) (Or.inl ⟨by rfl, ?_⟩) ?_ ?_
    rotate_left
    ·intro w'
     go_simp
     with_reducible rfl
    rotate_left
    ·simp only [Act.put, List.setIfInBounds_toArray, List.set_cons_zero, List.set_cons_succ, i64_w, i32_w]
     rfl
    refine pure_ (i := 10) (N := some 11) (v := ?_) (a' := ?_) #[true, true, true, true, true, true, true, true, true, true, true, false] rfl rfl (by kernel_rfl) (fun _ _ _ h => h) (Or.inl ⟨by rfl, ?_⟩) ?_ ?_
    rotate_left
    ·intro w'
     go_simp
     with_reducible rfl
    rotate_left
    ·simp only [Act.put, List.setIfInBounds_toArray, List.set_cons_zero, List.set_cons_succ, i64_w, i32_w]
     rfl
    refine pure_ (i := 11) (N := some 12) (v := ?_) (a' := ?_) #[true, true, true, true, true, true, true, true, true, true, true, true] rfl rfl (by kernel_rfl) (fun _ _ _ h => h) (Or.inl ⟨by rfl, ?_⟩) ?_ ?_
    rotate_left
    ·intro w'
     go_simp
     with_reducible rfl
    rotate_left
    ·simp only [Act.put, List.setIfInBounds_toArray, List.set_cons_zero, List.set_cons_succ, i64_w, i32_w]
     rfl
    refine done_ (by kernel_rfl) ?_
    go_wp2_with fail
    go_ret2
    exact .inr (.inl ⟨HD.out, rfl, HS.out.drop.drop.drop⟩)
   ·have HL := Go.Lib.hid (look_none _ _ hmem)
    have HN2 := Go.Lib.hid (HNX.out hmem)
    clear hmem
    go_upto_region 7 with (fail)
    replace HS := Go.Lib.hid HS.out.drew
    refine start_ (n := 12) (S := fun w' => w'.cell? ⟨ge, 0, none⟩ = some (.map (some bm)) ∧ w'.cell? ⟨ge, 1, none⟩ = some (.pointer none) ∧ w'.cell? ⟨ge, 2, none⟩ = some (.int .i64 first) ∧ w'.cell? ⟨ge, 3, none⟩ = some (.pointer (some ⟨gk, 0, none⟩)) ∧ w'.cell? ⟨ge, 4, none⟩ = some (.int .u64 0)) (ds := []) #[false, false, false, false, false, false, false, false, false, false, false, false] (by kernel_rfl) rfl rfl (HS.out.c5 0 _ _ _ _ _ _ _ rfl) (fun hHeld => ?_)
    generalize wr.drew = W_ at *
    refine pure_ (i := 0) (N := some 30) (v := ?_) (a' := ?_) #[true, false, false, false, false, false, false, false, false, false, false, false] rfl rfl (by kernel_rfl) (fun _ _ _ h => h) (Or.inl ⟨by rfl, ?_⟩) ?_ ?_
    rotate_left
    ·intro w'
     go_simp
     with_reducible rfl
    rotate_left
    ·simp only [Act.put, List.setIfInBounds_toArray, List.set_cons_zero, List.set_cons_succ, i64_w, i32_w]
     rfl
    refine pure_ (i := 1) (N := some 31) (v := ?_) (a' := ?_) #[true, true, false, false, false, false, false, false, false, false, false, false] rfl rfl (by kernel_rfl) (fun _ _ _ h => h) (Or.inl ⟨by rfl, ?_⟩) ?_ ?_
    rotate_left
    ·intro w'
     go_simp
     with_reducible rfl
    rotate_left
    ·simp only [Act.put, List.setIfInBounds_toArray, List.set_cons_zero, List.set_cons_succ, i64_w, i32_w]
     rfl
    refine pure_ (i := 2) (N := some 32) (v := ?_) (a' := ?_) #[true, true, true, false, false, false, false, false, false, false, false, false] rfl rfl (by kernel_rfl) (fun _ _ _ h => h) (Or.inl ⟨by rfl, ?_⟩) ?_ ?_
    rotate_left
    ·intro w'
     go_simp
     with_reducible rfl
    rotate_left
    ·simp only [Act.put, List.setIfInBounds_toArray, List.set_cons_zero, List.set_cons_succ, i64_w, i32_w]
     rfl
    refine pure_ (i := 4) (N := some 34) (v := ?_) (a' := ?_) #[true, true, true, false, true, false, false, false, false, false, false, false] rfl rfl (by kernel_rfl) (fun _ _ _ h => h) (Or.inl ⟨by rfl, ?_⟩) ?_ ?_
    rotate_left
    ·intro w'
     go_simp
     with_reducible rfl
    rotate_left
    ·simp only [Act.put, List.setIfInBounds_toArray, List.set_cons_zero, List.set_cons_succ, i64_w, i32_w]
     rfl
    refine take_ (i := 3) (N := some 33) (v := ?_) (a' := ?_) #[true, true, true, true, true, false, false, false, false, false, false, false] rfl rfl (by kernel_rfl) (fun _ _ _ h => h) (Or.inl ⟨by rfl, ?_⟩) hHeld ?_ ?_
    rotate_left
    ·rintro w' ⟨s0, s1, s2, s3, s4⟩
     go_simp
     with_reducible rfl
    rotate_left
    ·simp only [Act.put, List.setIfInBounds_toArray, List.set_cons_zero, List.set_cons_succ, i64_w, i32_w]
     rfl
    refine one_ (i := 5) (N := some 35) #[true, true, true, true, true, true, false, false, false, false, false, false] rfl rfl (by kernel_rfl) (by decide) (fun K hK => ?_)
    refine goes_ Try.func68 (by kernel_rfl) rfl #[.pointer (some ⟨x.g, 0, none⟩)] (by rfl) rfl rfl (by (try simp only [List.map_toArray, List.map_cons, List.map_nil]); first | done | rfl) ?_
    refine (tab_id HS.out (((HIN.out.t.cons _).cons _).cons _)).mono ?_
    rintro e w' ⟨rfl, rfl⟩
    refine ⟨_, rfl, ?_⟩
    refine hK.out _ _ (HS.out.c5 0 _ _ _ _ _ _ _ rfl) (fun hHeld => ?_)
    clear hK K
    refine norm_ (a' := ?_) ?_ ?_
    rotate_left
    ·show Act.put _ (some 35) _ = _
     simp only [Act.put, List.setIfInBounds_toArray, List.set_cons_zero, List.set_cons_succ, i64_w, i32_w]
     rfl
    refine one_ (i := 6) (N := some 36) #[true, true, true, true, true, true, true, false, false, false, false, false] rfl rfl (by kernel_rfl) (by decide) (fun K hK => ?_)
    refine lookok_stp HS.out 2 rfl 104 31 Try.underlying104 (zero31 _) x.id HX.out (by rfl) (.tmp 33) (.tmp 35) rfl rfl rfl ?_
    rw [HL.out]
    simp only [Option.getD_none, Option.isSome_none, Option.getD_some, Option.isSome_some]
    refine hK.out _ _ (HS.out.c5 0 _ _ _ _ _ _ _ rfl) (fun hHeld => ?_)
    clear hK K
    refine norm_ (a' := ?_) ?_ ?_
    rotate_left
    ·show Act.put _ (some 36) _ = _
     simp only [Act.put, List.setIfInBounds_toArray, List.set_cons_zero, List.set_cons_succ, i64_w, i32_w]
     rfl
    refine pure_ (i := 7) (N := some 29) (v := ?_) (a' := ?_) #[true, true, true, true, true, true, true, true, false, false, false, false] rfl rfl (by kernel_rfl) (fun _ _ _ h => h) (Or.inl ⟨by rfl, ?_⟩) ?_ ?_
    rotate_left
    ·intro w'
     go_simp
     with_reducible rfl
    rotate_left
    ·simp only [Act.put, List.setIfInBounds_toArray, List.set_cons_zero, List.set_cons_succ, i64_w, i32_w]
     rfl
    refine pure_ (i := 8) (N := some 37) (v := ?_) (a' := ?_) #[true, true, true, true, true, true, true, true, true, false, false, false] rfl rfl (by kernel_rfl) (fun _ _ _ h => h) (Or.inl ⟨by rfl, ?_⟩) ?_ ?_
    rotate_left
    ·intro w'
     go_simp
     with_reducible rfl
    rotate_left
    ·simp only [Act.put, List.setIfInBounds_toArray, List.set_cons_zero, List.set_cons_succ, i64_w, i32_w]
     rfl
    refine pure_ (i := 9) (N := some 38) (v := ?_) (a' := ?_) #[true, true, true, true, true, true, true, true, true, true, false, false] rfl rfl (by kernel_rfl) (fun _ _ _ h => h) (Or.inl ⟨by rfl, ?_⟩) ?_ ?_
    rotate_left
    ·intro w'
     go_simp
     with_reducible rfl
    rotate_left
    ·simp only [Act.put, List.setIfInBounds_toArray, List.set_cons_zero, List.set_cons_succ, i64_w, i32_w]
     rfl
    refine pure_ (i := 10) (N := some 11) (v := ?_) (a' := ?_) #[true, true, true, true, true, true, true, true, true, true, true, false] rfl rfl (by kernel_rfl) (fun _ _ _ h => h) (Or.inl ⟨by rfl, ?_⟩) ?_ ?_
    rotate_left
    ·intro w'
     go_simp
     with_reducible rfl
    rotate_left
    ·simp only [Act.put, List.setIfInBounds_toArray, List.set_cons_zero, List.set_cons_succ, i64_w, i32_w]
     rfl
    refine pure_ (i := 11) (N := some 12) (v := ?_) (a' := ?_) #[true, true, true, true, true, true, true, true, true, true, true, true] rfl rfl (by kernel_rfl) (fun _ _ _ h => h) (Or.inl ⟨by rfl, ?_⟩) ?_ ?_
    rotate_left
    ·intro w'
     go_simp
     with_reducible rfl
    rotate_left
    ·simp only [Act.put, List.setIfInBounds_toArray, List.set_cons_zero, List.set_cons_succ, i64_w, i32_w]
     rfl
    refine done_ (by kernel_rfl) ?_
    go_upto_region 10 with (fail)
    replace HS := Go.Lib.hid HS.out.drew
    refine start_ (n := 8) (S := fun w' => w'.cell? ⟨ge, 0, none⟩ = some (.map (some bm)) ∧ w'.cell? ⟨ge, 1, none⟩ = some (.pointer none) ∧ w'.cell? ⟨ge, 2, none⟩ = some (.int .i64 first) ∧ w'.cell? ⟨ge, 3, none⟩ = some (.pointer (some ⟨gk, 0, none⟩)) ∧ w'.cell? ⟨ge, 4, none⟩ = some (.int .u64 0)) (ds := [7]) #[false, false, false, false, false, false, false, false] (by kernel_rfl) rfl rfl (HS.out.c5 0 _ _ _ _ _ _ _ rfl) (fun hHeld => ?_)
    generalize W_.drew = W2_ at *
    refine pure_ (i := 0) (N := some 40) (v := ?_) (a' := ?_) #[true, false, false, false, false, false, false, false] rfl rfl (by kernel_rfl) (fun _ _ _ h => h) (Or.inl ⟨by rfl, ?_⟩) ?_ ?_
    rotate_left
    ·intro w'
     go_simp
     with_reducible rfl
    rotate_left
    ·simp only [Act.put, List.setIfInBounds_toArray, List.set_cons_zero, List.set_cons_succ, i64_w, i32_w]
     rfl
    refine pure_ (i := 1) (N := some 41) (v := ?_) (a' := ?_) #[true, true, false, false, false, false, false, false] rfl rfl (by kernel_rfl) (fun _ _ _ h => h) (Or.inl ⟨by rfl, ?_⟩) ?_ ?_
    rotate_left
    ·intro w'
     go_simp
     with_reducible rfl
    rotate_left
    ·simp only [Act.put, List.setIfInBounds_toArray, List.set_cons_zero, List.set_cons_succ, i64_w, i32_w]
     rfl
    refine pure_ (i := 2) (N := some 42) (v := ?_) (a' := ?_) #[true, true, true, false, false, false, false, false] rfl rfl (by kernel_rfl) (fun _ _ _ h => h) (Or.inl ⟨by rfl, ?_⟩) ?_ ?_
    rotate_left
    ·intro w'
     go_simp
     with_reducible rfl
    rotate_left
    ·simp only [Act.put, List.setIfInBounds_toArray, List.set_cons_zero, List.set_cons_succ, i64_w, i32_w]
     rfl
    refine pure_ (i := 4) (N := some 44) (v := ?_) (a' := ?_) #[true, true, true, false, true, false, false, false] rfl rfl (by kernel_rfl) (fun _ _ _ h => h) (Or.inl ⟨by rfl, ?_⟩) ?_ ?_
    rotate_left
    ·intro w'
     go_simp
     with_reducible rfl
    rotate_left
    ·simp only [Act.put, List.setIfInBounds_toArray, List.set_cons_zero, List.set_cons_succ, i64_w, i32_w]
     rfl
    refine pure_ (i := 6) (N := some 46) (v := ?_) (a' := ?_) #[true, true, true, false, true, false, true, false] rfl rfl (by kernel_rfl) (fun _ _ _ h => h) (Or.inl ⟨by rfl, ?_⟩) ?_ ?_
    rotate_left
    ·intro w'
     go_simp
     with_reducible rfl
    rotate_left
    ·simp only [Act.put, List.setIfInBounds_toArray, List.set_cons_zero, List.set_cons_succ, i64_w, i32_w]
     rfl
    refine take_ (i := 3) (N := some 43) (v := ?_) (a' := ?_) #[true, true, true, true, true, false, true, false] rfl rfl (by kernel_rfl) (fun _ _ _ h => h) (Or.inl ⟨by rfl, ?_⟩) hHeld ?_ ?_
    rotate_left
    ·rintro w' ⟨s0, s1, s2, s3, s4⟩
     go_simp
     with_reducible rfl
    rotate_left
    ·simp only [Act.put, List.setIfInBounds_toArray, List.set_cons_zero, List.set_cons_succ, i64_w, i32_w]
     rfl
    refine one_ (i := 5) (N := some 45) #[true, true, true, true, true, true, true, false] rfl rfl (by kernel_rfl) (by decide) (fun K hK => ?_)
    refine goes_ Try.func68 (by kernel_rfl) rfl #[.pointer (some ⟨x.g, 0, none⟩)] (by rfl) rfl rfl (by (try simp only [List.map_toArray, List.map_cons, List.map_nil]); first | done | rfl) ?_
    refine (tab_id HS.out (((HIN.out.t.cons _).cons _).cons _)).mono ?_
    rintro e w' ⟨rfl, rfl⟩
    refine ⟨_, rfl, ?_⟩
    refine hK.out _ _ (HS.out.c5 0 _ _ _ _ _ _ _ rfl) (fun hHeld => ?_)
    clear hK K
    refine norm_ (a' := ?_) ?_ ?_
    rotate_left
    ·show Act.put _ (some 45) _ = _
     simp only [Act.put, List.setIfInBounds_toArray, List.set_cons_zero, List.set_cons_succ, i64_w, i32_w]
     rfl
    refine last_ (i := 7) (N := none) #[true, true, true, true, true, true, true, true] rfl rfl (by kernel_rfl) (by decide) (fun K hK => ?_)
    refine Sl.mapset_stp HS.out 2 rfl 104 31 Try.underlying104 x.id (.pointer (some ⟨x.g, 0, none⟩)) HX.out HML.out (by rfl) rfl (.tmp 43) (.tmp 45) (.tmp 46) rfl rfl rfl rfl ?_
    intro w81_ HSm
    refine hK.out _ _ ?_
    clear hK K
    refine done_ (by kernel_rfl) ?_
    have HS2 : Hid (St (SL.blk ge 108 #[.map (some bm), .pointer none, .int .i64 first, .pointer (some ⟨gk, 0, none⟩), .int .u64 0] :: SL.blk gk 132 #[.int .u64 epoch] :: SL.map KI bm (mapOf (ts.take (k + 1))) :: l) w0 w81_) := Go.Lib.hid (by rw [HMO.out]; exact HSm)
    clear HSm
    go_wp2_with fail
    go_roundw
    case rel => exact ⟨k + 1, hlt, rfl, HN2.out, HS2.out⟩
    case measure => simp [intOf]; omega
  ·obtain rfl : k = ts.length := by omega
   have hnd := HND.out
   rw [List.take_length] at hnd
   have hS := HS.out
   rw [List.take_length] at hS
   replace HS := Go.Lib.hid hS
   have HM := Go.Lib.hid (maps_of ts hnd)
   replace HND := Go.Lib.hid hnd
   clear hS hnd
   obtain ⟨q0, q1, q2, q3, q4⟩ := HS.out.c5 0 _ _ _ _ _ _ _ rfl
   have gln : gs.length = ts.length := HGL.out
   cases hf : findT ts first with
   | none =>
    have HF := Go.Lib.hid hf
    have HL : Hid (Sl.look (mapOf ts) first = none) := Go.Lib.hid (by rw [HM.out, hf]; rfl)
    clear hf
    go_wp2_with (at_lookup; refine Sl.lookok_st HS.out 2 rfl 104 31 Try.underlying104 (zero31 _) first HWF.out rfl (.tmp 52) (.tmp 53) rfl rfl rfl ?_; rw [HL.out]; simp only [Option.getD_none, Option.isSome_none, Option.getD_some, Option.isSome_some])
    go_ret2
    exact .inr (.inr ⟨HND.out, HF.out, rfl, HS.out.drop.drop.drop⟩)
   | some y =>
    have HF := Go.Lib.hid hf
    have HL : Hid (Sl.look (mapOf ts) first = some (.pointer (some ⟨y.g, 0, none⟩))) := Go.Lib.hid (by rw [HM.out, hf]; rfl)
    clear hf
    go_wp2_with (first | (at_lookup; refine Sl.lookok_st HS.out 2 rfl 104 31 Try.underlying104 (zero31 _) first HWF.out rfl (.tmp 52) (.tmp 53) rfl rfl rfl ?_; rw [HL.out]; simp only [Option.getD_none, Option.isSome_none, Option.getD_some, Option.isSome_some]) | (go_at_call 13; refine (cursor_st HS.out).mono ?_; rintro e w91_ ⟨gc, rfl, HSn⟩; replace HS : Hid (St (SL.blk gc 100 #[.pointer (some ⟨y.g, 0, none⟩), .int .i64 0, .int .i64 0] :: SL.blk ge 108 #[.map (some bm), .pointer none, .int .i64 first, .pointer (some ⟨gk, 0, none⟩), .int .u64 0] :: SL.blk gk 132 #[.int .u64 epoch] :: SL.map KI bm (mapOf ts) :: l) w0 w91_) := Go.Lib.hid HSn; clear HSn; clear q0 q1 q2 q3 q4; obtain ⟨c0_0, c0_1, c0_2⟩ := HS.out.c3 0 _ _ _ _ _ rfl; obtain ⟨c1_0, c1_1, c1_2, c1_3, c1_4⟩ := HS.out.c5 1 _ _ _ _ _ _ _ rfl; obtain c2_0 := HS.out.c1 2 _ _ _ rfl) | ((with_reducible refine gate_store (p := 63) rfl ?_); refine Sl.store_st HS.out 1 ge 108 _ rfl 1 (.pointer (some ⟨gc, 0, none⟩)) (by rfl) (by rfl) ?hr ?_; (case hr => have f_ := HS.out.free 1 _ _ _ rfl 1; first | (go_simp; done) | (go_simp; rfl)); intro w92_ HSn; replace HS : Hid (St (SL.blk gc 100 #[.pointer (some ⟨y.g, 0, none⟩), .int .i64 0, .int .i64 0] :: SL.blk ge 108 #[.map (some bm), .pointer (some ⟨gc, 0, none⟩), .int .i64 first, .pointer (some ⟨gk, 0, none⟩), .int .u64 0] :: SL.blk gk 132 #[.int .u64 epoch] :: SL.map KI bm (mapOf ts) :: l) w0 w92_) := Go.Lib.hid HSn; clear HSn; clear c0_0 c0_1 c0_2 c1_0 c1_1 c1_2 c1_3 c1_4 c2_0; obtain ⟨c0_0, c0_1, c0_2⟩ := HS.out.c3 0 _ _ _ _ _ rfl; obtain ⟨c1_0, c1_1, c1_2, c1_3, c1_4⟩ := HS.out.c5 1 _ _ _ _ _ _ _ rfl; obtain c2_0 := HS.out.c1 2 _ _ _ rfl))
    go_ret2
    exact .inl ⟨ge, gk, bm, y, HND.out, HF.out, rfl, gc, 0, (HT.out.ok _ (findT_mem HF.out).1).runs.in_zero (by have := (HT.out.ok _ (findT_mem HF.out).1).lo; omega), ((HS.out.front 2 _ rfl).front 3 _ rfl).front 3 _ rfl⟩
end Go.Proofs.Ytnpjbdaaoknkbaa.Frm
