/- FrmWw: texts of one matter, laid together. -/
import Derived.Test.YtnpjbdaaoknkbaaFrmJ
import Derived.Test.YtnpjbdaaoknkbaaFrmH
import Derived.Test.YtnpjbdaaoknkbaaWfC
import Derived.IntWalk
import Derived.Test.YtnpjbdaaoknkbaaOpn
import Derived.Lib.SmallJoins
import Derived.Test.YtnpjbdaaoknkbaaOpf
import Derived.Test.YtnpjbdaaoknkbaaOst
/-! Schedules of different ids. -/
namespace Go.Proofs.Ytnpjbdaaoknkbaa.Frm
open Go.RowKit Go.Proofs.YtnpjbdaaoknkbaaW.PrintWords Go.Proofs.YtnpjbdaaoknkbaaW.PrintLast Go.Proofs.YtnpjbdaaoknkbaaW.PrintMore Go.Proofs.Ytnpjbdaaoknkbaa.Mine Go.Proofs.Ytnpjbdaaoknkbaa.PTableFrames
open Go.Proofs.Ytnpjbdaaoknkbaa.Sl (SL Stp Chg St No wpc_seal wpc_round sealed MK look)
open Go.Proofs.Ytnpjbdaaoknkbaa.Tab (InT In InA Runs cur_tick cur_owner step_st nextT nextJ rd_mem cursor_st allR allR_is ownW OkW mkR_len grw_len at_run Small SchedIn BadW NewPost new_st WinIn)
set_option linter.unusedVariables false
set_option linter.unusedSimpArgs false
attribute [local go_sem] max2_int min2_int max_two min_two max_three min_three max_four min_four
/-- No two of the first ones have one id. -/
def Dist (ss : List S25) (k : Nat) : Prop := ∀ a b : Nat, a < b → b < k → (ss.getD a z25).f0 ≠ (ss.getD b z25).f0
theorem dist_next {ss : List S25} {k : Nat} (h : Dist ss k) (h2 : ∀ a : Nat, a < k → (ss.getD a z25).f0 ≠ (ss.getD k z25).f0) : Dist ss (k + 1) := by
  intro a b hab hb
  rcases Nat.lt_or_ge b k with q | q
  · exact h a b hab q
  · obtain rfl : b = k := by omega
    exact h2 a hab
theorem ne_next {ss : List S25} {k m : Nat} (h : ∀ a : Nat, a < m → (ss.getD a z25).f0 ≠ (ss.getD k z25).f0) (h1 : (ss.getD m z25).f0 ≠ (ss.getD k z25).f0) : ∀ a : Nat, a < m + 1 → (ss.getD a z25).f0 ≠ (ss.getD k z25).f0 := by
  intro a ha
  rcases Nat.lt_or_ge a m with q | q
  · exact h a q
  · obtain rfl : a = m := by omega
    exact h1
theorem dist_nodup {ss : List S25} (h : Dist ss ss.length) {ts : List Tb} (hs : ts.map Tb.src = ss.map srcS) : (ts.map Tb.id).Nodup := by
  have e : ts.map Tb.id = ss.map S25.f0 := by
    have := congrArg (List.map Prod.fst) hs
    rw [List.map_map, List.map_map] at this
    exact this
  rw [e, List.nodup_iff_pairwise_ne, List.pairwise_iff_getElem]
  intro a b ha hb hab
  rw [List.length_map] at ha hb
  have := h a b hab hb
  rw [List.getElem_map, List.getElem_map]
  rwa [List.getD_eq_getElem?_getD, List.getElem?_eq_getElem ha, List.getD_eq_getElem?_getD, List.getElem?_eq_getElem hb] at this
theorem cell_id {w : World} {A : Option Addr} {ss : List S25} (h : Kd.C k25 w A ss.length ss) (k : Nat) (hk : k < ss.length) : ∃ ad, A = some ad ∧ w.cell? (ad.add (k * 4)) = some (.int .i64 (ss.getD k z25).f0) := by
  obtain ⟨ad, A2, c2, A3, c3, e, g0, _⟩ := at_T25 h (k : Int) (by omega) (by omega)
  have hx : rd_T25 ss (k : Int) = ss.getD k z25 := by unfold rd_T25; rw [Int.toNat_natCast]
  rw [hx, Int.toNat_natCast] at g0
  exact ⟨ad, e, g0⟩
/-- Which table runs first. -/
theorem first_in {ts : List Tb} {ss : List S25} (hs : ts.map Tb.src = ss.map srcS) {k : Nat} (hk : k < ss.length) : ∃ y, findT ts (ss.getD k z25).f0 = some y := by
  refine find_in ?_
  have e : ts.map Tb.id = ss.map S25.f0 := by
    have := congrArg (List.map Prod.fst) hs
    rw [List.map_map, List.map_map] at this
    exact this
  rw [e, List.getD_eq_getElem?_getD, List.getElem?_eq_getElem hk]
  exact List.mem_map.2 ⟨_, List.getElem_mem hk, rfl⟩
theorem live_yes {x : EM} (h : x.now < 18446744073709551615) : x.live = true := by unfold EM.live; rw [if_neg (by omega)]
theorem tick_now {ts : List Tb} {x : EM} (h : x.now < 18446744073709551615) : (x.tick ts).now = x.now + 1 := by
  unfold EM.tick
  rw [if_neg (by omega)]
  split <;> rfl
theorem halt_all {ts : List Tb} {x : EM} (h : x.now = 18446744073709551615) : x.own = -1 ∧ x.bnd = false ∧ x.live = false ∧ x.tick ts = x := by
  unfold EM.own EM.bnd EM.live EM.tick
  rw [if_pos h, if_pos h, if_pos h, if_pos h]
  exact ⟨rfl, rfl, rfl, rfl⟩
end Go.Proofs.Ytnpjbdaaoknkbaa.Frm

/-! A schedule by its id. -/
namespace Go.Proofs.Ytnpjbdaaoknkbaa.Frm
open Go.RowKit Go.Proofs.YtnpjbdaaoknkbaaW.PrintWords Go.Proofs.YtnpjbdaaoknkbaaW.PrintLast Go.Proofs.YtnpjbdaaoknkbaaW.PrintMore Go.Proofs.Ytnpjbdaaoknkbaa.Mine Go.Proofs.Ytnpjbdaaoknkbaa.PTableFrames
open Go.Proofs.Ytnpjbdaaoknkbaa.Sl (SL Stp Chg St No wpc_seal wpc_round sealed MK look)
open Go.Proofs.Ytnpjbdaaoknkbaa.Tab (InT In InA Runs cur_tick cur_owner step_st nextT nextJ rd_mem cursor_st allR allR_is ownW OkW mkR_len grw_len at_run Small SchedIn BadW NewPost new_st WinIn)
set_option linter.unusedVariables false
set_option linter.unusedSimpArgs false
attribute [local go_sem] max2_int min2_int max_two min_two max_three min_three max_four min_four
open Go.Proofs.YtnpjbdaaoknkbaaW.PrintWords (results_list Vals)
theorem get_len {ss : List S25} {k : Nat} (h : k < ss.length) : ss.getD k z25 ∈ ss := by rw [List.getD_eq_getElem?_getD, List.getElem?_eq_getElem h]; exact List.getElem_mem h
set_option maxHeartbeats 1600000 in
set_option maxRecDepth 100000 in
theorem get_yes {l : List SL} {w0 w : World} (h : St l w0 w) (AL : Option Addr) (cl : Nat) (ss : List S25) (hrs : SchedsAt l w0 AL ss) (hn : ss.length ≤ 1000000) (id : Int) (n : Nat) (hk : n < ss.length) (hid : (ss.getD n z25).f0 = id) (hne : ∀ j : Nat, j < n → (ss.getD j z25).f0 ≠ id) :
    Calls Try.prog 32 #[.slice AL ss.length cl, .int .i64 id] w fun e w' => ∃ A2 c2 A3 c3, e = .returned (.tuple #[.agg #[.int .i64 (ss.getD n z25).f0, .int .i64 (ss.getD n z25).f1, .slice A2 (ss.getD n z25).f2.length c2, .slice A3 (ss.getD n z25).f3.length c3], .bool true]) ∧ (ss.getD n z25).f2.length ≤ c2 ∧ (ss.getD n z25).f3.length ≤ c3 ∧
      (∀ (lx : List SL) (w1 : World), St (lx ++ l) w0 w1 → k30.C w1 A2 (ss.getD n z25).f2.length (ss.getD n z25).f2 ∧ k87.C w1 A3 (ss.getD n z25).f3.length (ss.getD n z25).f3) ∧ St l w0 w' := by
  have HS := Go.Lib.hid h
  have HRS := Go.Lib.hid hrs
  have HID := Go.Lib.hid hid
  have HNE := Go.Lib.hid hne
  clear h hrs hid hne
  go_enter Try.func32, Try.ntmps32
  go_wp2_with (first | ((with_reducible refine gate_dst (N := 4) rfl ?_); refine Sl.box_st HS.out (by rfl) (cs := #[.int .i64 0, .int .i64 0, .slice none 0 0, .slice none 0 0]) (t := 25) ?hr ?_; (case hr => first | (go_simp; done) | (go_simp; rfl)); intro g4 w1_ HSn HBn; clear HBn; replace HS : Hid (St (SL.blk g4 25 #[.int .i64 0, .int .i64 0, .slice none 0 0, .slice none 0 0] :: l) w0 w1_) := Go.Lib.hid HSn; clear HSn; obtain ⟨c0_0, c0_1, c0_2, c0_3⟩ := HS.out.c4 0 _ _ _ _ _ _ rfl))
  clear c0_0 c0_1 c0_2 c0_3
  go_loopw [6] (fun i wr => ∃ k : Nat, k ≤ n ∧ i = .int .i64 k ∧ St (SL.blk g4 25 #[.int .i64 0, .int .i64 0, .slice none 0 0, .slice none 0 0] :: l) w0 wr) (fun i _ => n - (intOf i).toNat)
  case atStart => exact ⟨0, Nat.zero_le _, rfl, HS.out⟩
  case round =>
    clear HS
    obtain ⟨k, hkn, rfl, hS⟩ := hrel
    have HS := Go.Lib.hid hS
    clear hS
    have hks : k < ss.length := by omega
    obtain ⟨ad, A2, c2, A3, c3, rfl, l2, l3, hrd⟩ := HRS.out k hks
    obtain ⟨g0, g1, g2, g3, _, _⟩ := hrd [_] wr HS.out
    have HRD := Go.Lib.hid hrd
    clear hrd
    by_cases hlt : k < n
    · have hq : ((ss.getD k z25).f0 == id) = false := beq_eq_false_iff_ne.2 (HNE.out k hlt)
      generalize ss.getD k z25 = x at *
      go_wp2_with fail
      go_roundw
      case rel => exact ⟨k + 1, hlt, rfl, HS.out⟩
      case measure => simp [intOf]; omega
    · obtain rfl : k = n := by omega
      have hq : ((ss.getD k z25).f0 == id) = true := by rw [HID.out]; exact beq_self_eq_true id
      clear HID
      obtain ⟨x, hx⟩ : ∃ x, x = ss.getD k z25 := ⟨_, rfl⟩
      rw [← hx] at g0 g1 g2 g3 hq l2 l3 HRD
      have HX := Go.Lib.hid hx
      clear hx
      obtain ⟨c0_0, c0_1, c0_2, c0_3⟩ := HS.out.c4 0 _ _ _ _ _ _ rfl
      go_wp2_with (first | ((with_reducible refine gate_store (p := 4) rfl ?_); refine Sl.storeAll_st HS.out 0 g4 25 _ rfl [.int .i64 x.f0, .int .i64 x.f1, .slice A2 x.f2.length c2, .slice A3 x.f3.length c3] rfl (by rfl) (by rfl) ?hr ?_; (case hr => have f_ := HS.out.f4 0 _ _ _ _ _ _ rfl; (try obtain ⟨f0, f1, f2, f3⟩ := f_); first | (go_simp; done) | (go_simp; rfl)); intro w21_ HSn; replace HS : Hid (St (SL.blk g4 25 #[.int .i64 x.f0, .int .i64 x.f1, .slice A2 x.f2.length c2, .slice A3 x.f3.length c3] :: l) w0 w21_) := Go.Lib.hid HSn; clear HSn; clear c0_0 c0_1 c0_2 c0_3; obtain ⟨c0_0, c0_1, c0_2, c0_3⟩ := HS.out.c4 0 _ _ _ _ _ _ rfl))
      obtain rfl := HX.out
      exact bodyPost_ret (results_list (rs := [.cell 4 25, .tmp 5]) rfl (by simp) (.cell g4 25 _ (0, 0) _ rfl (HS.out.heap 0 _ _ _ rfl) Try.underlying25 rfl (by kernel_rfl) (.tmp .nil))) rfl ⟨A2, c2, A3, c3, rfl, l2, l3, fun lx w1 h1 => (HRD.out lx w1 h1).2.2.2.2, HS.out.drop⟩
end Go.Proofs.Ytnpjbdaaoknkbaa.Frm

/-! Words of tables, in plain words. -/
namespace Go.Proofs.Ytnpjbdaaoknkbaa.Frm
open Go.RowKit Go.Proofs.YtnpjbdaaoknkbaaW.PrintWords Go.Proofs.YtnpjbdaaoknkbaaW.PrintLast Go.Proofs.YtnpjbdaaoknkbaaW.PrintMore Go.Proofs.Ytnpjbdaaoknkbaa.Mine Go.Proofs.Ytnpjbdaaoknkbaa.PTableFrames
open Go.Proofs.Ytnpjbdaaoknkbaa.Sl (SL Stp Chg St No wpc_seal wpc_round sealed MK look)
open Go.Proofs.Ytnpjbdaaoknkbaa.Tab (InT In InA Runs cur_tick cur_owner step_st nextT nextJ rd_mem cursor_st allR allR_is ownW OkW mkR_len grw_len at_run Small SchedIn BadW NewPost new_st WinIn)
set_option linter.unusedVariables false
set_option linter.unusedSimpArgs false
attribute [local go_sem] max2_int min2_int max_two min_two max_three min_three max_four min_four
/-- A table's word. -/
def wordT (fr : Int) (ws : List S30) : List Int := (List.range fr.toNat).map (fun t : Nat => ownW ws (t : Int))
theorem wordT_len (fr : Int) (ws : List S30) : (wordT fr ws).length = fr.toNat := by simp [wordT]
theorem wordT_take (fr : Int) (ws : List S30) (t : Nat) (h : t < fr.toNat) : (wordT fr ws).take (t + 1) = (wordT fr ws).take t ++ [ownW ws (t : Int)] := by
  have hl : t < (wordT fr ws).length := by rw [wordT_len]; exact h
  rw [List.take_succ_eq_append_getElem hl]
  congr 2
  simp [wordT]
def wordId (ts : List Tb) (id : Int) : List Int := match findT ts id with | some y => wordT y.fr y.ws | none => []
def wordsT (ts : List Tb) (ord : List Int) : List Int := ord.flatMap (wordId ts)
theorem wordsT_snoc (ts : List Tb) (ord : List Int) (id : Int) : wordsT ts (ord ++ [id]) = wordsT ts ord ++ wordId ts id := by simp [wordsT]
theorem wordsT_len (ts : List Tb) (hok : ∀ y ∈ ts, TbOk y) : ∀ ord : List Int, (wordsT ts ord).length ≤ 60 * ord.length := by
  intro ord
  induction ord with
  | nil => simp [wordsT]
  | cons a r ih =>
    have e : wordsT ts (a :: r) = wordId ts a ++ wordsT ts r := by simp [wordsT]
    rw [e, List.length_append, List.length_cons]
    have : (wordId ts a).length ≤ 60 := by
      unfold wordId
      cases c : findT ts a with
      | none => simp
      | some y => have := (hok y (findT_mem c).1).hi; show (wordT y.fr y.ws).length ≤ 60; rw [wordT_len]; omega
    omega
/-- What has been emitted: the words of all but the last one, and a beginning of the last one's. -/
structure Emits (ts : List Tb) (x : EM) (em ord : List Int) : Prop where
  ex : ∃ o1, ord = o1 ++ [x.cur.id] ∧ em = wordsT ts o1 ++ (wordT x.cur.fr x.cur.ws).take x.t.toNat
  all : ∀ id ∈ ord, ∃ y, findT ts id = some y
theorem Emits.start {ts : List Tb} {y : Tb} {u e : Int} (h : findT ts u = some y) : Emits ts ⟨y, u, 0, e, 0⟩ [] [u] := by
  have hm := findT_mem h
  refine ⟨⟨[], by rw [hm.2]; rfl, ?_⟩, fun id hi => by rw [List.mem_singleton.1 hi]; exact ⟨y, h⟩⟩
  simp [wordsT]
theorem wordId_cur {ts : List Tb} (U : Uniq ts) {x : EM} (G : Good ts x) : wordId ts x.cur.id = wordT x.cur.fr x.cur.ws := by
  unfold wordId
  rw [U _ G.cur]
theorem Emits.inner {ts : List Tb} {x : EM} {em ord : List Int} (E : Emits ts x em ord) (U : Uniq ts) (G : Good ts x) (hl : x.live = true) (hb : x.bnd = false) : Emits ts (x.tick ts) (em ++ [x.own]) ord := by
  have h1 : ¬ x.now = 18446744073709551615 := by intro e; unfold EM.live at hl; rw [if_pos e] at hl; cases hl
  unfold EM.bnd at hb
  rw [if_neg h1] at hb
  have h2 : x.t + 1 < x.cur.fr := by simpa using hb
  obtain ⟨o1, e1, e2⟩ := E.ex
  unfold EM.tick EM.own
  rw [if_neg h1, if_pos h2, if_neg h1]
  have ht := G.t0
  refine ⟨⟨o1, e1, ?_⟩, E.all⟩
  show em ++ [_] = wordsT ts o1 ++ (wordT x.cur.fr x.cur.ws).take (x.t + 1).toNat
  rw [e2, show (x.t + 1).toNat = x.t.toNat + 1 by omega, wordT_take _ _ _ (by omega), List.append_assoc, Int.toNat_of_nonneg ht]
theorem Emits.outer {ts : List Tb} {x : EM} {em ord : List Int} (E : Emits ts x em ord) (U : Uniq ts) (G : Good ts x) (hl : x.live = true) (hb : x.bnd = true) : Emits ts (x.tick ts) (em ++ [x.own]) (ord ++ [x.due]) := by
  have h1 : ¬ x.now = 18446744073709551615 := by intro e; unfold EM.live at hl; rw [if_pos e] at hl; cases hl
  unfold EM.bnd at hb
  rw [if_neg h1] at hb
  have h2 : ¬ x.t + 1 < x.cur.fr := by simpa using hb
  obtain ⟨o1, e1, e2⟩ := E.ex
  obtain ⟨y, hy⟩ := G.due
  unfold EM.tick EM.own
  rw [if_neg h1, if_neg h2, if_neg h1, hy]
  have ht := G.t0; have ht1 := G.t1
  refine ⟨⟨ord, by rw [← (findT_mem hy).2]; rfl, ?_⟩, fun id hi => ?_⟩
  · show em ++ [_] = wordsT ts ord ++ (wordT y.fr y.ws).take 0
    rw [List.take_zero, List.append_nil, e1, wordsT_snoc, wordId_cur U G, e2, List.append_assoc]
    congr 1
    have h3 := wordT_take x.cur.fr x.cur.ws x.t.toNat (by omega)
    rw [Int.toNat_of_nonneg ht] at h3
    rw [← h3, List.take_of_length_le (by rw [wordT_len]; omega)]
  · rcases List.mem_append.1 hi with hi | hi
    · exact E.all id hi
    · rw [List.mem_singleton.1 hi]; exact ⟨y, hy⟩
/-- How long the words are. -/
theorem Emits.lens {ts : List Tb} {x : EM} {em ord : List Int} (E : Emits ts x em ord) (U : Uniq ts) (G : Good ts x) (K : ∀ y ∈ ts, TbOk y) : ((wordsT ts ord).length : Int) = em.length + (x.cur.fr - x.t) ∧ em = (wordsT ts ord).take em.length ∧ ord.getLast? = some x.cur.id := by
  obtain ⟨o1, e1, e2⟩ := E.ex
  have ht := G.t0; have ht1 := G.t1
  have h0 : wordsT ts ord = wordsT ts o1 ++ wordT x.cur.fr x.cur.ws := by rw [e1, wordsT_snoc, wordId_cur U G]
  have h1 : em.length = (wordsT ts o1).length + x.t.toNat := by rw [e2, List.length_append, List.length_take, wordT_len]; omega
  refine ⟨?_, ?_, by rw [e1]; simp⟩
  · rw [h0, List.length_append, wordT_len, h1]; omega
  · rw [h0, h1, List.take_append, List.take_of_length_le (by omega), show (wordsT ts o1).length + x.t.toNat - (wordsT ts o1).length = x.t.toNat by omega]
    exact e2
theorem tick_now_le {ts : List Tb} {x : EM} (n : Nat) (h : x.now ≤ n) : (x.tick ts).now ≤ (n + 1 : Nat) := by
  unfold EM.tick
  split
  · omega
  · split
    · show x.now + 1 ≤ _; omega
    · show x.now + 1 ≤ _; omega
/-- Where a table's schedule stands. -/
theorem find_idx : ∀ (ts : List Tb) (ss : List S25) (id : Int) (y : Tb), ts.map Tb.src = ss.map srcS → findT ts id = some y → ∃ n : Nat, n < ss.length ∧ (ss.getD n z25).f0 = id ∧ (ss.getD n z25).f1 = y.fr ∧ (ss.getD n z25).f2 = y.ws ∧ ∀ j : Nat, j < n → (ss.getD j z25).f0 ≠ id
  | [], ss, id, y, _, h => by cases h
  | t :: ts, [], id, y, hs, h => by cases hs
  | t :: ts, s :: ss, id, y, hs, h => by
    obtain ⟨h1, h2⟩ := List.cons.inj hs
    injection h1 with a1 a2
    injection a2 with a2 a3
    unfold findT at h
    rw [List.find?_cons] at h
    by_cases c : t.id = id
    · have c2 : (t.id == id) = true := by simpa using c
      rw [c2] at h
      obtain rfl := Option.some.inj h
      exact ⟨0, by simp, by show s.f0 = id; rw [← a1]; exact c, by show s.f1 = t.fr; exact a2.symm, by show s.f2 = t.ws; exact a3.symm, fun j hj => absurd hj (Nat.not_lt_zero _)⟩
    · have c2 : (t.id == id) = false := by simpa using c
      rw [c2] at h
      obtain ⟨n, b1, b2, b3, b4, b5⟩ := find_idx ts ss id y h2 h
      refine ⟨n + 1, by simpa using b1, b2, b3, b4, fun j hj => ?_⟩
      match j with
      | 0 => show s.f0 ≠ id; rw [← a1]; exact c
      | j + 1 => exact b5 j (by omega)
theorem word_l0 {id fr : Int} {ws : List S30} {ns : List S87} (hw : Small ws) (h1 : fr ≤ 60) : ∀ (d i k : Nat), i + d = fr.toNat → ws.length + d + 3 ≤ k → countwheelref13_Word.l0 k ((wordT fr ws).take i) (i : Int) id fr ws ns = some (wordT fr ws)
  | 0, i, k, h, hk => by
    obtain ⟨k, rfl⟩ : ∃ m, k = m + 1 := ⟨k - 1, by omega⟩
    simp only [countwheelref13_Word.l0]
    rw [if_neg (by omega), List.take_of_length_le (by rw [wordT_len]; omega)]
  | d + 1, i, k, h, hk => by
    obtain ⟨k, rfl⟩ : ∃ m, k = m + 1 := ⟨k - 1, by omega⟩
    simp only [countwheelref13_Word.l0]
    rw [if_pos (by omega), Tab.owner_is hw k (by omega), Option.bind_some, if_pos (by rw [List.length_take, wordT_len]; omega), if_neg (by omega), Tab.wsucc (by omega), ← wordT_take fr ws i (by omega)]
    exact word_l0 hw h1 d (i + 1) k (by omega) (by omega)
theorem word_is (id fr : Int) (ws : List S30) (ns : List S87) (hw : Small ws) (h1 : fr ≤ 60) : countwheelref13_Word.f (ws.length + fr.toNat + 3) id fr ws ns = some (wordT fr ws) := by
  have := word_l0 (id := id) (fr := fr) (ns := ns) hw h1 fr.toNat 0 (ws.length + fr.toNat + 3) (by omega) (by omega)
  simpa [countwheelref13_Word.f] using this
theorem same_l0 (l : List Int) (hl : Small l) : ∀ (d i k : Nat), i + d = l.length → d + 1 ≤ k → countwheelref10_SameInts.l0 k l l (i : Int) = some true
  | 0, i, k, h, hk => by
    obtain ⟨k, rfl⟩ : ∃ m, k = m + 1 := ⟨k - 1, by omega⟩
    simp only [countwheelref10_SameInts.l0]
    rw [if_neg (by omega)]
  | d + 1, i, k, h, hk => by
    have hl2 := hl
    unfold Small at hl2
    obtain ⟨k, rfl⟩ : ∃ m, k = m + 1 := ⟨k - 1, by omega⟩
    simp only [countwheelref10_SameInts.l0]
    rw [if_pos (by omega), if_pos (by omega), if_pos (by omega), if_pos trivial, Tab.wsucc (by omega)]
    exact same_l0 l hl d (i + 1) k (by omega) (by omega)
theorem same_is (l : List Int) (hl : Small l) : countwheelref10_SameInts.f (l.length + 1) l l = some true := by
  unfold countwheelref10_SameInts.f
  rw [if_pos rfl]
  exact same_l0 l hl l.length 0 (l.length + 1) (by omega) (Nat.le_refl _)
end Go.Proofs.Ytnpjbdaaoknkbaa.Frm

/-! FrameWords: the walk. -/
namespace Go.Proofs.Ytnpjbdaaoknkbaa.Frm
open Go.RowKit Go.Proofs.YtnpjbdaaoknkbaaW.PrintWords Go.Proofs.YtnpjbdaaoknkbaaW.PrintLast Go.Proofs.YtnpjbdaaoknkbaaW.PrintMore Go.Proofs.Ytnpjbdaaoknkbaa.Mine Go.Proofs.Ytnpjbdaaoknkbaa.PTableFrames
open Go.Proofs.Ytnpjbdaaoknkbaa.Sl (SL Stp Chg St No wpc_seal wpc_round sealed MK look)
open Go.Proofs.Ytnpjbdaaoknkbaa.Tab (InT In InA Runs cur_tick cur_owner step_st nextT nextJ rd_mem cursor_st allR allR_is ownW OkW mkR_len grw_len at_run Small SchedIn BadW NewPost new_st WinIn)
set_option linter.unusedVariables false
set_option linter.unusedSimpArgs false
attribute [local go_sem] max2_int min2_int max_two min_two max_three min_three max_four min_four
/-- A call. -/
structure S61 where
  f0 : Bool
  f1 : Int
def z61 : S61 := ⟨false, 0⟩
def k61 : Kd S61 := Kd.iso (Kd.pair (Kd.bool) (Kd.int .i64)) (fun x : S61 => (x.f0, x.f1))
theorem k61_open {w : World} {x : S61} {cs : List Value} (h : k61.K w x cs) : cs = [.bool x.f0, .int .i64 x.f1] := by
  obtain ⟨_, _, rfl, rfl, rfl⟩ := h
  exact rfl
theorem k61_mk (w : World) (x : S61) : k61.K w x [.bool x.f0, .int .i64 x.f1] := ⟨[.bool x.f0], [.int .i64 x.f1], rfl, rfl, rfl⟩
def rd_T61 (xs : List S61) (i : Int) : S61 := xs.getD i.toNat z61
theorem at_T61 {w : World} {A : Option Addr} {n : Nat} {xs : List S61} (h : Kd.C k61 w A n xs) (i : Int) (h0 : 0 ≤ i) (h1 : i < n) : ∃ ad , A = some ad ∧ w.cell? (ad.add (i.toNat * 2)) = some (.bool (rd_T61 xs i).f0) ∧
    w.cell? ⟨(ad.add (i.toNat * 2)).block, (ad.add (i.toNat * 2)).off + 1, none⟩ = some (.int .i64 (rd_T61 xs i).f1) := by
  obtain ⟨ad, c, e, _, hK, hc0⟩ := Kd.C_get h z61 i h0 h1
  have hc : ∀ j u, c[j]? = some u → w.cell? (ad.add (i.toNat * 2 + j)) = some u := hc0
  obtain rfl := k61_open hK
  exact ⟨ad, e, hc 0 _ rfl, by rw [← add_field _ _ 1 (by omega)]; exact hc 1 _ rfl⟩
theorem same_call {w : World} {Ae Aw : Option Addr} {em ws : List Int} {ce : Nat} (he : (Kd.int .i64).C w Ae em.length em) (hce : em.length ≤ ce) (hw : (Kd.int .i64).C w Aw ws.length ws) (hl : em.length ≤ ws.length) (cw : Nat) (hcw : em.length ≤ cw) (h : em = ws.take em.length) :
    Calls Try.prog 34 #[.slice Ae em.length ce, .slice Aw em.length cw] w fun e w' => e = .returned (.bool true) ∧ Drawn0 w w' := by
  have h2 := Kd.C_take hw hl
  rw [← h] at h2
  exact countwheelref10_SameInts.calls _ Ae ce em Aw cw em true w he hce h2 hcw (same_is em he.2.1)
theorem make_now (ts : List Tb) (x : EM) (id : Int) : (x.make ts id).now = x.now := by unfold EM.make; split <;> rfl
theorem Emits.make {ts : List Tb} {x : EM} {em ord : List Int} (E : Emits ts x em ord) (id : Int) : Emits ts (x.make ts id) em ord := by
  unfold EM.make
  split
  · exact ⟨E.ex, E.all⟩
  · exact E
set_option maxHeartbeats 25600000 in
set_option maxRecDepth 100000 in
theorem words_raw (w : World) (A0 : Option Addr) (c0 : Nat) (ss : List S25) (hr0 : Kd.C k25 w A0 ss.length ss) (hc0 : ss.length ≤ c0) (hgs : ∀ s ∈ ss, Small s.f2 ∧ Small s.f3) (AI : Option Addr) (ci : Nat) (ids : List Int) (hri : Kd.C (Kd.int .i64) w AI ids.length ids) (hci : ids.length ≤ ci) (hwf : ∀ s ∈ ss, (Lit.int .i64 s.f0).wf = true)
    (AO : Option Addr) (co : Nat) (os : List S61) (hro : Kd.C k61 w AO os.length os) (hco : os.length ≤ co) (hwo : ∀ o ∈ os, (Lit.int .i64 o.f1).wf = true) :
    Calls Try.prog 5 #[.slice A0 ss.length c0, .slice AI ids.length ci, .slice AO os.length co] w fun e w' => e = .returned (.bool true) ∧ Below w.heap.size w w' := by
  obtain ⟨K_, r, hfew, hfew2⟩ := few_is ss ids hr0.2.1 hri.2.1 hgs
  have HF := Go.Lib.hid hfew
  have HS := Go.Lib.hid (St.start w)
  have HC := Go.Lib.hid hr0
  have HI := Go.Lib.hid hri
  have HO := Go.Lib.hid hro
  have HSM : Hid (Small ids) := Go.Lib.hid hri.2.1
  have HGS := Go.Lib.hid hgs
  have HWF := Go.Lib.hid hwf
  have HWO := Go.Lib.hid hwo
  have hlen : ss.length ≤ 9223372036854775807 := hr0.2.1
  have hleno : os.length ≤ 9223372036854775807 := hro.2.1
  clear hr0 hri hfew hgs hwf hro hwo
  cases r with
  | false =>
    clear hfew2
    go_enter Try.func5, Try.ntmps5
    go_wp2_with (first | (go_at_call 20; refine (countwheellaw18_few.calls K_ A0 c0 ss AI ci ids false _ HC.out hc0 HI.out hci HF.out).mono ?_; rintro e w1 ⟨rfl, hb⟩; replace HS := Go.Lib.hid (HS.out.then_ hb); clear hb) | (go_at_call 21; refine (awake_st HS.out).mono ?_; rintro e wz ⟨rfl, hS⟩; replace HS := Go.Lib.hid hS; clear hS))
    go_ret
    exact ⟨rfl, HS.out.below⟩
  | true =>
    obtain ⟨hl8, hi40, hask⟩ := hfew2 rfl
    have HASK := Go.Lib.hid hask
    clear hfew2 hask
    by_cases hop : os.length ≤ 300
    rotate_left
    · have hop2 : decide (300 < os.length) = true := by simp; omega
      go_enter Try.func5, Try.ntmps5
      go_wp2_with (first | (go_at_call 20; refine (countwheellaw18_few.calls K_ A0 c0 ss AI ci ids true _ HC.out hc0 HI.out hci HF.out).mono ?_; rintro e w1 ⟨rfl, hb⟩; replace HS := Go.Lib.hid (HS.out.then_ hb); clear hb) | (go_at_call 21; refine (awake_st HS.out).mono ?_; rintro e wz ⟨rfl, hS⟩; replace HS := Go.Lib.hid hS; clear hS))
      go_ret
      exact ⟨rfl, HS.out.below⟩
    have hop2 : decide (300 < os.length) = false := by simp; omega
    by_cases hz : ss.length = 0
    · obtain rfl : ss = [] := List.length_eq_zero_iff.1 hz
      go_enter Try.func5, Try.ntmps5
      go_wp2_with (first | (go_at_call 20; refine (countwheellaw18_few.calls K_ A0 c0 [] AI ci ids true _ HC.out hc0 HI.out hci HF.out).mono ?_; rintro e w1 ⟨rfl, hb⟩; replace HS := Go.Lib.hid (HS.out.then_ hb); clear hb) | (go_at_call 21; refine (awake_st HS.out).mono ?_; rintro e wz ⟨rfl, hS⟩; replace HS := Go.Lib.hid hS; clear hS))
      go_ret
      exact ⟨rfl, HS.out.below⟩
    · have hz2 : ((ss.length : Int) == 0) = false := beq_eq_false_iff_ne.2 (by omega)
      have hz3 : 0 < ss.length := by omega
      clear hz
      go_enter Try.func5, Try.ntmps5
      go_wp2_with (first | (go_at_call 20; refine (countwheellaw18_few.calls K_ A0 c0 ss AI ci ids true _ HC.out hc0 HI.out hci HF.out).mono ?_; rintro e w1 ⟨rfl, hb⟩; replace HS := Go.Lib.hid (HS.out.then_ hb); clear hb) | (go_at_call 21; refine (awake_st HS.out).mono ?_; rintro e wz ⟨rfl, hS⟩; replace HS := Go.Lib.hid hS; clear hS))
      go_loopw [43] (fun i wr => ∃ k : Nat, k ≤ ss.length ∧ i = .int .i64 k ∧ Dist ss k ∧ St [] w wr) (fun i _ => ss.length - (intOf i).toNat)
      case atStart => exact ⟨0, Nat.zero_le _, rfl, fun a b _ hb => absurd hb (Nat.not_lt_zero _), HS.out⟩
      case round =>
        clear HS
        obtain ⟨k, hk, rfl, hd, hS⟩ := hrel
        have HS := Go.Lib.hid hS
        have HD := Go.Lib.hid hd
        clear hS hd
        by_cases hlt : k < ss.length
        · go_wp2_with fail
          obtain ⟨wo, hwo⟩ : ∃ wo : World, wo = wr := ⟨_, rfl⟩
          clear hwo
          skip
          go_loopw [47] (fun i wr => ∃ m : Nat, m ≤ k ∧ i = .int .i64 m ∧ (∀ a : Nat, a < m → (ss.getD a z25).f0 ≠ (ss.getD k z25).f0) ∧ St [] w wr) (fun i _ => k - (intOf i).toNat)
          case atStart => exact ⟨0, Nat.zero_le _, rfl, fun a ha => absurd ha (Nat.not_lt_zero _), HS.out⟩
          case round =>
            clear HS
            obtain ⟨m, hm, rfl, hne, hS⟩ := hrel
            have HS := Go.Lib.hid hS
            have HNE := Go.Lib.hid hne
            clear hS hne
            by_cases hmk : m < k
            · obtain ⟨ad, rfl, g0⟩ := cell_id HC.out k hlt
              obtain ⟨ad2, hae, g1⟩ := cell_id HC.out m (by omega)
              obtain rfl := Option.some.inj hae
              clear hae
              have HNX : Hid ((ss.getD m z25).f0 ≠ (ss.getD k z25).f0 → ∀ a : Nat, a < m + 1 → (ss.getD a z25).f0 ≠ (ss.getD k z25).f0) := Go.Lib.hid (ne_next HNE.out)
              have hml : m < ss.length := by omega
              generalize (ss.getD k z25).f0 = u at g0 HNX
              generalize (ss.getD m z25).f0 = v at g1 HNX
              cases huv : (u == v)
              · have HN2 := Go.Lib.hid (HNX.out (by intro e2; simp [e2] at huv))
                replace HS := Go.Lib.hid HS.out.drew
                go_upto_region 9 with (fail)
                refine start_ (n := 11) (S := fun w' => w'.cell? (ad.add (k * 4)) = some (.int .i64 u) ∧ w'.cell? (ad.add (m * 4)) = some (.int .i64 v)) (ds := []) #[false, false, false, false, false, false, false, false, false, false, false] (by kernel_rfl) rfl rfl ⟨HS.out.old g0, HS.out.old g1⟩ (fun hHeld => ?_)
                generalize wr.drew = W_ at *
                refine pure_ (i := 0) (N := some 50) (v := ?_) (a' := ?_) #[true, false, false, false, false, false, false, false, false, false, false] rfl rfl (by kernel_rfl) (fun _ _ _ h => h) (Or.inl ⟨by rfl, ?_⟩) ?_ ?_
                rotate_left
                · intro w'
                  go_simp
                  with_reducible rfl
                rotate_left
                · simp only [Act.put, List.setIfInBounds_toArray, List.set_cons_zero, List.set_cons_succ, i64_w, i32_w]
                  rfl
                refine pure_ (i := 1) (N := some 51) (v := ?_) (a' := ?_) #[true, true, false, false, false, false, false, false, false, false, false] rfl rfl (by kernel_rfl) (fun _ _ _ h => h) (Or.inl ⟨by rfl, ?_⟩) ?_ ?_
                rotate_left
                · intro w'
                  go_simp
                  with_reducible rfl
                rotate_left
                · simp only [Act.put, List.setIfInBounds_toArray, List.set_cons_zero, List.set_cons_succ, i64_w, i32_w]
                  rfl
                refine pure_ (i := 2) (N := some 52) (v := ?_) (a' := ?_) #[true, true, true, false, false, false, false, false, false, false, false] rfl rfl (by kernel_rfl) (fun _ _ _ h => h) (Or.inl ⟨by rfl, ?_⟩) ?_ ?_
                rotate_left
                · intro w'
                  go_simp
                  with_reducible rfl
                rotate_left
                · simp only [Act.put, List.setIfInBounds_toArray, List.set_cons_zero, List.set_cons_succ, i64_w, i32_w]
                  rfl
                refine pure_ (i := 3) (N := some 53) (v := ?_) (a' := ?_) #[true, true, true, true, false, false, false, false, false, false, false] rfl rfl (by kernel_rfl) (fun _ _ _ h => h) (Or.inl ⟨by rfl, ?_⟩) ?_ ?_
                rotate_left
                · intro w'
                  go_simp
                  with_reducible rfl
                rotate_left
                · simp only [Act.put, List.setIfInBounds_toArray, List.set_cons_zero, List.set_cons_succ, i64_w, i32_w]
                  rfl
                refine pure_ (i := 5) (N := some 55) (v := ?_) (a' := ?_) #[true, true, true, true, false, true, false, false, false, false, false] rfl rfl (by kernel_rfl) (fun _ _ _ h => h) (Or.inl ⟨by rfl, ?_⟩) ?_ ?_
                rotate_left
                · intro w'
                  go_simp
                  with_reducible rfl
                rotate_left
                · simp only [Act.put, List.setIfInBounds_toArray, List.set_cons_zero, List.set_cons_succ, i64_w, i32_w]
                  rfl
                refine pure_ (i := 6) (N := some 56) (v := ?_) (a' := ?_) #[true, true, true, true, false, true, true, false, false, false, false] rfl rfl (by kernel_rfl) (fun _ _ _ h => h) (Or.inl ⟨by rfl, ?_⟩) ?_ ?_
                rotate_left
                · intro w'
                  go_simp
                  with_reducible rfl
                rotate_left
                · simp only [Act.put, List.setIfInBounds_toArray, List.set_cons_zero, List.set_cons_succ, i64_w, i32_w]
                  rfl
                refine pure_ (i := 7) (N := some 57) (v := ?_) (a' := ?_) #[true, true, true, true, false, true, true, true, false, false, false] rfl rfl (by kernel_rfl) (fun _ _ _ h => h) (Or.inl ⟨by rfl, ?_⟩) ?_ ?_
                rotate_left
                · intro w'
                  go_simp
                  with_reducible rfl
                rotate_left
                · simp only [Act.put, List.setIfInBounds_toArray, List.set_cons_zero, List.set_cons_succ, i64_w, i32_w]
                  rfl
                refine pure_ (i := 8) (N := some 58) (v := ?_) (a' := ?_) #[true, true, true, true, false, true, true, true, true, false, false] rfl rfl (by kernel_rfl) (fun _ _ _ h => h) (Or.inl ⟨by rfl, ?_⟩) ?_ ?_
                rotate_left
                · intro w'
                  go_simp
                  with_reducible rfl
                rotate_left
                · simp only [Act.put, List.setIfInBounds_toArray, List.set_cons_zero, List.set_cons_succ, i64_w, i32_w]
                  rfl
                refine take_ (i := 4) (N := some 54) (v := ?_) (a' := ?_) #[true, true, true, true, true, true, true, true, true, false, false] rfl rfl (by kernel_rfl) (fun _ _ _ h => h) (Or.inl ⟨by rfl, ?_⟩) hHeld ?_ ?_
                rotate_left
                · rintro w' ⟨s0, s1⟩
                  go_simp
                  with_reducible rfl
                rotate_left
                · simp only [Act.put, List.setIfInBounds_toArray, List.set_cons_zero, List.set_cons_succ, i64_w, i32_w]
                  rfl
                refine take_ (i := 9) (N := some 59) (v := ?_) (a' := ?_) #[true, true, true, true, true, true, true, true, true, true, false] rfl rfl (by kernel_rfl) (fun _ _ _ h => h) (Or.inl ⟨by rfl, ?_⟩) hHeld ?_ ?_
                rotate_left
                · rintro w' ⟨s0, s1⟩
                  go_simp
                  with_reducible rfl
                rotate_left
                · simp only [Act.put, List.setIfInBounds_toArray, List.set_cons_zero, List.set_cons_succ, i64_w, i32_w]
                  rfl
                refine pure_ (i := 10) (N := some 60) (v := ?_) (a' := ?_) #[true, true, true, true, true, true, true, true, true, true, true] rfl rfl (by kernel_rfl) (fun _ _ _ h => h) (Or.inl ⟨by rfl, ?_⟩) ?_ ?_
                rotate_left
                · intro w'
                  go_simp
                  with_reducible rfl
                rotate_left
                · simp only [Act.put, List.setIfInBounds_toArray, List.set_cons_zero, List.set_cons_succ, i64_w, i32_w]
                  rfl
                refine done_ (by kernel_rfl) ?_
                go_wp2_with fail
                go_roundw
                case rel => exact ⟨m + 1, hmk, rfl, HN2.out, HS.out⟩
                case measure => simp [intOf]; omega
              · replace HS := Go.Lib.hid HS.out.drew
                go_upto_region 9 with (fail)
                refine start_ (n := 11) (S := fun w' => w'.cell? (ad.add (k * 4)) = some (.int .i64 u) ∧ w'.cell? (ad.add (m * 4)) = some (.int .i64 v)) (ds := []) #[false, false, false, false, false, false, false, false, false, false, false] (by kernel_rfl) rfl rfl ⟨HS.out.old g0, HS.out.old g1⟩ (fun hHeld => ?_)
                generalize wr.drew = W_ at *
                refine pure_ (i := 0) (N := some 50) (v := ?_) (a' := ?_) #[true, false, false, false, false, false, false, false, false, false, false] rfl rfl (by kernel_rfl) (fun _ _ _ h => h) (Or.inl ⟨by rfl, ?_⟩) ?_ ?_
                rotate_left
                · intro w'
                  go_simp
                  with_reducible rfl
                rotate_left
                · simp only [Act.put, List.setIfInBounds_toArray, List.set_cons_zero, List.set_cons_succ, i64_w, i32_w]
                  rfl
                refine pure_ (i := 1) (N := some 51) (v := ?_) (a' := ?_) #[true, true, false, false, false, false, false, false, false, false, false] rfl rfl (by kernel_rfl) (fun _ _ _ h => h) (Or.inl ⟨by rfl, ?_⟩) ?_ ?_
                rotate_left
                · intro w'
                  go_simp
                  with_reducible rfl
                rotate_left
                · simp only [Act.put, List.setIfInBounds_toArray, List.set_cons_zero, List.set_cons_succ, i64_w, i32_w]
                  rfl
                refine pure_ (i := 2) (N := some 52) (v := ?_) (a' := ?_) #[true, true, true, false, false, false, false, false, false, false, false] rfl rfl (by kernel_rfl) (fun _ _ _ h => h) (Or.inl ⟨by rfl, ?_⟩) ?_ ?_
                rotate_left
                · intro w'
                  go_simp
                  with_reducible rfl
                rotate_left
                · simp only [Act.put, List.setIfInBounds_toArray, List.set_cons_zero, List.set_cons_succ, i64_w, i32_w]
                  rfl
                refine pure_ (i := 3) (N := some 53) (v := ?_) (a' := ?_) #[true, true, true, true, false, false, false, false, false, false, false] rfl rfl (by kernel_rfl) (fun _ _ _ h => h) (Or.inl ⟨by rfl, ?_⟩) ?_ ?_
                rotate_left
                · intro w'
                  go_simp
                  with_reducible rfl
                rotate_left
                · simp only [Act.put, List.setIfInBounds_toArray, List.set_cons_zero, List.set_cons_succ, i64_w, i32_w]
                  rfl
                refine pure_ (i := 5) (N := some 55) (v := ?_) (a' := ?_) #[true, true, true, true, false, true, false, false, false, false, false] rfl rfl (by kernel_rfl) (fun _ _ _ h => h) (Or.inl ⟨by rfl, ?_⟩) ?_ ?_
                rotate_left
                · intro w'
                  go_simp
                  with_reducible rfl
                rotate_left
                · simp only [Act.put, List.setIfInBounds_toArray, List.set_cons_zero, List.set_cons_succ, i64_w, i32_w]
                  rfl
                refine pure_ (i := 6) (N := some 56) (v := ?_) (a' := ?_) #[true, true, true, true, false, true, true, false, false, false, false] rfl rfl (by kernel_rfl) (fun _ _ _ h => h) (Or.inl ⟨by rfl, ?_⟩) ?_ ?_
                rotate_left
                · intro w'
                  go_simp
                  with_reducible rfl
                rotate_left
                · simp only [Act.put, List.setIfInBounds_toArray, List.set_cons_zero, List.set_cons_succ, i64_w, i32_w]
                  rfl
                refine pure_ (i := 7) (N := some 57) (v := ?_) (a' := ?_) #[true, true, true, true, false, true, true, true, false, false, false] rfl rfl (by kernel_rfl) (fun _ _ _ h => h) (Or.inl ⟨by rfl, ?_⟩) ?_ ?_
                rotate_left
                · intro w'
                  go_simp
                  with_reducible rfl
                rotate_left
                · simp only [Act.put, List.setIfInBounds_toArray, List.set_cons_zero, List.set_cons_succ, i64_w, i32_w]
                  rfl
                refine pure_ (i := 8) (N := some 58) (v := ?_) (a' := ?_) #[true, true, true, true, false, true, true, true, true, false, false] rfl rfl (by kernel_rfl) (fun _ _ _ h => h) (Or.inl ⟨by rfl, ?_⟩) ?_ ?_
                rotate_left
                · intro w'
                  go_simp
                  with_reducible rfl
                rotate_left
                · simp only [Act.put, List.setIfInBounds_toArray, List.set_cons_zero, List.set_cons_succ, i64_w, i32_w]
                  rfl
                refine take_ (i := 4) (N := some 54) (v := ?_) (a' := ?_) #[true, true, true, true, true, true, true, true, true, false, false] rfl rfl (by kernel_rfl) (fun _ _ _ h => h) (Or.inl ⟨by rfl, ?_⟩) hHeld ?_ ?_
                rotate_left
                · rintro w' ⟨s0, s1⟩
                  go_simp
                  with_reducible rfl
                rotate_left
                · simp only [Act.put, List.setIfInBounds_toArray, List.set_cons_zero, List.set_cons_succ, i64_w, i32_w]
                  rfl
                refine take_ (i := 9) (N := some 59) (v := ?_) (a' := ?_) #[true, true, true, true, true, true, true, true, true, true, false] rfl rfl (by kernel_rfl) (fun _ _ _ h => h) (Or.inl ⟨by rfl, ?_⟩) hHeld ?_ ?_
                rotate_left
                · rintro w' ⟨s0, s1⟩
                  go_simp
                  with_reducible rfl
                rotate_left
                · simp only [Act.put, List.setIfInBounds_toArray, List.set_cons_zero, List.set_cons_succ, i64_w, i32_w]
                  rfl
                refine pure_ (i := 10) (N := some 60) (v := ?_) (a' := ?_) #[true, true, true, true, true, true, true, true, true, true, true] rfl rfl (by kernel_rfl) (fun _ _ _ h => h) (Or.inl ⟨by rfl, ?_⟩) ?_ ?_
                rotate_left
                · intro w'
                  go_simp
                  with_reducible rfl
                rotate_left
                · simp only [Act.put, List.setIfInBounds_toArray, List.set_cons_zero, List.set_cons_succ, i64_w, i32_w]
                  rfl
                refine done_ (by kernel_rfl) ?_
                go_wp2_with (go_at_call 21; refine (awake_st HS.out).mono ?_; rintro e wz ⟨rfl, hS⟩; replace HS := Go.Lib.hid hS; clear hS)
                go_ret
                exact ⟨rfl, HS.out.below⟩
            · obtain rfl : m = k := by omega
              have HD2 := Go.Lib.hid (dist_next HD.out HNE.out)
              go_wp2_with fail
              go_roundw
              case rel => exact ⟨m + 1, hlt, rfl, HD2.out, HS.out⟩
              case measure => simp [intOf]; omega
        · obtain rfl : k = ss.length := by omega
          clear hk hlt
          obtain ⟨ad, rfl, g0⟩ := cell_id HC.out 0 hz3
          have HWU : Hid ((Lit.int .i64 (ss.getD 0 z25).f0).wf = true) := Go.Lib.hid (HWF.out _ (by rw [List.getD_eq_getElem?_getD, List.getElem?_eq_getElem hz3]; exact List.getElem_mem hz3))
          obtain ⟨u, hu⟩ : ∃ u, u = (ss.getD 0 z25).f0 := ⟨_, rfl⟩
          rw [← hu] at g0 HWU
          have HU0 := Go.Lib.hid hu
          clear hu
          rw [Nat.zero_mul] at g0
          have had : ad.add 0 = ad := by cases ad; simp [Addr.add]
          rw [had] at g0
          clear had
          go_upto_region 13 with (fail)
          replace HS := Go.Lib.hid HS.out.drew
          refine start_ (n := 13) (S := fun w' => w'.cell? ad = some (.int .i64 u)) (ds := []) #[false, false, false, false, false, false, false, false, false, false, false, false, false] (by kernel_rfl) rfl rfl (HS.out.old g0) (fun hHeld => ?_)
          generalize wr.drew = W_ at *
          refine pure_ (i := 0) (N := some 65) (v := ?_) (a' := ?_) #[true, false, false, false, false, false, false, false, false, false, false, false, false] rfl rfl (by kernel_rfl) (fun _ _ _ h => h) (Or.inl ⟨by rfl, ?_⟩) ?_ ?_
          rotate_left
          · intro w'
            go_simp
            with_reducible rfl
          rotate_left
          · simp only [Act.put, List.setIfInBounds_toArray, List.set_cons_zero, List.set_cons_succ, i64_w, i32_w]
            rfl
          refine pure_ (i := 1) (N := some 66) (v := ?_) (a' := ?_) #[true, true, false, false, false, false, false, false, false, false, false, false, false] rfl rfl (by kernel_rfl) (fun _ _ _ h => h) (Or.inl ⟨by rfl, ?_⟩) ?_ ?_
          rotate_left
          · intro w'
            go_simp
            with_reducible rfl
          rotate_left
          · simp only [Act.put, List.setIfInBounds_toArray, List.set_cons_zero, List.set_cons_succ, i64_w, i32_w]
            rfl
          refine pure_ (i := 3) (N := some 68) (v := ?_) (a' := ?_) #[true, true, false, true, false, false, false, false, false, false, false, false, false] rfl rfl (by kernel_rfl) (fun _ _ _ h => h) (Or.inl ⟨by rfl, ?_⟩) ?_ ?_
          rotate_left
          · intro w'
            go_simp
            with_reducible rfl
          rotate_left
          · simp only [Act.put, List.setIfInBounds_toArray, List.set_cons_zero, List.set_cons_succ, i64_w, i32_w]
            rfl
          refine pure_ (i := 4) (N := some 69) (v := ?_) (a' := ?_) #[true, true, false, true, true, false, false, false, false, false, false, false, false] rfl rfl (by kernel_rfl) (fun _ _ _ h => h) (Or.inl ⟨by rfl, ?_⟩) ?_ ?_
          rotate_left
          · intro w'
            go_simp
            with_reducible rfl
          rotate_left
          · simp only [Act.put, List.setIfInBounds_toArray, List.set_cons_zero, List.set_cons_succ, i64_w, i32_w]
            rfl
          refine pure_ (i := 5) (N := some 70) (v := ?_) (a' := ?_) #[true, true, false, true, true, true, false, false, false, false, false, false, false] rfl rfl (by kernel_rfl) (fun _ _ _ h => h) (Or.inl ⟨by rfl, ?_⟩) ?_ ?_
          rotate_left
          · intro w'
            go_simp
            with_reducible rfl
          rotate_left
          · simp only [Act.put, List.setIfInBounds_toArray, List.set_cons_zero, List.set_cons_succ, i64_w, i32_w]
            rfl
          refine take_ (i := 6) (N := some 71) (v := ?_) (a' := ?_) #[true, true, false, true, true, true, true, false, false, false, false, false, false] rfl rfl (by kernel_rfl) (fun _ _ _ h => h) (Or.inl ⟨by rfl, ?_⟩) hHeld ?_ ?_
          rotate_left
          · rintro w' s0
            go_simp
            with_reducible rfl
          rotate_left
          · simp only [Act.put, List.setIfInBounds_toArray, List.set_cons_zero, List.set_cons_succ, i64_w, i32_w]
            rfl
          refine one_ (i := 2) (N := some 67) #[true, true, true, true, true, true, true, false, false, false, false, false, false] rfl rfl (by kernel_rfl) (by decide) (fun K hK => ?_)
          refine goes_ Try.func23 (by kernel_rfl) rfl #[.slice (some ad) ss.length c0, .slice AI ids.length ci] (by rfl) rfl rfl (by (try simp only [List.map_toArray, List.map_cons, List.map_nil]); first | done | rfl) ?_
          refine (tables_st HS.out (some ad) c0 ss AI ci ids (scheds_arg HC.out) (fun lx w1 h1 => h1.C HI.out) hci HSM.out HASK.out hl8).mono ?_
          rintro e w2 ⟨ts, gs, A, c, rfl, hgs, hsrc, hok, hS⟩
          replace HS := Go.Lib.hid hS
          have HG := Go.Lib.hid hgs
          have HSRC := Go.Lib.hid hsrc
          have hT : Tabs (SL.row KP 31 (.slice A gs.length c) gs :: (tabL ts ++ [])) ts := (tabs_of hok _).cons _
          have HT := Go.Lib.hid hT
          have hnd := dist_nodup HD.out hsrc
          have HM := Go.Lib.hid (maps_of ts hnd)
          have HU := Go.Lib.hid (uniq_of ts hnd)
          have HND := Go.Lib.hid hnd
          have htl : ts.length ≤ 100000 := by rw [← List.length_map (f := Tb.src), hsrc, List.length_map]; omega
          obtain ⟨y0, hy0⟩ := first_in hsrc hz3
          have HY0 := Go.Lib.hid hy0
          clear hS hgs hsrc hok hT hnd hy0
          refine ⟨_, rfl, ?_⟩
          refine hK.out _ _ (HS.out.old g0) (fun hHeld => ?_)
          clear hK K
          refine norm_ (a' := ?_) ?_ ?_
          rotate_left
          · show Act.put _ (some 67) _ = _
            simp only [Act.put, List.setIfInBounds_toArray, List.set_cons_zero, List.set_cons_succ, i64_w, i32_w]
            rfl
          refine one_ (i := 7) (N := some 72) #[true, true, true, true, true, true, true, true, false, false, false, false, false] rfl rfl (by kernel_rfl) (by decide) (fun K hK => ?_)
          refine goes_ Try.func22 (by kernel_rfl) rfl #[.slice A gs.length c, .int .i64 u, .int .u64 0] (by rfl) rfl rfl (by (try simp only [List.map_toArray, List.map_cons, List.map_nil]); first | done | rfl) ?_
          refine (eng_new A c ts gs 0 rfl HS.out HG.out HT.out htl u 0 HWU.out).mono ?_
          rintro e w3 (⟨ge, gk, bm, y, _, hy, rfl, hE⟩ | ⟨hn, _⟩ | ⟨_, hn, _⟩)
          rotate_left
          · exact absurd HND.out hn
          · rw [HU0.out, HY0.out] at hn; cases hn
          rw [HU0.out, HY0.out] at hy
          obtain rfl := Option.some.inj hy
          have hy1 := findT_mem HY0.out
          have hy2 := (HT.out.ok _ hy1.1).lo
          have hG : Good ts ⟨y0, u, 0, 0, 0⟩ := ⟨hy1.1, Int.le_refl 0, by show 0 < y0.fr; omega, ⟨y0, by show findT ts u = _; rw [HU0.out, HY0.out]⟩, Int.le_refl 0, by show (0 : Int) ≤ 18446744073709551615; decide, Int.le_refl 0, Int.le_refl 0⟩
          have HEM := Go.Lib.hid (Emits.start (ts := ts) (y := y0) (u := u) (e := 0) (by rw [HU0.out]; exact HY0.out))
          have HG0 := Go.Lib.hid hG
          have HE := Go.Lib.hid hE
          clear hG hE hy hy1 hy2
          refine ⟨_, rfl, ?_⟩
          refine hK.out _ _ (HE.out.st.old g0) (fun hHeld => ?_)
          clear hK K
          refine norm_ (a' := ?_) ?_ ?_
          rotate_left
          · show Act.put _ (some 72) _ = _
            simp only [Act.put, List.setIfInBounds_toArray, List.set_cons_zero, List.set_cons_succ, i64_w, i32_w]
            rfl
          refine pure_ (i := 8) (N := some 64) (v := ?_) (a' := ?_) #[true, true, true, true, true, true, true, true, true, false, false, false, false] rfl rfl (by kernel_rfl) (fun _ _ _ h => h) (Or.inl ⟨by rfl, ?_⟩) ?_ ?_
          rotate_left
          · intro w'
            go_simp
            with_reducible rfl
          rotate_left
          · simp only [Act.put, List.setIfInBounds_toArray, List.set_cons_zero, List.set_cons_succ, i64_w, i32_w]
            rfl
          refine pure_ (i := 9) (N := some 73) (v := ?_) (a' := ?_) #[true, true, true, true, true, true, true, true, true, true, false, false, false] rfl rfl (by kernel_rfl) (fun _ _ _ h => h) (Or.inl ⟨by rfl, ?_⟩) ?_ ?_
          rotate_left
          · intro w'
            go_simp
            with_reducible rfl
          rotate_left
          · simp only [Act.put, List.setIfInBounds_toArray, List.set_cons_zero, List.set_cons_succ, i64_w, i32_w]
            rfl
          refine pure_ (i := 10) (N := some 74) (v := ?_) (a' := ?_) #[true, true, true, true, true, true, true, true, true, true, true, false, false] rfl rfl (by kernel_rfl) (fun _ _ _ h => h) (Or.inl ⟨by rfl, ?_⟩) ?_ ?_
          rotate_left
          · intro w'
            go_simp
            with_reducible rfl
          rotate_left
          · simp only [Act.put, List.setIfInBounds_toArray, List.set_cons_zero, List.set_cons_succ, i64_w, i32_w]
            rfl
          refine pure_ (i := 11) (N := some 9) (v := ?_) (a' := ?_) #[true, true, true, true, true, true, true, true, true, true, true, true, false] rfl rfl (by kernel_rfl) (fun _ _ _ h => h) (Or.inl ⟨by rfl, ?_⟩) ?_ ?_
          rotate_left
          · intro w'
            go_simp
            with_reducible rfl
          rotate_left
          · simp only [Act.put, List.setIfInBounds_toArray, List.set_cons_zero, List.set_cons_succ, i64_w, i32_w]
            rfl
          refine pure_ (i := 12) (N := some 10) (v := ?_) (a' := ?_) #[true, true, true, true, true, true, true, true, true, true, true, true, true] rfl rfl (by kernel_rfl) (fun _ _ _ h => h) (Or.inl ⟨by rfl, ?_⟩) ?_ ?_
          rotate_left
          · intro w'
            go_simp
            with_reducible rfl
          rotate_left
          · simp only [Act.put, List.setIfInBounds_toArray, List.set_cons_zero, List.set_cons_succ, i64_w, i32_w]
            rfl
          refine done_ (by kernel_rfl) ?_
          clear g0
          clear HS
          obtain ⟨gc, j, hi, hS⟩ := HE.out
          have HIN := Go.Lib.hid hi
          have HS := Go.Lib.hid hS
          clear hi hS HE
          obtain ⟨ad3, hae, g0⟩ := cell_id HC.out 0 hz3
          obtain rfl := Option.some.inj hae
          clear hae
          rw [Nat.zero_mul, ← HU0.out] at g0
          have had : ad.add 0 = ad := by cases ad; simp [Addr.add]
          rw [had] at g0
          clear had
          replace g0 := HS.out.old g0
          go_wp2_with (first | ((with_reducible refine gate_dst (N := 85) rfl ?_); refine Sl.lit_st (Kd.int .i64) (flat_int .i64) HS.out 3 (by rfl) (xs := [u]) (inner := [.int .i64 u]) ?hr ?hp ?hm ?_; (case hr => first | (go_simp; done) | (go_simp; rfl)); (case hp => exact Kd.reps_scalar [u]); (case hm => first | decide | (simp; done)); intro v85_ w31_ HSn; obtain ⟨Ao, co2, hv85, _⟩ := HSn.rowC 0 rfl; subst hv85; replace HS : Hid (St (SL.row (Kd.int .i64) 3 (.slice Ao ([u] : List Int).length co2) [u] :: SL.blk ge 108 #[.map (some bm), .pointer (some ⟨gc, 0, none⟩), .int .i64 (EM.mk y0 u 0 0 0).due, .pointer (some ⟨gk, 0, none⟩), .int .u64 (EM.mk y0 u 0 0 0).frames] :: SL.map KI bm (mapOf ts) :: SL.blk gk 132 #[.int .u64 (EM.mk y0 u 0 0 0).now] :: SL.blk gc 100 #[.pointer (some ⟨(EM.mk y0 u 0 0 0).cur.g, 0, none⟩), .int .i64 (EM.mk y0 u 0 0 0).t, .int .i64 ((j : Nat) : Int)] :: SL.row KP 31 (.slice A gs.length c) gs :: (tabL ts ++ [])) w w31_) := Go.Lib.hid HSn; clear HSn))
          clear g0
          replace HS := Go.Lib.hid (HS.out.nilrow (Kd.int .i64) 3)
          have hE : EngSt (SL.row (Kd.int .i64) 3 (.slice none ([] : List Int).length 0) [] :: SL.row (Kd.int .i64) 3 (.slice Ao ([u] : List Int).length co2) [u] :: SL.row KP 31 (.slice A gs.length c) gs :: (tabL ts ++ [])) ge gk bm (mapOf ts) ⟨y0, u, 0, 0, 0⟩ w w31_ := ⟨gc, j, HIN.out, (((HS.out.front 5 _ rfl).front 5 _ rfl).front 5 _ rfl).front 5 _ rfl⟩
          have HE := Go.Lib.hid hE
          clear hE HS HIN
          go_loopw [11, 12, 88] (fun a b i wr => ∃ (k : Nat) (x : EM) (em ord : List Int) (Ae : Option Addr) (ce : Nat) (Ao : Option Addr) (co2 : Nat), k ≤ os.length ∧ a = .slice Ae em.length ce ∧ b = .slice Ao ord.length co2 ∧ i = .int .i64 k ∧ Good ts x ∧ x.now ≤ k ∧ em.length ≤ k ∧ ord.length ≤ k + 1 ∧ Emits ts x em ord ∧ EngSt (SL.row (Kd.int .i64) 3 (.slice Ae em.length ce) em :: SL.row (Kd.int .i64) 3 (.slice Ao ord.length co2) ord :: SL.row KP 31 (.slice A gs.length c) gs :: (tabL ts ++ [])) ge gk bm (mapOf ts) x w wr) (fun _ _ i _ => os.length - (intOf i).toNat)
          case atStart => exact ⟨0, _, [], [u], none, 0, Ao, co2, Nat.zero_le _, rfl, rfl, rfl, HG0.out, Int.le_refl 0, Nat.zero_le _, Nat.le_refl _, HEM.out, HE.out⟩
          case round =>
            clear HE HG0 HEM
            obtain ⟨k, x, em, ord, Ae, ce, Ao, co2, hk, rfl, rfl, rfl, hG, hnow, hel, hol, hem, hE⟩ := hrel
            have HE := Go.Lib.hid hE
            have HG0 := Go.Lib.hid hG
            have HEM := Go.Lib.hid hem
            have HT2 := Go.Lib.hid ((HT.out.cons (SL.row (Kd.int .i64) 3 (.slice Ao ord.length co2) ord)).cons (SL.row (Kd.int .i64) 3 (.slice Ae em.length ce) em))
            have HNOW := Go.Lib.hid hnow
            clear hE hG hem hnow
            by_cases hlt : k < os.length
            · obtain ⟨ad4, rfl, o0, o1⟩ := at_T61 HO.out (k : Int) (by omega) (by omega)
              have HWX : Hid ((Lit.int .i64 (rd_T61 os (k : Int)).f1).wf = true) := Go.Lib.hid (HWO.out _ (by unfold rd_T61; rw [Int.toNat_natCast, List.getD_eq_getElem?_getD, List.getElem?_eq_getElem hlt]; exact List.getElem_mem hlt))
              rw [Int.toNat_natCast] at o0 o1
              generalize rd_T61 os (k : Int) = z at *
              obtain ⟨zm, zi⟩ := z
              obtain ⟨gc, j, hi, hS⟩ := HE.out
              have HIN := Go.Lib.hid hi
              have HS := Go.Lib.hid hS
              replace o0 := HS.out.old o0
              replace o1 := HS.out.old o1
              clear hi hS HE
              skip
              skip
              cases zm with
              | true =>
                have HSx := HS
                go_wp2_with (first | ((with_reducible refine gate_dst (N := 14) rfl ?_); refine Sl.box_st HS.out (by rfl) (cs := #[.bool false, .int .i64 0]) (t := 61) ?hr ?_; (case hr => first | (go_simp; done) | (go_simp; rfl)); intro g14 w51_ HSn HBn; clear HBn; replace HS : Hid (St (SL.blk g14 61 #[.bool false, .int .i64 0] :: SL.blk ge 108 #[.map (some bm), .pointer (some ⟨gc, 0, none⟩), .int .i64 x.due, .pointer (some ⟨gk, 0, none⟩), .int .u64 x.frames] :: SL.map KI bm (mapOf ts) :: SL.blk gk 132 #[.int .u64 x.now] :: SL.blk gc 100 #[.pointer (some ⟨x.cur.g, 0, none⟩), .int .i64 x.t, .int .i64 ((j : Nat) : Int)] :: SL.row (Kd.int .i64) 3 (.slice Ae em.length ce) em :: SL.row (Kd.int .i64) 3 (.slice Ao ord.length co2) ord :: SL.row KP 31 (.slice A gs.length c) gs :: (tabL ts ++ [])) w w51_) := Go.Lib.hid HSn; clear HSn; obtain ⟨c0_0, c0_1⟩ := HS.out.c2 0 _ _ _ _ rfl) | ((with_reducible refine gate_store (p := 14) rfl ?_); refine Sl.storeAll_st HS.out 0 g14 61 _ rfl [.bool true, .int .i64 zi] rfl (by rfl) (by rfl) ?hr ?_; (case hr => have f_ := HS.out.f2 0 _ _ _ _ rfl; (try obtain ⟨f0, f1⟩ := f_); first | (go_simp; done) | (go_simp; rfl)); intro w52_ HSn; replace HS : Hid (St (SL.blk g14 61 #[.bool true, .int .i64 zi] :: SL.blk ge 108 #[.map (some bm), .pointer (some ⟨gc, 0, none⟩), .int .i64 x.due, .pointer (some ⟨gk, 0, none⟩), .int .u64 x.frames] :: SL.map KI bm (mapOf ts) :: SL.blk gk 132 #[.int .u64 x.now] :: SL.blk gc 100 #[.pointer (some ⟨x.cur.g, 0, none⟩), .int .i64 x.t, .int .i64 ((j : Nat) : Int)] :: SL.row (Kd.int .i64) 3 (.slice Ae em.length ce) em :: SL.row (Kd.int .i64) 3 (.slice Ao ord.length co2) ord :: SL.row KP 31 (.slice A gs.length c) gs :: (tabL ts ++ [])) w w52_) := Go.Lib.hid HSn; clear HSn; clear c0_0 c0_1; obtain ⟨c0_0, c0_1⟩ := HS.out.c2 0 _ _ _ _ rfl) | (go_at_call 30; have hE_ : EngSt (SL.blk g14 61 #[.bool true, .int .i64 zi] :: SL.row (Kd.int .i64) 3 (.slice Ae em.length ce) em :: SL.row (Kd.int .i64) 3 (.slice Ao ord.length co2) ord :: SL.row KP 31 (.slice A gs.length c) gs :: (tabL ts ++ [])) ge gk bm (mapOf ts) x w w52_ := ⟨gc, j, HIN.out, (((HS.out.front 4 _ rfl).front 4 _ rfl).front 4 _ rfl).front 4 _ rfl⟩; refine (e_make hE_ HM.out zi HWX.out).mono ?_; clear hE_; rintro e w60_ ⟨rfl, hE⟩; have HE := Go.Lib.hid hE; clear hE))
                skip
                obtain ⟨gc2, j2, hi2, hS2⟩ := HE.out
                have HE2 : Hid (EngSt (SL.row (Kd.int .i64) 3 (.slice Ae em.length ce) em :: SL.row (Kd.int .i64) 3 (.slice Ao ord.length co2) ord :: SL.row KP 31 (.slice A gs.length c) gs :: (tabL ts ++ [])) ge gk bm (mapOf ts) (x.make ts zi) w w60_) := Go.Lib.hid ⟨gc2, j2, hi2, hS2.erase 4⟩
                clear hi2 hS2
                have HEM2 : Hid (Emits ts (x.make ts zi) em ord) := Go.Lib.hid (HEM.out.make zi)
                have HNW2 : Hid ((x.make ts zi).now ≤ (k + 1 : Nat)) := Go.Lib.hid (by rw [make_now]; have := HNOW.out; omega)
                go_roundw
                case rel => exact ⟨k + 1, x.make ts zi, em, ord, Ae, ce, Ao, co2, hlt, rfl, rfl, by go_num, HG0.out.make zi, HNW2.out, by omega, by omega, HEM2.out, HE2.out⟩
                case measure => simp [intOf]; omega
              | false =>
                have HSx := HS
                have HLV : Hid (x.live = true) := Go.Lib.hid (live_yes (by have := HNOW.out; omega))
                skip
                cases hb : x.bnd with
                | false =>
                  have HB := Go.Lib.hid hb
                  clear hb
                  go_wp2_with (first | ((with_reducible refine gate_dst (N := 14) rfl ?_); refine Sl.box_st HS.out (by rfl) (cs := #[.bool false, .int .i64 0]) (t := 61) ?hr ?_; (case hr => first | (go_simp; done) | (go_simp; rfl)); intro g14 w51_ HSn HBn; clear HBn; replace HS : Hid (St (SL.blk g14 61 #[.bool false, .int .i64 0] :: SL.blk ge 108 #[.map (some bm), .pointer (some ⟨gc, 0, none⟩), .int .i64 x.due, .pointer (some ⟨gk, 0, none⟩), .int .u64 x.frames] :: SL.map KI bm (mapOf ts) :: SL.blk gk 132 #[.int .u64 x.now] :: SL.blk gc 100 #[.pointer (some ⟨x.cur.g, 0, none⟩), .int .i64 x.t, .int .i64 ((j : Nat) : Int)] :: SL.row (Kd.int .i64) 3 (.slice Ae em.length ce) em :: SL.row (Kd.int .i64) 3 (.slice Ao ord.length co2) ord :: SL.row KP 31 (.slice A gs.length c) gs :: (tabL ts ++ [])) w w51_) := Go.Lib.hid HSn; clear HSn; obtain ⟨c0_0, c0_1⟩ := HS.out.c2 0 _ _ _ _ rfl) | ((with_reducible refine gate_store (p := 14) rfl ?_); refine Sl.storeAll_st HS.out 0 g14 61 _ rfl [.bool false, .int .i64 zi] rfl (by rfl) (by rfl) ?hr ?_; (case hr => have f_ := HS.out.f2 0 _ _ _ _ rfl; (try obtain ⟨f0, f1⟩ := f_); first | (go_simp; done) | (go_simp; rfl)); intro w52_ HSn; replace HS : Hid (St (SL.blk g14 61 #[.bool false, .int .i64 zi] :: SL.blk ge 108 #[.map (some bm), .pointer (some ⟨gc, 0, none⟩), .int .i64 x.due, .pointer (some ⟨gk, 0, none⟩), .int .u64 x.frames] :: SL.map KI bm (mapOf ts) :: SL.blk gk 132 #[.int .u64 x.now] :: SL.blk gc 100 #[.pointer (some ⟨x.cur.g, 0, none⟩), .int .i64 x.t, .int .i64 ((j : Nat) : Int)] :: SL.row (Kd.int .i64) 3 (.slice Ae em.length ce) em :: SL.row (Kd.int .i64) 3 (.slice Ao ord.length co2) ord :: SL.row KP 31 (.slice A gs.length c) gs :: (tabL ts ++ [])) w w52_) := Go.Lib.hid HSn; clear HSn; clear c0_0 c0_1; obtain ⟨c0_0, c0_1⟩ := HS.out.c2 0 _ _ _ _ rfl) | (go_at_call 31; have hE_ : EngSt (SL.blk g14 61 #[.bool false, .int .i64 zi] :: SL.row (Kd.int .i64) 3 (.slice Ae em.length ce) em :: SL.row (Kd.int .i64) 3 (.slice Ao ord.length co2) ord :: SL.row KP 31 (.slice A gs.length c) gs :: (tabL ts ++ [])) ge gk bm (mapOf ts) x w w52_ := ⟨gc, j, HIN.out, (((HS.out.front 4 _ rfl).front 4 _ rfl).front 4 _ rfl).front 4 _ rfl⟩; refine (e_due hE_).mono ?_; clear hE_; rintro e w' ⟨rfl, rfl⟩) | (go_at_call 24; have hE_ : EngSt (SL.blk g14 61 #[.bool false, .int .i64 zi] :: SL.row (Kd.int .i64) 3 (.slice Ae em.length ce) em :: SL.row (Kd.int .i64) 3 (.slice Ao ord.length co2) ord :: SL.row KP 31 (.slice A gs.length c) gs :: (tabL ts ++ [])) ge gk bm (mapOf ts) x w w52_ := ⟨gc, j, HIN.out, (((HS.out.front 4 _ rfl).front 4 _ rfl).front 4 _ rfl).front 4 _ rfl⟩; refine (tick_st hE_ (HT2.out.cons _) HM.out HU.out HG0.out).mono ?_; clear hE_; rintro e w60_ ⟨rfl, hE⟩; rw [HLV.out, HB.out]; obtain ⟨gc2, j2, hi2, hS2⟩ := hE; have HIN2 := Go.Lib.hid hi2; replace HS := Go.Lib.hid (hS2.erase 4); clear hi2 hS2) | ((with_reducible refine gate_dst (N := 111) rfl ?_); refine Sl.append_st (Kd.int .i64) (flat_int .i64) HS.out 4 (.slice Ae em.length ce) (em) 3 rfl (by rfl) (.tmp 108) (.tmp 110) 28 (.int .i64 0) 8 rfl Try.underlying28 (by kernel_rfl) rfl (by decide) (by decide) (x.own) [.int .i64 x.own] rfl rfl ?hp ?hb ?_; (case hp => first | rfl | exact k3_mk _ _); (case hb => omega); intro v1_ w71_ HSn; obtain ⟨A8_, c8_, hv2_, _⟩ := HSn.rowC 4 rfl; subst hv2_; replace HS : Hid (St (SL.blk ge 108 #[.map (some bm), .pointer (some ⟨gc2, 0, none⟩), .int .i64 (x.tick ts).due, .pointer (some ⟨gk, 0, none⟩), .int .u64 (x.tick ts).frames] :: SL.map KI bm (mapOf ts) :: SL.blk gk 132 #[.int .u64 (x.tick ts).now] :: SL.blk gc2 100 #[.pointer (some ⟨(x.tick ts).cur.g, 0, none⟩), .int .i64 (x.tick ts).t, .int .i64 ((j2 : Nat) : Int)] :: SL.row (Kd.int .i64) 3 (.slice A8_ (em ++ [x.own]).length c8_) (em ++ [x.own]) :: SL.row (Kd.int .i64) 3 (.slice Ao ord.length co2) ord :: SL.row KP 31 (.slice A gs.length c) gs :: (tabL ts ++ [])) w w71_) := Go.Lib.hid HSn; clear HSn))
                  have HE2 : Hid (EngSt (SL.row (Kd.int .i64) 3 (.slice A8_ (em ++ [x.own]).length c8_) (em ++ [x.own]) :: SL.row (Kd.int .i64) 3 (.slice Ao ord.length co2) ord :: SL.row KP 31 (.slice A gs.length c) gs :: (tabL ts ++ [])) ge gk bm (mapOf ts) (x.tick ts) w w71_) := Go.Lib.hid ⟨gc2, j2, HIN2.out, HS.out⟩
                  have HEM2 : Hid (Emits ts (x.tick ts) (em ++ [x.own]) ord) := Go.Lib.hid (HEM.out.inner HU.out HG0.out HLV.out HB.out)
                  have HNW2 : Hid ((x.tick ts).now ≤ (k + 1 : Nat)) := Go.Lib.hid (tick_now_le k HNOW.out)
                  go_roundw
                  case rel => exact ⟨k + 1, x.tick ts, em ++ [x.own], ord, A8_, c8_, Ao, co2, hlt, by simp, rfl, by go_num, HG0.out.tick HT.out.ok, HNW2.out, by rw [List.length_append]; simp; omega, by omega, HEM2.out, HE2.out⟩
                  case measure => simp [intOf]; omega
                | true =>
                  have HB := Go.Lib.hid hb
                  clear hb
                  go_wp2_with (first | ((with_reducible refine gate_dst (N := 14) rfl ?_); refine Sl.box_st HS.out (by rfl) (cs := #[.bool false, .int .i64 0]) (t := 61) ?hr ?_; (case hr => first | (go_simp; done) | (go_simp; rfl)); intro g14 w51_ HSn HBn; clear HBn; replace HS : Hid (St (SL.blk g14 61 #[.bool false, .int .i64 0] :: SL.blk ge 108 #[.map (some bm), .pointer (some ⟨gc, 0, none⟩), .int .i64 x.due, .pointer (some ⟨gk, 0, none⟩), .int .u64 x.frames] :: SL.map KI bm (mapOf ts) :: SL.blk gk 132 #[.int .u64 x.now] :: SL.blk gc 100 #[.pointer (some ⟨x.cur.g, 0, none⟩), .int .i64 x.t, .int .i64 ((j : Nat) : Int)] :: SL.row (Kd.int .i64) 3 (.slice Ae em.length ce) em :: SL.row (Kd.int .i64) 3 (.slice Ao ord.length co2) ord :: SL.row KP 31 (.slice A gs.length c) gs :: (tabL ts ++ [])) w w51_) := Go.Lib.hid HSn; clear HSn; obtain ⟨c0_0, c0_1⟩ := HS.out.c2 0 _ _ _ _ rfl) | ((with_reducible refine gate_store (p := 14) rfl ?_); refine Sl.storeAll_st HS.out 0 g14 61 _ rfl [.bool false, .int .i64 zi] rfl (by rfl) (by rfl) ?hr ?_; (case hr => have f_ := HS.out.f2 0 _ _ _ _ rfl; (try obtain ⟨f0, f1⟩ := f_); first | (go_simp; done) | (go_simp; rfl)); intro w52_ HSn; replace HS : Hid (St (SL.blk g14 61 #[.bool false, .int .i64 zi] :: SL.blk ge 108 #[.map (some bm), .pointer (some ⟨gc, 0, none⟩), .int .i64 x.due, .pointer (some ⟨gk, 0, none⟩), .int .u64 x.frames] :: SL.map KI bm (mapOf ts) :: SL.blk gk 132 #[.int .u64 x.now] :: SL.blk gc 100 #[.pointer (some ⟨x.cur.g, 0, none⟩), .int .i64 x.t, .int .i64 ((j : Nat) : Int)] :: SL.row (Kd.int .i64) 3 (.slice Ae em.length ce) em :: SL.row (Kd.int .i64) 3 (.slice Ao ord.length co2) ord :: SL.row KP 31 (.slice A gs.length c) gs :: (tabL ts ++ [])) w w52_) := Go.Lib.hid HSn; clear HSn; clear c0_0 c0_1; obtain ⟨c0_0, c0_1⟩ := HS.out.c2 0 _ _ _ _ rfl) | (go_at_call 31; have hE_ : EngSt (SL.blk g14 61 #[.bool false, .int .i64 zi] :: SL.row (Kd.int .i64) 3 (.slice Ae em.length ce) em :: SL.row (Kd.int .i64) 3 (.slice Ao ord.length co2) ord :: SL.row KP 31 (.slice A gs.length c) gs :: (tabL ts ++ [])) ge gk bm (mapOf ts) x w w52_ := ⟨gc, j, HIN.out, (((HS.out.front 4 _ rfl).front 4 _ rfl).front 4 _ rfl).front 4 _ rfl⟩; refine (e_due hE_).mono ?_; clear hE_; rintro e w' ⟨rfl, rfl⟩) | (go_at_call 24; have hE_ : EngSt (SL.blk g14 61 #[.bool false, .int .i64 zi] :: SL.row (Kd.int .i64) 3 (.slice Ae em.length ce) em :: SL.row (Kd.int .i64) 3 (.slice Ao ord.length co2) ord :: SL.row KP 31 (.slice A gs.length c) gs :: (tabL ts ++ [])) ge gk bm (mapOf ts) x w w52_ := ⟨gc, j, HIN.out, (((HS.out.front 4 _ rfl).front 4 _ rfl).front 4 _ rfl).front 4 _ rfl⟩; refine (tick_st hE_ (HT2.out.cons _) HM.out HU.out HG0.out).mono ?_; clear hE_; rintro e w60_ ⟨rfl, hE⟩; rw [HLV.out, HB.out]; obtain ⟨gc2, j2, hi2, hS2⟩ := hE; have HIN2 := Go.Lib.hid hi2; replace HS := Go.Lib.hid (hS2.erase 4); clear hi2 hS2) | ((with_reducible refine gate_dst (N := 111) rfl ?_); refine Sl.append_st (Kd.int .i64) (flat_int .i64) HS.out 4 (.slice Ae em.length ce) (em) 3 rfl (by rfl) (.tmp 108) (.tmp 110) 28 (.int .i64 0) 8 rfl Try.underlying28 (by kernel_rfl) rfl (by decide) (by decide) (x.own) [.int .i64 x.own] rfl rfl ?hp ?hb ?_; (case hp => first | rfl | exact k3_mk _ _); (case hb => omega); intro v1_ w71_ HSn; obtain ⟨A8_, c8_, hv2_, _⟩ := HSn.rowC 4 rfl; subst hv2_; replace HS : Hid (St (SL.blk ge 108 #[.map (some bm), .pointer (some ⟨gc2, 0, none⟩), .int .i64 (x.tick ts).due, .pointer (some ⟨gk, 0, none⟩), .int .u64 (x.tick ts).frames] :: SL.map KI bm (mapOf ts) :: SL.blk gk 132 #[.int .u64 (x.tick ts).now] :: SL.blk gc2 100 #[.pointer (some ⟨(x.tick ts).cur.g, 0, none⟩), .int .i64 (x.tick ts).t, .int .i64 ((j2 : Nat) : Int)] :: SL.row (Kd.int .i64) 3 (.slice A8_ (em ++ [x.own]).length c8_) (em ++ [x.own]) :: SL.row (Kd.int .i64) 3 (.slice Ao ord.length co2) ord :: SL.row KP 31 (.slice A gs.length c) gs :: (tabL ts ++ [])) w w71_) := Go.Lib.hid HSn; clear HSn) | ((with_reducible refine gate_dst (N := 116) rfl ?_); refine Sl.append_st (Kd.int .i64) (flat_int .i64) HS.out 5 (.slice Ao ord.length co2) (ord) 3 rfl (by rfl) (.tmp 113) (.tmp 115) 28 (.int .i64 0) 8 rfl Try.underlying28 (by kernel_rfl) rfl (by decide) (by decide) (x.due) [.int .i64 x.due] rfl rfl ?hp ?hb ?_; (case hp => first | rfl | exact k3_mk _ _); (case hb => omega); intro v1_ w72_ HSn; obtain ⟨A9_, c9_, hv2_, _⟩ := HSn.rowC 5 rfl; subst hv2_; replace HS : Hid (St (SL.blk ge 108 #[.map (some bm), .pointer (some ⟨gc2, 0, none⟩), .int .i64 (x.tick ts).due, .pointer (some ⟨gk, 0, none⟩), .int .u64 (x.tick ts).frames] :: SL.map KI bm (mapOf ts) :: SL.blk gk 132 #[.int .u64 (x.tick ts).now] :: SL.blk gc2 100 #[.pointer (some ⟨(x.tick ts).cur.g, 0, none⟩), .int .i64 (x.tick ts).t, .int .i64 ((j2 : Nat) : Int)] :: SL.row (Kd.int .i64) 3 (.slice A8_ (em ++ [x.own]).length c8_) (em ++ [x.own]) :: SL.row (Kd.int .i64) 3 (.slice A9_ (ord ++ [x.due]).length c9_) (ord ++ [x.due]) :: SL.row KP 31 (.slice A gs.length c) gs :: (tabL ts ++ [])) w w72_) := Go.Lib.hid HSn; clear HSn))
                  have HE2 : Hid (EngSt (SL.row (Kd.int .i64) 3 (.slice A8_ (em ++ [x.own]).length c8_) (em ++ [x.own]) :: SL.row (Kd.int .i64) 3 (.slice A9_ (ord ++ [x.due]).length c9_) (ord ++ [x.due]) :: SL.row KP 31 (.slice A gs.length c) gs :: (tabL ts ++ [])) ge gk bm (mapOf ts) (x.tick ts) w w72_) := Go.Lib.hid ⟨gc2, j2, HIN2.out, HS.out⟩
                  have HEM2 : Hid (Emits ts (x.tick ts) (em ++ [x.own]) (ord ++ [x.due])) := Go.Lib.hid (HEM.out.outer HU.out HG0.out HLV.out HB.out)
                  have HNW2 : Hid ((x.tick ts).now ≤ (k + 1 : Nat)) := Go.Lib.hid (tick_now_le k HNOW.out)
                  go_roundw
                  case rel => exact ⟨k + 1, x.tick ts, em ++ [x.own], ord ++ [x.due], A8_, c8_, A9_, c9_, hlt, by simp, by simp, by go_num, HG0.out.tick HT.out.ok, HNW2.out, by rw [List.length_append]; simp; omega, by rw [List.length_append]; simp; omega, HEM2.out, HE2.out⟩
                  case measure => simp [intOf]; omega
            · obtain rfl : k = os.length := by omega
              obtain ⟨hw1, hw2, hw3⟩ := HEM.out.lens HU.out HG0.out HT.out.ok
              have hfr := (HT.out.ok _ HG0.out.cur).hi
              have hft := HG0.out.t1
              have hft0 := HG0.out.t0
              have hwl := wordsT_len ts HT.out.ok ord
              obtain ⟨gc, j, hi, hS⟩ := HE.out
              have HS : Hid (St (SL.row (Kd.int .i64) 3 (.slice Ae em.length ce) em :: SL.row (Kd.int .i64) 3 (.slice Ao ord.length co2) ord :: SL.row KP 31 (.slice A gs.length c) gs :: (tabL ts ++ [])) w wr) := Go.Lib.hid hS.drop.drop.drop.drop
              clear hi hS HE
              have HW1 := Go.Lib.hid hw1
              have HW2 := Go.Lib.hid hw2
              have HW3 := Go.Lib.hid hw3
              clear hw1 hw2 hw3
              replace HS := Go.Lib.hid (HS.out.nilrow (Kd.int .i64) 3)
              go_wp2_with fail
              go_loopw [19, 120] (fun a i wr => ∃ (m : Nat) (ws : List Int) (Aw : Option Addr) (cw : Nat), m ≤ ord.length ∧ a = .slice Aw ws.length cw ∧ i = .int .i64 m ∧ ws = wordsT ts (ord.take m) ∧ ws.length ≤ 60 * m ∧ St (SL.row (Kd.int .i64) 3 (.slice Aw ws.length cw) ws :: SL.row (Kd.int .i64) 3 (.slice Ae em.length ce) em :: SL.row (Kd.int .i64) 3 (.slice Ao ord.length co2) ord :: SL.row KP 31 (.slice A gs.length c) gs :: (tabL ts ++ [])) w wr) (fun _ i _ => ord.length - (intOf i).toNat)
              case atStart => exact ⟨0, [], none, 0, Nat.zero_le _, rfl, rfl, rfl, Nat.le_refl _, HS.out⟩
              case round =>
                clear HS
                obtain ⟨m, ws, Aw, cw, hm, rfl, rfl, hws, hwl2, hS⟩ := hrel
                have HS := Go.Lib.hid hS
                have HWS := Go.Lib.hid hws
                clear hS hws
                by_cases hmo : m < ord.length
                · obtain ⟨Ax, cx, hvx, _, hCx⟩ := HS.out.rowC 2 rfl
                  injection hvx with q1 q2 q3
                  clear q2 q3
                  rw [← q1] at hCx
                  obtain ⟨ao, rfl, w0_⟩ := Kd.at_int hCx (m : Int) (by omega) (by omega)
                  rw [Int.toNat_natCast] at w0_
                  clear hCx q1
                  have hid : rd ord (m : Int) ∈ ord := by unfold rd; rw [Int.toNat_natCast, List.getD_eq_getElem?_getD, List.getElem?_eq_getElem hmo]; exact List.getElem_mem hmo
                  have hnx : ord.take (m + 1) = ord.take m ++ [rd ord (m : Int)] := by unfold rd; rw [Int.toNat_natCast, List.take_succ_eq_append_getElem hmo, List.getD_eq_getElem?_getD, List.getElem?_eq_getElem hmo]; rfl
                  obtain ⟨y, hy⟩ := HEM.out.all _ hid
                  generalize rd ord (m : Int) = id at *
                  obtain ⟨n, hn, n0, n1, n2, n3⟩ := find_idx ts ss id y HSRC.out hy
                  have hyk := HT.out.ok _ (findT_mem hy).1
                  have hyf := hyk.hi
                  have hwi : wordId ts id = wordT y.fr y.ws := by unfold wordId; rw [hy]
                  have HWN : Hid (wordsT ts (ord.take (m + 1)) = wordsT ts (ord.take m) ++ wordT y.fr y.ws) := Go.Lib.hid (by rw [hnx, wordsT_snoc, hwi])
                  have hsm := HGS.out _ (get_len hn)
                  have HWD := Go.Lib.hid (word_is (ss.getD n z25).f0 (ss.getD n z25).f1 (ss.getD n z25).f2 (ss.getD n z25).f3 hsm.1 (by rw [n1]; exact hyf))
                  skip
                  have HN0 := Go.Lib.hid n0
                  have HN3 := Go.Lib.hid n3
                  have HN1 := Go.Lib.hid n1
                  have HN2 := Go.Lib.hid n2
                  have hwt : (wordT y.fr y.ws).length ≤ 60 := by rw [wordT_len]; omega
                  have HWT : Hid (wordT (ss.getD n z25).f1 (ss.getD n z25).f2 = wordT y.fr y.ws) := Go.Lib.hid (by rw [n1, n2])
                  clear hid hnx hy hwi hsm n0 n1 n2 n3 hyk
                  generalize hvd : wordT y.fr y.ws = vd at *
                  clear hvd
                  go_wp2_with fail
                  refine (get_yes HS.out (some ad) c0 ss (scheds_arg HC.out) (by omega) id n hn HN0.out HN3.out).mono ?_
                  rintro e wg ⟨A2, c2, A3, c3, rfl, l2, l3, hrd, hSg⟩
                  replace HS := Go.Lib.hid hSg
                  have HRD := Go.Lib.hid hrd
                  clear hrd hSg
                  obtain ⟨s, hs⟩ : ∃ s, s = ss.getD n z25 := ⟨_, rfl⟩
                  rw [← hs] at l2 l3 HRD HWD HWT ⊢
                  clear hs
                  go_wp2_with (first | ((with_reducible refine gate_dst (N := 22) rfl ?_); refine Sl.box_st HS.out (by rfl) (cs := #[.int .i64 0, .int .i64 0, .slice none 0 0, .slice none 0 0]) (t := 25) ?hr ?_; (case hr => first | (go_simp; done) | (go_simp; rfl)); intro g22 w81_ HSn HBn; clear HBn; replace HS : Hid (St (SL.blk g22 25 #[.int .i64 0, .int .i64 0, .slice none 0 0, .slice none 0 0] :: SL.row (Kd.int .i64) 3 (.slice Aw ws.length cw) ws :: SL.row (Kd.int .i64) 3 (.slice Ae em.length ce) em :: SL.row (Kd.int .i64) 3 (.slice (some ao) ord.length co2) ord :: SL.row KP 31 (.slice A gs.length c) gs :: (tabL ts ++ [])) w w81_) := Go.Lib.hid HSn; clear HSn; obtain ⟨c0_0, c0_1, c0_2, c0_3⟩ := HS.out.c4 0 _ _ _ _ _ _ rfl) | ((with_reducible refine gate_store (p := 22) rfl ?_); refine Sl.storeAll_st HS.out 0 g22 25 _ rfl [.int .i64 s.f0, .int .i64 s.f1, .slice A2 s.f2.length c2, .slice A3 s.f3.length c3] rfl (by rfl) (by rfl) ?hr ?_; (case hr => have f_ := HS.out.f4 0 _ _ _ _ _ _ rfl; (try obtain ⟨f0, f1, f2, f3⟩ := f_); first | (go_simp; done) | (go_simp; rfl)); intro w82_ HSn; replace HS : Hid (St (SL.blk g22 25 #[.int .i64 s.f0, .int .i64 s.f1, .slice A2 s.f2.length c2, .slice A3 s.f3.length c3] :: SL.row (Kd.int .i64) 3 (.slice Aw ws.length cw) ws :: SL.row (Kd.int .i64) 3 (.slice Ae em.length ce) em :: SL.row (Kd.int .i64) 3 (.slice (some ao) ord.length co2) ord :: SL.row KP 31 (.slice A gs.length c) gs :: (tabL ts ++ [])) w w82_) := Go.Lib.hid HSn; clear HSn; clear c0_0 c0_1 c0_2 c0_3; obtain ⟨c0_0, c0_1, c0_2, c0_3⟩ := HS.out.c4 0 _ _ _ _ _ _ rfl) | (go_at_call 33; refine (countwheelref13_Word.calls _ s.f0 s.f1 A2 c2 s.f2 A3 c3 s.f3 _ _ (HRD.out [_] _ HS.out).1 l2 (HRD.out [_] _ HS.out).2 l3 HWD.out).mono ?_; rintro e w90_ ⟨v90, rfl, hR, hB⟩; rw [HWT.out] at hR; have HS9 := HS.out.row hR hB; obtain ⟨Av, cv, hvv, _⟩ := HS9.rowC 0 rfl; subst hvv; replace HS := Go.Lib.hid HS9; clear HS9 hR hB c0_0 c0_1 c0_2 c0_3) | ((with_reducible refine gate_dst (N := 133) rfl ?_); refine Sl.appends_st (Kd.int .i64) (flat_int .i64) HS.out 2 (.slice Aw ws.length cw) (ws) (vd) 3 rfl (by rfl) (.tmp 130) (.tmp 132) 28 (.int .i64 0) 8 rfl Try.underlying28 (by kernel_rfl) rfl (by decide) (by decide) Av vd.length cv rfl rfl ?hR ?hb ?_; (case hR => exact (by obtain ⟨A_, c_, h_, _, hC_⟩ := HS.out.rowC 0 rfl; injection h_ with q_ _ _; rw [q_]; exact hC_)); (case hb => omega); intro v133_ w91_ HSn; obtain ⟨A7_, c7_, hv7_, _⟩ := HSn.rowC 2 rfl; subst hv7_; replace HS : Hid (St (SL.row (Kd.int .i64) 3 (.slice Av vd.length cv) vd :: SL.blk g22 25 #[.int .i64 s.f0, .int .i64 s.f1, .slice A2 s.f2.length c2, .slice A3 s.f3.length c3] :: SL.row (Kd.int .i64) 3 (.slice A7_ (ws ++ vd).length c7_) (ws ++ vd) :: SL.row (Kd.int .i64) 3 (.slice Ae em.length ce) em :: SL.row (Kd.int .i64) 3 (.slice (some ao) ord.length co2) ord :: SL.row KP 31 (.slice A gs.length c) gs :: (tabL ts ++ [])) w w91_) := Go.Lib.hid HSn; clear HSn))
                  have HS2 : Hid (St (SL.row (Kd.int .i64) 3 (.slice A7_ (ws ++ vd).length c7_) (ws ++ vd) :: SL.row (Kd.int .i64) 3 (.slice Ae em.length ce) em :: SL.row (Kd.int .i64) 3 (.slice (some ao) ord.length co2) ord :: SL.row KP 31 (.slice A gs.length c) gs :: (tabL ts ++ [])) w w91_) := Go.Lib.hid HS.out.drop.drop
                  go_roundw
                  case rel => exact ⟨m + 1, ws ++ vd, A7_, c7_, hmo, by simp, by go_num, by rw [HWN.out, ← HWS.out], by rw [List.length_append]; omega, HS2.out⟩
                  case measure => simp [intOf]; omega
                · obtain rfl : m = ord.length := by omega
                  have hwq := HWS.out
                  rw [List.take_length] at hwq
                  have hw1 := HW1.out
                  have hw2 := HW2.out
                  rw [← hwq] at hw1 hw2
                  have HW4 := Go.Lib.hid hw2
                  clear HW1 HW2 HWS hwq hw2
                  have hol0 : 0 < ord.length := by have h9 := HW3.out; cases ord with | nil => cases h9 | cons a r => simp
                  have hlast : rd ord ((ord.length - 1 : Nat) : Int) = x.cur.id := by have h9 := HW3.out; rw [List.getLast?_eq_getElem?] at h9; unfold rd; rw [Int.toNat_natCast, List.getD_eq_getElem?_getD, h9]; rfl
                  obtain ⟨Ax, cx, hvx, _, hCx⟩ := HS.out.rowC 2 rfl
                  injection hvx with q1 q2 q3
                  clear q2 q3
                  rw [← q1] at hCx
                  obtain ⟨ao, rfl, w0_⟩ := Kd.at_int hCx ((ord.length - 1 : Nat) : Int) (by omega) (by omega)
                  rw [hlast, Int.toNat_natCast] at w0_
                  clear hCx q1 hlast
                  have hcm := HG0.out.cur
                  obtain ⟨n, hn, n0, n1, n2, n3⟩ := find_idx ts ss x.cur.id x.cur HSRC.out (HU.out _ hcm)
                  have HN0 := Go.Lib.hid n0
                  have HN3 := Go.Lib.hid n3
                  have HN1 := Go.Lib.hid n1
                  clear hcm n0 n1 n2 n3 HW3
                  have el_ : wrap64 ((ord.length : Int) - 1) = ((ord.length - 1 : Nat) : Int) := by unfold wrap64; omega
                  have ew_ : IntKind.i64.wrap ((ord.length : Int) - 1) = ((ord.length - 1 : Nat) : Int) := el_ ▸ (by rw [IntKind.wrap_i64]; first | rfl | (unfold wrap64; rfl))
                  have hol1 : ord.length - 1 < ord.length := by omega
                  generalize x.cur.id = id at *
                  go_wp2_with fail
                  clear el_ ew_
                  refine (get_yes HS.out (some ad) c0 ss (scheds_arg HC.out) (by omega) id n hn HN0.out HN3.out).mono ?_
                  rintro e wg ⟨A2, c2, A3, c3, rfl, l2, l3, hrd, hSg⟩
                  replace HS := Go.Lib.hid hSg
                  clear hrd hSg
                  have hn1 := HN1.out
                  obtain ⟨s, hs⟩ : ∃ s, s = ss.getD n z25 := ⟨_, rfl⟩
                  rw [← hs] at l2 l3 hn1 ⊢
                  clear hs
                  have q5 : em.length < ws.length := by omega
                  have q6 : (ws.length : Int) ≤ em.length + s.f1 := by omega
                  have q7 : ws.length ≤ 100000 := by omega
                  clear hw1 hn1
                  have b1 : decide (ws.length < em.length) = false := by simp; omega
                  have b2 : decide (s.f1 < (ws.length : Int) - em.length) = false := by simp; omega
                  have b3 : (ws.length == em.length) = false := by rw [beq_eq_false_iff_ne]; omega
                  have b4 : em.length ≤ ws.length := by omega
                  have b5 : ws.length ≤ 9223372036854775807 := by omega
                  have b6 : ((ws.length : Int) == (em.length : Int)) = false := by rw [beq_eq_false_iff_ne]; omega
                  have hcw : ws.length ≤ cw := by obtain ⟨A_, c_, h_, hl_, _⟩ := HS.out.rowC 0 rfl; injection h_ with _ _ q_; omega
                  have hce : em.length ≤ ce := by obtain ⟨A_, c_, h_, hl_, _⟩ := HS.out.rowC 1 rfl; injection h_ with _ _ q_; omega
                  go_wp2_with (first | ((with_reducible refine gate_dst (N := 24) rfl ?_); refine Sl.box_st HS.out (by rfl) (cs := #[.int .i64 0, .int .i64 0, .slice none 0 0, .slice none 0 0]) (t := 25) ?hr ?_; (case hr => first | (go_simp; done) | (go_simp; rfl)); intro g24 w81_ HSn HBn; clear HBn; replace HS : Hid (St (SL.blk g24 25 #[.int .i64 0, .int .i64 0, .slice none 0 0, .slice none 0 0] :: SL.row (Kd.int .i64) 3 (.slice Aw ws.length cw) ws :: SL.row (Kd.int .i64) 3 (.slice Ae em.length ce) em :: SL.row (Kd.int .i64) 3 (.slice (some ao) ord.length co2) ord :: SL.row KP 31 (.slice A gs.length c) gs :: (tabL ts ++ [])) w w81_) := Go.Lib.hid HSn; clear HSn; obtain ⟨c0_0, c0_1, c0_2, c0_3⟩ := HS.out.c4 0 _ _ _ _ _ _ rfl) | ((with_reducible refine gate_store (p := 24) rfl ?_); refine Sl.storeAll_st HS.out 0 g24 25 _ rfl [.int .i64 s.f0, .int .i64 s.f1, .slice A2 s.f2.length c2, .slice A3 s.f3.length c3] rfl (by rfl) (by rfl) ?hr ?_; (case hr => have f_ := HS.out.f4 0 _ _ _ _ _ _ rfl; (try obtain ⟨f0, f1, f2, f3⟩ := f_); first | (go_simp; done) | (go_simp; rfl)); intro w82_ HSn; replace HS : Hid (St (SL.blk g24 25 #[.int .i64 s.f0, .int .i64 s.f1, .slice A2 s.f2.length c2, .slice A3 s.f3.length c3] :: SL.row (Kd.int .i64) 3 (.slice Aw ws.length cw) ws :: SL.row (Kd.int .i64) 3 (.slice Ae em.length ce) em :: SL.row (Kd.int .i64) 3 (.slice (some ao) ord.length co2) ord :: SL.row KP 31 (.slice A gs.length c) gs :: (tabL ts ++ [])) w w82_) := Go.Lib.hid HSn; clear HSn; clear c0_0 c0_1 c0_2 c0_3; obtain ⟨c0_0, c0_1, c0_2, c0_3⟩ := HS.out.c4 0 _ _ _ _ _ _ rfl) | (go_at_call 34; obtain ⟨Aa, ca, ha, _, hCa⟩ := HS.out.rowC 2 rfl; injection ha with qa qa2 qa3; clear qa2 qa3; rw [← qa] at hCa; obtain ⟨Ab, cb, hb_, _, hCb⟩ := HS.out.rowC 1 rfl; injection hb_ with qb qb2 qb3; clear qb2 qb3; rw [← qb] at hCb; refine (same_call hCa (show em.length ≤ ce from hce) hCb (show em.length ≤ ws.length from b4) cw (by omega) HW4.out).mono ?_; rintro e w95_ ⟨rfl, hD⟩; replace HS := Go.Lib.hid (HS.out.drawn hD); clear hD hCa hCb qa qb) | (go_at_call 21; refine (awake_st HS.out).mono ?_; rintro e wz ⟨rfl, hS⟩; replace HS := Go.Lib.hid hS; clear hS))
                  go_ret
                  exact ⟨rfl, HS.out.below⟩
end Go.Proofs.Ytnpjbdaaoknkbaa.Frm

/-! Arguments of struct types, opened to rows. -/
namespace Go.Proofs.Ytnpjbdaaoknkbaa.Opo
open Go.RowKit Go.ChangeShapes Go.WideShapes Go.Deep Go.Proofs.YtnpjbdaaoknkbaaW.PrintWords Go.Proofs.YtnpjbdaaoknkbaaW.PrintLast Go.Proofs.YtnpjbdaaoknkbaaW.PrintMore Go.Proofs.Ytnpjbdaaoknkbaa.PTableFrames Go.Proofs.Ytnpjbdaaoknkbaa.Frm
set_option linter.unusedVariables false
set_option maxRecDepth 100000
theorem open59 {H : Type} {enc : TypeId × Value → H} {w : World} {base b0 : Nat} {spare : Nat → Bool} {held : Bool} {r : Go.Reach} {v : Value} {x : DataW H} {p : List MemPlace} (hv : Value.okWide Try.prog w r b0 59 v)
    (h : DataW.Trod enc Try.prog w base spare held 59 v x p) : ∃ A n c, v = .slice A n c ∧ ∃ xs, n ≤ c ∧ k61.C w A n xs ∧ ∀ z ∈ xs, (Lit.int .i64 z.f1).wf = true := by
  obtain ⟨A, n, c, rfl⟩ := okWide_slice Try.underlying59 hv
  obtain ⟨fuel, hf⟩ := h
  obtain ⟨A', n', c', hcs, hl, xs, hC, hg⟩ := Opn.open_row k61 (fun z => (Lit.int .i64 z.f1).wf = true) Try.underlying59 (by kernel_rfl) (fun n cs' y hy hlen => by
    obtain ⟨m, hfs⟩ := Opn.fields_of Try.underlying61 (by kernel_rfl) hy
    match cs', hlen with
    | [c0, c1], _ =>
      obtain ⟨y0, h0⟩ := hfs 0 _ c0 rfl rfl
      obtain ⟨y1, h1⟩ := hfs 1 _ c1 rfl rfl
      obtain ⟨n0, e0, _⟩ := DataW.trod_bool Try.underlying4 h0
      obtain ⟨n1, e1, _, w1⟩ := DataW.trod_int Try.underlying3 h1
      obtain rfl : c0 = _ := by simpa using e0
      obtain rfl : c1 = _ := by simpa using e1
      exact ⟨⟨n0, n1⟩, k61_mk _ _, w1⟩) hf
  simp [Value.cells] at hcs
  obtain ⟨rfl, rfl, rfl⟩ := hcs
  exact ⟨_, _, _, rfl, xs, hl, hC, hg⟩
end Go.Proofs.Ytnpjbdaaoknkbaa.Opo

/-! FrameWords, over its arguments. -/
namespace Go.Proofs.Ytnpjbdaaoknkbaa.Frm
open Go.RowKit Go.Proofs.YtnpjbdaaoknkbaaW.PrintWords Go.Proofs.YtnpjbdaaoknkbaaW.PrintLast Go.Proofs.YtnpjbdaaoknkbaaW.PrintMore Go.Proofs.Ytnpjbdaaoknkbaa.Mine Go.Proofs.Ytnpjbdaaoknkbaa.PTableFrames
open Go.Proofs.Ytnpjbdaaoknkbaa.Tab (Small)
set_option linter.unusedVariables false
theorem smalls {w : World} {A : Option Addr} {n : Nat} {ss : List S25} (h : Kd.C k25 w A n ss) : ∀ s ∈ ss, Small s.f2 ∧ Small s.f3 := by
  intro s hs
  obtain rfl := h.1
  obtain ⟨k, hk, rfl⟩ := List.getElem_of_mem hs
  obtain ⟨ad, A2, c2, A3, c3, _, _, _, _, _, _, C2, _, C3⟩ := at_T25 h (k : Int) (by omega) (by omega)
  have hx : rd_T25 ss (k : Int) = ss[k] := by unfold rd_T25; rw [Int.toNat_natCast, List.getD_eq_getElem?_getD, List.getElem?_eq_getElem hk]; rfl
  rw [hx] at C2 C3
  exact ⟨C2.2.1, C3.2.1⟩
theorem frameWords_walk (w : World) (A0 : Option Addr) (n0 c0 : Nat) (ss : List S25) (hO : n0 ≤ c0 ∧ k25.C w A0 n0 ss ∧ ∀ y ∈ ss, Opf.Good25 y) (A1 : Option Addr) (n1 c1 : Nat) (ids : List Int) (hI : n1 ≤ c1 ∧ (Kd.int .i64).C w A1 n1 ids ∧ ∀ z ∈ ids, (Lit.int .i64 z).wf = true)
    (A2 : Option Addr) (n2 c2 : Nat) (os : List S61) (hP : n2 ≤ c2 ∧ k61.C w A2 n2 os ∧ ∀ z ∈ os, (Lit.int .i64 z.f1).wf = true) :
    Calls Try.prog 5 #[.slice A0 n0 c0, .slice A1 n1 c1, .slice A2 n2 c2] w fun e w' => e = .returned (.bool true) ∧ Below w.heap.size w w' := by
  obtain ⟨h1, h2, h3⟩ := hO
  obtain ⟨h4, h5, _⟩ := hI
  obtain ⟨h6, h7, h8⟩ := hP
  have hs := smalls h2
  obtain rfl := h2.1
  obtain rfl := h5.1
  obtain rfl := h7.1
  exact words_raw w A0 c0 ss h2 h1 hs A1 c1 ids h5 h4 (fun s hm => (h3 s hm).1) A2 c2 os h7 h6 h8
end Go.Proofs.Ytnpjbdaaoknkbaa.Frm
