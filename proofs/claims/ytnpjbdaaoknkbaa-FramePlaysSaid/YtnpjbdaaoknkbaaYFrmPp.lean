/- FrmPp: texts of one matter, laid together. -/
import Derived.Test.YtnpjbdaaoknkbaaYFrmJ
import Derived.Test.YtnpjbdaaoknkbaaYFrmH
import Derived.Test.YtnpjbdaaoknkbaaYWfC
import Derived.IntWalk
import Derived.Test.YtnpjbdaaoknkbaaYOpn
import Derived.Lib.SmallJoins
import Derived.Test.YtnpjbdaaoknkbaaYOpf
import Derived.Test.YtnpjbdaaoknkbaaYOst
/-! Schedules of different ids. -/
namespace Go.Proofs.Ytnpjbdaaoknkbaa.Frm
open Go.RowKit Go.Proofs.YtnpjbdaaoknkbaaW.PrintWords Go.Proofs.YtnpjbdaaoknkbaaW.PrintLast Go.Proofs.YtnpjbdaaoknkbaaW.PrintMore Go.Proofs.Ytnpjbdaaoknkbaa.Mine Go.Proofs.Ytnpjbdaaoknkbaa.PTableFrames
open Go.Proofs.Ytnpjbdaaoknkbaa.Sl (SL Stp Chg St No wpc_seal wpc_round sealed MK look)
open Go.Proofs.Ytnpjbdaaoknkbaa.Tab (InT In InA Runs cur_tick cur_owner step_st nextT nextJ rd_mem cursor_st allR allR_is ownW OkW mkR_len grw_len at_run Small SchedIn BadW NewPost new_st WinIn)
set_option linter.unusedVariables false
set_option linter.unusedSimpArgs false
attribute [local go_sem] max2_int min2_int max_two min_two max_three min_three max_four min_four
/-- No two of the first ones have one id. -/
def Dist (ss : List S25) (k : Nat) : Prop := ∀ a b : Nat, a < b → b < k → (ss.getD a z25).f0 ≠ (ss.getD b z25).f0
theorem dist_next {ss : List S25} {k : Nat} (h : Dist ss k) (h2 : ∀ a : Nat, a < k → (ss.getD a z25).f0 ≠ (ss.getD k z25).f0) : Dist ss (k + 1) := by
 intro a b hab hb
 rcases Nat.lt_or_ge b k with q | q
 ·exact h a b hab q
 ·obtain rfl : b = k := by omega
  exact h2 a hab
theorem ne_next {ss : List S25} {k m : Nat} (h : ∀ a : Nat, a < m → (ss.getD a z25).f0 ≠ (ss.getD k z25).f0) (h1 : (ss.getD m z25).f0 ≠ (ss.getD k z25).f0) : ∀ a : Nat, a < m + 1 → (ss.getD a z25).f0 ≠ (ss.getD k z25).f0 := by
 intro a ha
 rcases Nat.lt_or_ge a m with q | q
 ·exact h a q
 ·obtain rfl : a = m := by omega
  exact h1
theorem dist_nodup {ss : List S25} (h : Dist ss ss.length) {ts : List Tb} (hs : ts.map Tb.src = ss.map srcS) : (ts.map Tb.id).Nodup := by
 have e : ts.map Tb.id = ss.map S25.f0 := by
  have := congrArg (List.map Prod.fst) hs
  rw [List.map_map, List.map_map] at this
  exact this
 rw [e, List.nodup_iff_pairwise_ne, List.pairwise_iff_getElem]
 intro a b ha hb hab
 rw [List.length_map] at ha hb
 have := h a b hab hb
 rw [List.getElem_map, List.getElem_map]
 rwa [List.getD_eq_getElem?_getD, List.getElem?_eq_getElem ha, List.getD_eq_getElem?_getD, List.getElem?_eq_getElem hb] at this
theorem cell_id {w : World} {A : Option Addr} {ss : List S25} (h : Kd.C k25 w A ss.length ss) (k : Nat) (hk : k < ss.length) : ∃ ad, A = some ad ∧ w.cell? (ad.add (k * 4)) = some (.int .i64 (ss.getD k z25).f0) := by
 obtain ⟨ad, A2, c2, A3, c3, e, g0, _⟩ := at_T25 h (k : Int) (by omega) (by omega)
 have hx : rd_T25 ss (k : Int) = ss.getD k z25 := by unfold rd_T25; rw [Int.toNat_natCast]
 rw [hx, Int.toNat_natCast] at g0
 exact ⟨ad, e, g0⟩
/-- Which table runs first. -/
theorem first_in {ts : List Tb} {ss : List S25} (hs : ts.map Tb.src = ss.map srcS) {k : Nat} (hk : k < ss.length) : ∃ y, findT ts (ss.getD k z25).f0 = some y := by
 refine find_in ?_
 have e : ts.map Tb.id = ss.map S25.f0 := by
  have := congrArg (List.map Prod.fst) hs
  rw [List.map_map, List.map_map] at this
  exact this
 rw [e, List.getD_eq_getElem?_getD, List.getElem?_eq_getElem hk]
 exact List.mem_map.2 ⟨_, List.getElem_mem hk, rfl⟩
theorem live_yes {x : EM} (h : x.now < 18446744073709551615) : x.live = true := by unfold EM.live; rw [if_neg (by omega)]
theorem tick_now {ts : List Tb} {x : EM} (h : x.now < 18446744073709551615) : (x.tick ts).now = x.now + 1 := by
 unfold EM.tick
 rw [if_neg (by omega)]
 split <;> rfl
theorem halt_all {ts : List Tb} {x : EM} (h : x.now = 18446744073709551615) : x.own = -1 ∧ x.bnd = false ∧ x.live = false ∧ x.tick ts = x := by
 unfold EM.own EM.bnd EM.live EM.tick
 rw [if_pos h, if_pos h, if_pos h, if_pos h]
 exact ⟨rfl, rfl, rfl, rfl⟩
end Go.Proofs.Ytnpjbdaaoknkbaa.Frm

/-! A schedule by its id. -/
namespace Go.Proofs.Ytnpjbdaaoknkbaa.Frm
open Go.RowKit Go.Proofs.YtnpjbdaaoknkbaaW.PrintWords Go.Proofs.YtnpjbdaaoknkbaaW.PrintLast Go.Proofs.YtnpjbdaaoknkbaaW.PrintMore Go.Proofs.Ytnpjbdaaoknkbaa.Mine Go.Proofs.Ytnpjbdaaoknkbaa.PTableFrames
open Go.Proofs.Ytnpjbdaaoknkbaa.Sl (SL Stp Chg St No wpc_seal wpc_round sealed MK look)
open Go.Proofs.Ytnpjbdaaoknkbaa.Tab (InT In InA Runs cur_tick cur_owner step_st nextT nextJ rd_mem cursor_st allR allR_is ownW OkW mkR_len grw_len at_run Small SchedIn BadW NewPost new_st WinIn)
set_option linter.unusedVariables false
set_option linter.unusedSimpArgs false
attribute [local go_sem] max2_int min2_int max_two min_two max_three min_three max_four min_four
open Go.Proofs.YtnpjbdaaoknkbaaW.PrintWords (results_list Vals)
theorem get_len {ss : List S25} {k : Nat} (h : k < ss.length) : ss.getD k z25 ∈ ss := by rw [List.getD_eq_getElem?_getD, List.getElem?_eq_getElem h]; exact List.getElem_mem h
set_option maxHeartbeats 1600000 in
set_option maxRecDepth 100000 in
theorem get_yes {l : List SL} {w0 w : World} (h : St l w0 w) (AL : Option Addr) (cl : Nat) (ss : List S25) (hrs : SchedsAt l w0 AL ss) (hn : ss.length ≤ 1000000) (id : Int) (n : Nat) (hk : n < ss.length) (hid : (ss.getD n z25).f0 = id) (hne : ∀ j : Nat, j < n → (ss.getD j z25).f0 ≠ id) :
  Calls Try.prog 32 #[.slice AL ss.length cl, .int .i64 id] w fun e w' => ∃ A2 c2 A3 c3, e = .returned (.tuple #[.agg #[.int .i64 (ss.getD n z25).f0, .int .i64 (ss.getD n z25).f1, .slice A2 (ss.getD n z25).f2.length c2, .slice A3 (ss.getD n z25).f3.length c3], .bool true]) ∧ (ss.getD n z25).f2.length ≤ c2 ∧ (ss.getD n z25).f3.length ≤ c3 ∧
   (∀ (lx : List SL) (w1 : World), St (lx ++ l) w0 w1 → k30.C w1 A2 (ss.getD n z25).f2.length (ss.getD n z25).f2 ∧ k87.C w1 A3 (ss.getD n z25).f3.length (ss.getD n z25).f3) ∧ St l w0 w' := by
 have HS := Go.Lib.hid h
 have HRS := Go.Lib.hid hrs
 have HID := Go.Lib.hid hid
 have HNE := Go.Lib.hid hne
 clear h hrs hid hne
 go_enter Try.func32, Try.ntmps32
 go_wp2_with (first | ((with_reducible refine gate_dst (N := 4) rfl ?_); refine Sl.box_st HS.out (by rfl) (cs := #[.int .i64 0, .int .i64 0, .slice none 0 0, .slice none 0 0]) (t := 25) ?hr ?_; (case hr => first | (go_simp; done) | (go_simp; rfl)); intro g4 w1_ HSn HBn; clear HBn; replace HS : Hid (St (SL.blk g4 25 #[.int .i64 0, .int .i64 0, .slice none 0 0, .slice none 0 0] :: l) w0 w1_) := Go.Lib.hid HSn; clear HSn; obtain ⟨c0_0, c0_1, c0_2, c0_3⟩ := HS.out.c4 0 _ _ _ _ _ _ rfl))
 clear c0_0 c0_1 c0_2 c0_3
 go_loopw [6] (fun i wr => ∃ k : Nat, k ≤ n ∧ i = .int .i64 k ∧ St (SL.blk g4 25 #[.int .i64 0, .int .i64 0, .slice none 0 0, .slice none 0 0] :: l) w0 wr) (fun i _ => n - (intOf i).toNat)
 case atStart => exact ⟨0, Nat.zero_le _, rfl, HS.out⟩
 case round =>
  clear HS
  obtain ⟨k, hkn, rfl, hS⟩ := hrel
  have HS := Go.Lib.hid hS
  clear hS
  have hks : k < ss.length := by omega
  obtain ⟨ad, A2, c2, A3, c3, rfl, l2, l3, hrd⟩ := HRS.out k hks
  obtain ⟨g0, g1, g2, g3, _, _⟩ := hrd [_] wr HS.out
  have HRD := Go.Lib.hid hrd
  clear hrd
  by_cases hlt : k < n
  ·have hq : ((ss.getD k z25).f0 == id) = false := beq_eq_false_iff_ne.2 (HNE.out k hlt)
   generalize ss.getD k z25 = x at *
   go_wp2_with fail
   go_roundw
   case rel => exact ⟨k + 1, hlt, rfl, HS.out⟩
   case measure => simp [intOf]; omega
  ·obtain rfl : k = n := by omega
   have hq : ((ss.getD k z25).f0 == id) = true := by rw [HID.out]; exact beq_self_eq_true id
   clear HID
   obtain ⟨x, hx⟩ : ∃ x, x = ss.getD k z25 := ⟨_, rfl⟩
   rw [← hx] at g0 g1 g2 g3 hq l2 l3 HRD
   have HX := Go.Lib.hid hx
   clear hx
   obtain ⟨c0_0, c0_1, c0_2, c0_3⟩ := HS.out.c4 0 _ _ _ _ _ _ rfl
   go_wp2_with (first | ((with_reducible refine gate_store (p := 4) rfl ?_); refine Sl.storeAll_st HS.out 0 g4 25 _ rfl [.int .i64 x.f0, .int .i64 x.f1, .slice A2 x.f2.length c2, .slice A3 x.f3.length c3] rfl (by rfl) (by rfl) ?hr ?_; (case hr => have f_ := HS.out.f4 0 _ _ _ _ _ _ rfl; (try obtain ⟨f0, f1, f2, f3⟩ := f_); first | (go_simp; done) | (go_simp; rfl)); intro w21_ HSn; replace HS : Hid (St (SL.blk g4 25 #[.int .i64 x.f0, .int .i64 x.f1, .slice A2 x.f2.length c2, .slice A3 x.f3.length c3] :: l) w0 w21_) := Go.Lib.hid HSn; clear HSn; clear c0_0 c0_1 c0_2 c0_3; obtain ⟨c0_0, c0_1, c0_2, c0_3⟩ := HS.out.c4 0 _ _ _ _ _ _ rfl))
   obtain rfl := HX.out
   exact bodyPost_ret (results_list (rs := [.cell 4 25, .tmp 5]) rfl (by simp) (.cell g4 25 _ (0, 0) _ rfl (HS.out.heap 0 _ _ _ rfl) Try.underlying25 rfl (by kernel_rfl) (.tmp .nil))) rfl ⟨A2, c2, A3, c3, rfl, l2, l3, fun lx w1 h1 => (HRD.out lx w1 h1).2.2.2.2, HS.out.drop⟩
end Go.Proofs.Ytnpjbdaaoknkbaa.Frm

/-! Words of tables, in plain words. -/
namespace Go.Proofs.Ytnpjbdaaoknkbaa.Frm
open Go.RowKit Go.Proofs.YtnpjbdaaoknkbaaW.PrintWords Go.Proofs.YtnpjbdaaoknkbaaW.PrintLast Go.Proofs.YtnpjbdaaoknkbaaW.PrintMore Go.Proofs.Ytnpjbdaaoknkbaa.Mine Go.Proofs.Ytnpjbdaaoknkbaa.PTableFrames
open Go.Proofs.Ytnpjbdaaoknkbaa.Sl (SL Stp Chg St No wpc_seal wpc_round sealed MK look)
open Go.Proofs.Ytnpjbdaaoknkbaa.Tab (InT In InA Runs cur_tick cur_owner step_st nextT nextJ rd_mem cursor_st allR allR_is ownW OkW mkR_len grw_len at_run Small SchedIn BadW NewPost new_st WinIn)
set_option linter.unusedVariables false
set_option linter.unusedSimpArgs false
attribute [local go_sem] max2_int min2_int max_two min_two max_three min_three max_four min_four
/-- A table's word. -/
def wordT (fr : Int) (ws : List S30) : List Int := (List.range fr.toNat).map (fun t : Nat => ownW ws (t : Int))
theorem wordT_len (fr : Int) (ws : List S30) : (wordT fr ws).length = fr.toNat := by simp [wordT]
theorem wordT_take (fr : Int) (ws : List S30) (t : Nat) (h : t < fr.toNat) : (wordT fr ws).take (t + 1) = (wordT fr ws).take t ++ [ownW ws (t : Int)] := by
 have hl : t < (wordT fr ws).length := by rw [wordT_len]; exact h
 rw [List.take_succ_eq_append_getElem hl]
 congr 2
 simp [wordT]
def wordId (ts : List Tb) (id : Int) : List Int := match findT ts id with | some y => wordT y.fr y.ws | none => []
def wordsT (ts : List Tb) (ord : List Int) : List Int := ord.flatMap (wordId ts)
theorem wordsT_snoc (ts : List Tb) (ord : List Int) (id : Int) : wordsT ts (ord ++ [id]) = wordsT ts ord ++ wordId ts id := by simp [wordsT]
theorem wordsT_len (ts : List Tb) (hok : ∀ y ∈ ts, TbOk y) : ∀ ord : List Int, (wordsT ts ord).length ≤ 60 * ord.length := by
 intro ord
 induction ord with
 | nil => simp [wordsT]
 | cons a r ih =>
  have e : wordsT ts (a :: r) = wordId ts a ++ wordsT ts r := by simp [wordsT]
  rw [e, List.length_append, List.length_cons]
  have : (wordId ts a).length ≤ 60 := by
   unfold wordId
   cases c : findT ts a with
   | none => simp
   | some y => have := (hok y (findT_mem c).1).hi; show (wordT y.fr y.ws).length ≤ 60; rw [wordT_len]; omega
  omega
/-- What has been emitted: the words of all but the last one, and a beginning of the last one's. -/
structure Emits (ts : List Tb) (x : EM) (em ord : List Int) : Prop where
 ex : ∃ o1, ord = o1 ++ [x.cur.id] ∧ em = wordsT ts o1 ++ (wordT x.cur.fr x.cur.ws).take x.t.toNat
 all : ∀ id ∈ ord, ∃ y, findT ts id = some y
theorem Emits.start {ts : List Tb} {y : Tb} {u e : Int} (h : findT ts u = some y) : Emits ts ⟨y, u, 0, e, 0⟩ [] [u] := by
 have hm := findT_mem h
 refine ⟨⟨[], by rw [hm.2]; rfl, ?_⟩, fun id hi => by rw [List.mem_singleton.1 hi]; exact ⟨y, h⟩⟩
 simp [wordsT]
theorem wordId_cur {ts : List Tb} (U : Uniq ts) {x : EM} (G : Good ts x) : wordId ts x.cur.id = wordT x.cur.fr x.cur.ws := by
 unfold wordId
 rw [U _ G.cur]
theorem Emits.inner {ts : List Tb} {x : EM} {em ord : List Int} (E : Emits ts x em ord) (U : Uniq ts) (G : Good ts x) (hl : x.live = true) (hb : x.bnd = false) : Emits ts (x.tick ts) (em ++ [x.own]) ord := by
 have h1 : ¬ x.now = 18446744073709551615 := by intro e; unfold EM.live at hl; rw [if_pos e] at hl; cases hl
 unfold EM.bnd at hb
 rw [if_neg h1] at hb
 have h2 : x.t + 1 < x.cur.fr := by simpa using hb
 obtain ⟨o1, e1, e2⟩ := E.ex
 unfold EM.tick EM.own
 rw [if_neg h1, if_pos h2, if_neg h1]
 have ht := G.t0
 refine ⟨⟨o1, e1, ?_⟩, E.all⟩
 show em ++ [_] = wordsT ts o1 ++ (wordT x.cur.fr x.cur.ws).take (x.t + 1).toNat
 rw [e2, show (x.t + 1).toNat = x.t.toNat + 1 by omega, wordT_take _ _ _ (by omega), List.append_assoc, Int.toNat_of_nonneg ht]
theorem Emits.outer {ts : List Tb} {x : EM} {em ord : List Int} (E : Emits ts x em ord) (U : Uniq ts) (G : Good ts x) (hl : x.live = true) (hb : x.bnd = true) : Emits ts (x.tick ts) (em ++ [x.own]) (ord ++ [x.due]) := by
 have h1 : ¬ x.now = 18446744073709551615 := by intro e; unfold EM.live at hl; rw [if_pos e] at hl; cases hl
 unfold EM.bnd at hb
 rw [if_neg h1] at hb
 have h2 : ¬ x.t + 1 < x.cur.fr := by simpa using hb
 obtain ⟨o1, e1, e2⟩ := E.ex
 obtain ⟨y, hy⟩ := G.due
 unfold EM.tick EM.own
 rw [if_neg h1, if_neg h2, if_neg h1, hy]
 have ht := G.t0; have ht1 := G.t1
 refine ⟨⟨ord, by rw [← (findT_mem hy).2]; rfl, ?_⟩, fun id hi => ?_⟩
 ·show em ++ [_] = wordsT ts ord ++ (wordT y.fr y.ws).take 0
  rw [List.take_zero, List.append_nil, e1, wordsT_snoc, wordId_cur U G, e2, List.append_assoc]
  congr 1
  have h3 := wordT_take x.cur.fr x.cur.ws x.t.toNat (by omega)
  rw [Int.toNat_of_nonneg ht] at h3
  rw [← h3, List.take_of_length_le (by rw [wordT_len]; omega)]
 ·rcases List.mem_append.1 hi with hi | hi
  ·exact E.all id hi
  ·rw [List.mem_singleton.1 hi]; exact ⟨y, hy⟩
/-- How long the words are. -/
theorem Emits.lens {ts : List Tb} {x : EM} {em ord : List Int} (E : Emits ts x em ord) (U : Uniq ts) (G : Good ts x) (K : ∀ y ∈ ts, TbOk y) : ((wordsT ts ord).length : Int) = em.length + (x.cur.fr - x.t) ∧ em = (wordsT ts ord).take em.length ∧ ord.getLast? = some x.cur.id := by
 obtain ⟨o1, e1, e2⟩ := E.ex
 have ht := G.t0; have ht1 := G.t1
 have h0 : wordsT ts ord = wordsT ts o1 ++ wordT x.cur.fr x.cur.ws := by rw [e1, wordsT_snoc, wordId_cur U G]
 have h1 : em.length = (wordsT ts o1).length + x.t.toNat := by rw [e2, List.length_append, List.length_take, wordT_len]; omega
 refine ⟨?_, ?_, by rw [e1]; simp⟩
 ·rw [h0, List.length_append, wordT_len, h1]; omega
 ·rw [h0, h1, List.take_append, List.take_of_length_le (by omega), show (wordsT ts o1).length + x.t.toNat - (wordsT ts o1).length = x.t.toNat by omega]
  exact e2
theorem tick_now_le {ts : List Tb} {x : EM} (n : Nat) (h : x.now ≤ n) : (x.tick ts).now ≤ (n + 1 : Nat) := by
 unfold EM.tick
 split
 ·omega
 ·split
  ·show x.now + 1 ≤ _; omega
  ·show x.now + 1 ≤ _; omega
/-- Where a table's schedule stands. -/
theorem find_idx : ∀ (ts : List Tb) (ss : List S25) (id : Int) (y : Tb), ts.map Tb.src = ss.map srcS → findT ts id = some y → ∃ n : Nat, n < ss.length ∧ (ss.getD n z25).f0 = id ∧ (ss.getD n z25).f1 = y.fr ∧ (ss.getD n z25).f2 = y.ws ∧ ∀ j : Nat, j < n → (ss.getD j z25).f0 ≠ id
 | [], ss, id, y, _, h => by cases h
 | t :: ts, [], id, y, hs, h => by cases hs
 | t :: ts, s :: ss, id, y, hs, h => by
  obtain ⟨h1, h2⟩ := List.cons.inj hs
  injection h1 with a1 a2
  injection a2 with a2 a3
  unfold findT at h
  rw [List.find?_cons] at h
  by_cases c : t.id = id
  ·have c2 : (t.id == id) = true := by simpa using c
   rw [c2] at h
   obtain rfl := Option.some.inj h
   exact ⟨0, by simp, by show s.f0 = id; rw [← a1]; exact c, by show s.f1 = t.fr; exact a2.symm, by show s.f2 = t.ws; exact a3.symm, fun j hj => absurd hj (Nat.not_lt_zero _)⟩
  ·have c2 : (t.id == id) = false := by simpa using c
   rw [c2] at h
   obtain ⟨n, b1, b2, b3, b4, b5⟩ := find_idx ts ss id y h2 h
   refine ⟨n + 1, by simpa using b1, b2, b3, b4, fun j hj => ?_⟩
   match j with
   | 0 => show s.f0 ≠ id; rw [← a1]; exact c
   | j + 1 => exact b5 j (by omega)
theorem word_l0 {id fr : Int} {ws : List S30} {ns : List S87} (hw : Small ws) (h1 : fr ≤ 60) : ∀ (d i k : Nat), i + d = fr.toNat → ws.length + d + 3 ≤ k → countwheelref13_Word.l0 k ((wordT fr ws).take i) (i : Int) id fr ws ns = some (wordT fr ws)
 | 0, i, k, h, hk => by
  obtain ⟨k, rfl⟩ : ∃ m, k = m + 1 := ⟨k - 1, by omega⟩
  simp only [countwheelref13_Word.l0]
  rw [if_neg (by omega), List.take_of_length_le (by rw [wordT_len]; omega)]
 | d + 1, i, k, h, hk => by
  obtain ⟨k, rfl⟩ : ∃ m, k = m + 1 := ⟨k - 1, by omega⟩
  simp only [countwheelref13_Word.l0]
  rw [if_pos (by omega), Tab.owner_is hw k (by omega), Option.bind_some, if_pos (by rw [List.length_take, wordT_len]; omega), if_neg (by omega), Tab.wsucc (by omega), ← wordT_take fr ws i (by omega)]
  exact word_l0 hw h1 d (i + 1) k (by omega) (by omega)
theorem word_is (id fr : Int) (ws : List S30) (ns : List S87) (hw : Small ws) (h1 : fr ≤ 60) : countwheelref13_Word.f (ws.length + fr.toNat + 3) id fr ws ns = some (wordT fr ws) := by
 have := word_l0 (id := id) (fr := fr) (ns := ns) hw h1 fr.toNat 0 (ws.length + fr.toNat + 3) (by omega) (by omega)
 simpa [countwheelref13_Word.f] using this
theorem same_l0 (l : List Int) (hl : Small l) : ∀ (d i k : Nat), i + d = l.length → d + 1 ≤ k → countwheelref10_SameInts.l0 k l l (i : Int) = some true
 | 0, i, k, h, hk => by
  obtain ⟨k, rfl⟩ : ∃ m, k = m + 1 := ⟨k - 1, by omega⟩
  simp only [countwheelref10_SameInts.l0]
  rw [if_neg (by omega)]
 | d + 1, i, k, h, hk => by
  have hl2 := hl
  unfold Small at hl2
  obtain ⟨k, rfl⟩ : ∃ m, k = m + 1 := ⟨k - 1, by omega⟩
  simp only [countwheelref10_SameInts.l0]
  rw [if_pos (by omega), if_pos (by omega), if_pos (by omega), if_pos trivial, Tab.wsucc (by omega)]
  exact same_l0 l hl d (i + 1) k (by omega) (by omega)
theorem same_is (l : List Int) (hl : Small l) : countwheelref10_SameInts.f (l.length + 1) l l = some true := by
 unfold countwheelref10_SameInts.f
 rw [if_pos rfl]
 exact same_l0 l hl l.length 0 (l.length + 1) (by omega) (Nat.le_refl _)
end Go.Proofs.Ytnpjbdaaoknkbaa.Frm

/-! The document's engine. -/
namespace Go.Proofs.Ytnpjbdaaoknkbaa.Frm
open Go.RowKit Go.Proofs.YtnpjbdaaoknkbaaW.PrintWords Go.Proofs.YtnpjbdaaoknkbaaW.PrintLast Go.Proofs.YtnpjbdaaoknkbaaW.PrintMore Go.Proofs.Ytnpjbdaaoknkbaa.Mine Go.Proofs.Ytnpjbdaaoknkbaa.PTableFrames
open Go.Proofs.Ytnpjbdaaoknkbaa.Sl (SL Stp Chg St No wpc_seal wpc_round sealed MK look)
open Go.Proofs.Ytnpjbdaaoknkbaa.Tab (InT In InA Runs cur_tick cur_owner step_st nextT nextJ rd_mem cursor_st allR allR_is ownW OkW mkR_len grw_len at_run Small SchedIn BadW NewPost new_st WinIn)
set_option linter.unusedVariables false
set_option linter.unusedSimpArgs false
attribute [local go_sem] max2_int min2_int max_two min_two max_three min_three max_four min_four
open Go.Proofs.YtnpjbdaaoknkbaaW.PrintWords (results_list Vals)
variable {l : List SL} {w0 w : World} {AL : Option Addr} {cl : Nat} {ss : List S25} {ts : List Tb} {x : EM}
theorem find_no : ∀ (ts : List Tb) (ss : List S25) (id : Int), ts.map Tb.src = ss.map srcS → findT ts id = none → ∀ j : Nat, j < ss.length → (ss.getD j z25).f0 ≠ id
 | [], ss, id, h, _ => by
  intro j hj
  have : ss.length = 0 := by have := congrArg List.length h; simpa using this.symm
  omega
 | t :: ts, [], id, h, _ => by cases h
 | t :: ts, s :: ss, id, hs, h => by
  obtain ⟨h1, h2⟩ := List.cons.inj hs
  injection h1 with a1 a2
  unfold findT at h
  rw [List.find?_cons] at h
  by_cases c : t.id = id
  ·have c2 : (t.id == id) = true := by simpa using c
   rw [c2] at h; cases h
  ·have c2 : (t.id == id) = false := by simpa using c
   rw [c2] at h
   intro j hj
   match j with
   | 0 => show s.f0 ≠ id; rw [← a1]; exact c
   | j + 1 => exact find_no ts ss id h2 h j (by simpa using hj)
set_option maxHeartbeats 1600000 in
set_option maxRecDepth 100000 in
theorem get_no (h : St l w0 w) (hrs : SchedsAt l w0 AL ss) (hn : ss.length ≤ 1000000) (id : Int) (hne : ∀ j : Nat, j < ss.length → (ss.getD j z25).f0 ≠ id) :
  Calls Try.prog 32 #[.slice AL ss.length cl, .int .i64 id] w fun e w' => e = .returned (.tuple #[.agg #[.int .i64 0, .int .i64 0, .slice none 0 0, .slice none 0 0], .bool false]) ∧ St l w0 w' := by
 have HS := Go.Lib.hid h
 have HRS := Go.Lib.hid hrs
 have HNE := Go.Lib.hid hne
 clear h hrs hne
 go_enter Try.func32, Try.ntmps32
 go_wp2_with (first | ((with_reducible refine gate_dst (N := 4) rfl ?_); refine Sl.box_st HS.out (by rfl) (cs := #[.int .i64 0, .int .i64 0, .slice none 0 0, .slice none 0 0]) (t := 25) ?hr ?_; (case hr => first | (go_simp; done) | (go_simp; rfl)); intro g4 w1_ HSn HBn; clear HBn; replace HS : Hid (St (SL.blk g4 25 #[.int .i64 0, .int .i64 0, .slice none 0 0, .slice none 0 0] :: l) w0 w1_) := Go.Lib.hid HSn; clear HSn; obtain ⟨c0_0, c0_1, c0_2, c0_3⟩ := HS.out.c4 0 _ _ _ _ _ _ rfl))
 clear c0_0 c0_1 c0_2 c0_3
 go_loopw [6] (fun i wr => ∃ k : Nat, k ≤ ss.length ∧ i = .int .i64 k ∧ St (SL.blk g4 25 #[.int .i64 0, .int .i64 0, .slice none 0 0, .slice none 0 0] :: l) w0 wr) (fun i _ => ss.length - (intOf i).toNat)
 case atStart => exact ⟨0, Nat.zero_le _, rfl, HS.out⟩
 case round =>
  clear HS
  obtain ⟨k, hkn, rfl, hS⟩ := hrel
  have HS := Go.Lib.hid hS
  clear hS
  by_cases hlt : k < ss.length
  ·obtain ⟨ad, A2, c2, A3, c3, rfl, l2, l3, hrd⟩ := HRS.out k hlt
   obtain ⟨g0, g1, g2, g3, _, _⟩ := hrd [_] wr HS.out
   clear hrd
   have hq : ((ss.getD k z25).f0 == id) = false := beq_eq_false_iff_ne.2 (HNE.out k hlt)
   generalize ss.getD k z25 = x at *
   go_wp2_with fail
   go_roundw
   case rel => exact ⟨k + 1, hlt, rfl, HS.out⟩
   case measure => simp [intOf]; omega
  ·obtain rfl : k = ss.length := by omega
   obtain ⟨c0_0, c0_1, c0_2, c0_3⟩ := HS.out.c4 0 _ _ _ _ _ _ rfl
   go_wp2_with (first | ((with_reducible refine gate_store (p := 4) rfl ?_); refine Sl.storeAll_st HS.out 0 g4 25 _ rfl [.int .i64 0, .int .i64 0, .slice none 0 0, .slice none 0 0] rfl (by rfl) (by rfl) ?hr ?_; (case hr => have f_ := HS.out.f4 0 _ _ _ _ _ _ rfl; (try obtain ⟨f0, f1, f2, f3⟩ := f_); first | (go_simp; done) | (go_simp; rfl)); intro w21_ HSn; replace HS : Hid (St (SL.blk g4 25 #[.int .i64 0, .int .i64 0, .slice none 0 0, .slice none 0 0] :: l) w0 w21_) := Go.Lib.hid HSn; clear HSn; clear c0_0 c0_1 c0_2 c0_3; obtain ⟨c0_0, c0_1, c0_2, c0_3⟩ := HS.out.c4 0 _ _ _ _ _ _ rfl))
   exact bodyPost_ret (results_list (rs := [.cell 4 25, .tmp 5]) rfl (by simp) (.cell g4 25 _ (0, 0) _ rfl (HS.out.heap 0 _ _ _ rfl) Try.underlying25 rfl (by kernel_rfl) (.tmp .nil))) rfl ⟨rfl, HS.out.drop⟩
set_option maxHeartbeats 1600000 in
set_option maxRecDepth 100000 in
theorem r_owner (h : St l w0 w) (hrs : SchedsAt l w0 AL ss) (hn : ss.length ≤ 1000000) (hsm : ∀ s ∈ ss, Small s.f2 ∧ Small s.f3) (hsrc : ts.map Tb.src = ss.map srcS) (K : ∀ y ∈ ts, TbOk y) (U : Uniq ts) (G : Good ts x) : Calls Try.prog 73 #[.agg #[.slice AL ss.length cl, .int .i64 x.cur.id, .int .i64 x.due, .int .i64 x.t, .int .u64 x.now, .int .u64 x.frames]] w fun e w' => e = .returned (.int .i64 (ownW x.cur.ws x.t)) ∧ St l w0 w' := by
 obtain ⟨n, hk, n0, n1, n2, n3⟩ := find_idx ts ss x.cur.id x.cur hsrc (U _ G.cur)
 have HS := Go.Lib.hid h
 have HRS := Go.Lib.hid hrs
 have HSM := Go.Lib.hid (hsm _ (get_len hk))
 have HN0 := Go.Lib.hid n0
 have HN1 := Go.Lib.hid n1
 have HN2 := Go.Lib.hid n2
 have HN3 := Go.Lib.hid n3
 have hfr := (K _ G.cur).hi
 have ht0 := G.t0
 have ht1 := G.t1
 clear h hrs hsm hsrc n0 n1 n2 n3
 go_enter Try.func73, Try.ntmps73
 go_wp2_with (first | ((with_reducible refine gate_dst (N := 1) rfl ?_); refine Sl.box_st HS.out (by rfl) (cs := #[.slice AL ss.length cl, .int .i64 x.cur.id, .int .i64 x.due, .int .i64 x.t, .int .u64 x.now, .int .u64 x.frames]) (t := 69) ?hr ?_; (case hr => first | (go_simp; done) | (go_simp; rfl)); intro g1 w1_ HSn HBn; clear HBn; replace HS : Hid (St (SL.blk g1 69 #[.slice AL ss.length cl, .int .i64 x.cur.id, .int .i64 x.due, .int .i64 x.t, .int .u64 x.now, .int .u64 x.frames] :: l) w0 w1_) := Go.Lib.hid HSn; clear HSn; obtain ⟨c0_0, c0_1, c0_2, c0_3, c0_4, c0_5⟩ := HS.out.c6 0 _ _ _ _ _ _ _ _ rfl))
 refine (get_yes HS.out AL cl ss (HRS.out.more [SL.blk g1 69 #[.slice AL ss.length cl, .int .i64 x.cur.id, .int .i64 x.due, .int .i64 x.t, .int .u64 x.now, .int .u64 x.frames]]) hn x.cur.id n hk HN0.out HN3.out).mono ?_
 rintro e wg ⟨A2, c2, A3, c3, rfl, l2, l3, hrd, hSg⟩
 replace HS := Go.Lib.hid hSg
 have HRD := Go.Lib.hid hrd
 clear hrd hSg
 have hs1 := HN1.out
 have hs2 := HN2.out
 have hss := HSM.out
 obtain ⟨s, hs⟩ : ∃ s, s = ss.getD n z25 := ⟨_, rfl⟩
 rw [← hs] at l2 l3 HRD hs1 hs2 hss ⊢
 clear hs HN0 HN1 HN2 HN3 HSM
 clear c0_0 c0_1 c0_2 c0_3 c0_4 c0_5
 obtain ⟨c0_0, c0_1, c0_2, c0_3, c0_4, c0_5⟩ := HS.out.c6 0 _ _ _ _ _ _ _ _ rfl
 have how := Tab.owner_is (a := s.f0) (fr := s.f1) (t := x.t) (ns := s.f3) hss.1 (s.f2.length + 2) (Nat.le_refl _)
 rw [if_neg (by rw [hs1]; omega), hs2] at how
 skip
 have HOW : Hid (countwheelref13_Owner.f (s.f2.length + 2) s.f0 s.f1 s.f2 s.f3 x.t = some (ownW x.cur.ws x.t)) := Go.Lib.hid (by rw [hs2]; exact how)
 clear how hs1 hs2 hss
 go_wp2_with (first | ((with_reducible refine gate_dst (N := 3) rfl ?_); refine Sl.box_st HS.out (by rfl) (cs := #[.int .i64 0, .int .i64 0, .slice none 0 0, .slice none 0 0]) (t := 25) ?hr ?_; (case hr => first | (go_simp; done) | (go_simp; rfl)); intro g3 w21_ HSn HBn; clear HBn; replace HS : Hid (St (SL.blk g3 25 #[.int .i64 0, .int .i64 0, .slice none 0 0, .slice none 0 0] :: SL.blk g1 69 #[.slice AL ss.length cl, .int .i64 x.cur.id, .int .i64 x.due, .int .i64 x.t, .int .u64 x.now, .int .u64 x.frames] :: l) w0 w21_) := Go.Lib.hid HSn; clear HSn; clear c0_0 c0_1 c0_2 c0_3 c0_4 c0_5; obtain ⟨c0_0, c0_1, c0_2, c0_3⟩ := HS.out.c4 0 _ _ _ _ _ _ rfl; obtain ⟨c1_0, c1_1, c1_2, c1_3, c1_4, c1_5⟩ := HS.out.c6 1 _ _ _ _ _ _ _ _ rfl) | ((with_reducible refine gate_store (p := 3) rfl ?_); refine Sl.storeAll_st HS.out 0 g3 25 _ rfl [.int .i64 s.f0, .int .i64 s.f1, .slice A2 s.f2.length c2, .slice A3 s.f3.length c3] rfl (by rfl) (by rfl) ?hr ?_; (case hr => have f_ := HS.out.f4 0 _ _ _ _ _ _ rfl; (try obtain ⟨f0, f1, f2, f3⟩ := f_); first | (go_simp; done) | (go_simp; rfl)); intro w22_ HSn; replace HS : Hid (St (SL.blk g3 25 #[.int .i64 s.f0, .int .i64 s.f1, .slice A2 s.f2.length c2, .slice A3 s.f3.length c3] :: SL.blk g1 69 #[.slice AL ss.length cl, .int .i64 x.cur.id, .int .i64 x.due, .int .i64 x.t, .int .u64 x.now, .int .u64 x.frames] :: l) w0 w22_) := Go.Lib.hid HSn; clear HSn; clear c0_0 c0_1 c0_2 c0_3 c1_0 c1_1 c1_2 c1_3 c1_4 c1_5; obtain ⟨c0_0, c0_1, c0_2, c0_3⟩ := HS.out.c4 0 _ _ _ _ _ _ rfl; obtain ⟨c1_0, c1_1, c1_2, c1_3, c1_4, c1_5⟩ := HS.out.c6 1 _ _ _ _ _ _ _ _ rfl) | (go_at_call 15; refine (countwheelref13_Owner.calls _ s.f0 s.f1 A2 c2 s.f2 A3 c3 s.f3 x.t _ _ (HRD.out [_] _ HS.out).1 l2 (HRD.out [_] _ HS.out).2 l3 HOW.out).mono ?_; rintro e w30_ ⟨rfl, hB⟩; replace HS := Go.Lib.hid (HS.out.then_ hB); clear hB))
 go_ret
 exact ⟨rfl, HS.out.drop.drop⟩
set_option maxHeartbeats 1600000 in
set_option maxRecDepth 100000 in
theorem r_left (h : St l w0 w) (hrs : SchedsAt l w0 AL ss) (hn : ss.length ≤ 1000000) (hsm : ∀ s ∈ ss, Small s.f2 ∧ Small s.f3) (hsrc : ts.map Tb.src = ss.map srcS) (K : ∀ y ∈ ts, TbOk y) (U : Uniq ts) (G : Good ts x) : Calls Try.prog 74 #[.agg #[.slice AL ss.length cl, .int .i64 x.cur.id, .int .i64 x.due, .int .i64 x.t, .int .u64 x.now, .int .u64 x.frames]] w fun e w' => e = .returned (.int .i64 (x.cur.fr - x.t)) ∧ St l w0 w' := by
 obtain ⟨n, hk, n0, n1, n2, n3⟩ := find_idx ts ss x.cur.id x.cur hsrc (U _ G.cur)
 have HS := Go.Lib.hid h
 have HRS := Go.Lib.hid hrs
 have HSM := Go.Lib.hid (hsm _ (get_len hk))
 have HN0 := Go.Lib.hid n0
 have HN1 := Go.Lib.hid n1
 have HN2 := Go.Lib.hid n2
 have HN3 := Go.Lib.hid n3
 have hfr := (K _ G.cur).hi
 have ht0 := G.t0
 have ht1 := G.t1
 clear h hrs hsm hsrc n0 n1 n2 n3
 go_enter Try.func74, Try.ntmps74
 go_wp2_with (first | ((with_reducible refine gate_dst (N := 1) rfl ?_); refine Sl.box_st HS.out (by rfl) (cs := #[.slice AL ss.length cl, .int .i64 x.cur.id, .int .i64 x.due, .int .i64 x.t, .int .u64 x.now, .int .u64 x.frames]) (t := 69) ?hr ?_; (case hr => first | (go_simp; done) | (go_simp; rfl)); intro g1 w1_ HSn HBn; clear HBn; replace HS : Hid (St (SL.blk g1 69 #[.slice AL ss.length cl, .int .i64 x.cur.id, .int .i64 x.due, .int .i64 x.t, .int .u64 x.now, .int .u64 x.frames] :: l) w0 w1_) := Go.Lib.hid HSn; clear HSn; obtain ⟨c0_0, c0_1, c0_2, c0_3, c0_4, c0_5⟩ := HS.out.c6 0 _ _ _ _ _ _ _ _ rfl))
 refine (get_yes HS.out AL cl ss (HRS.out.more [SL.blk g1 69 #[.slice AL ss.length cl, .int .i64 x.cur.id, .int .i64 x.due, .int .i64 x.t, .int .u64 x.now, .int .u64 x.frames]]) hn x.cur.id n hk HN0.out HN3.out).mono ?_
 rintro e wg ⟨A2, c2, A3, c3, rfl, l2, l3, hrd, hSg⟩
 replace HS := Go.Lib.hid hSg
 have HRD := Go.Lib.hid hrd
 clear hrd hSg
 have hs1 := HN1.out
 have hs2 := HN2.out
 have hss := HSM.out
 obtain ⟨s, hs⟩ : ∃ s, s = ss.getD n z25 := ⟨_, rfl⟩
 rw [← hs] at l2 l3 HRD hs1 hs2 hss ⊢
 clear hs HN0 HN1 HN2 HN3 HSM
 clear c0_0 c0_1 c0_2 c0_3 c0_4 c0_5
 obtain ⟨c0_0, c0_1, c0_2, c0_3, c0_4, c0_5⟩ := HS.out.c6 0 _ _ _ _ _ _ _ _ rfl
 have hs3 : s.f1 ≤ 60 := by omega
 have HSX := Go.Lib.hid hs1
 have hs4 : 0 ≤ s.f1 := by omega
 have hs5 : x.t ≤ 60 := by omega
 clear hs1 hs2 hss
 go_wp2_with (first | ((with_reducible refine gate_dst (N := 3) rfl ?_); refine Sl.box_st HS.out (by rfl) (cs := #[.int .i64 0, .int .i64 0, .slice none 0 0, .slice none 0 0]) (t := 25) ?hr ?_; (case hr => first | (go_simp; done) | (go_simp; rfl)); intro g3 w21_ HSn HBn; clear HBn; replace HS : Hid (St (SL.blk g3 25 #[.int .i64 0, .int .i64 0, .slice none 0 0, .slice none 0 0] :: SL.blk g1 69 #[.slice AL ss.length cl, .int .i64 x.cur.id, .int .i64 x.due, .int .i64 x.t, .int .u64 x.now, .int .u64 x.frames] :: l) w0 w21_) := Go.Lib.hid HSn; clear HSn; clear c0_0 c0_1 c0_2 c0_3 c0_4 c0_5; obtain ⟨c0_0, c0_1, c0_2, c0_3⟩ := HS.out.c4 0 _ _ _ _ _ _ rfl; obtain ⟨c1_0, c1_1, c1_2, c1_3, c1_4, c1_5⟩ := HS.out.c6 1 _ _ _ _ _ _ _ _ rfl) | ((with_reducible refine gate_store (p := 3) rfl ?_); refine Sl.storeAll_st HS.out 0 g3 25 _ rfl [.int .i64 s.f0, .int .i64 s.f1, .slice A2 s.f2.length c2, .slice A3 s.f3.length c3] rfl (by rfl) (by rfl) ?hr ?_; (case hr => have f_ := HS.out.f4 0 _ _ _ _ _ _ rfl; (try obtain ⟨f0, f1, f2, f3⟩ := f_); first | (go_simp; done) | (go_simp; rfl)); intro w22_ HSn; replace HS : Hid (St (SL.blk g3 25 #[.int .i64 s.f0, .int .i64 s.f1, .slice A2 s.f2.length c2, .slice A3 s.f3.length c3] :: SL.blk g1 69 #[.slice AL ss.length cl, .int .i64 x.cur.id, .int .i64 x.due, .int .i64 x.t, .int .u64 x.now, .int .u64 x.frames] :: l) w0 w22_) := Go.Lib.hid HSn; clear HSn; clear c0_0 c0_1 c0_2 c0_3 c1_0 c1_1 c1_2 c1_3 c1_4 c1_5; obtain ⟨c0_0, c0_1, c0_2, c0_3⟩ := HS.out.c4 0 _ _ _ _ _ _ rfl; obtain ⟨c1_0, c1_1, c1_2, c1_3, c1_4, c1_5⟩ := HS.out.c6 1 _ _ _ _ _ _ _ _ rfl))
 go_ret
 exact ⟨by rw [HSX.out]; rfl, HS.out.drop.drop⟩
set_option maxHeartbeats 1600000 in
set_option maxRecDepth 100000 in
theorem r_make (h : St l w0 w) (hrs : SchedsAt l w0 AL ss) (hn : ss.length ≤ 1000000) (hsrc : ts.map Tb.src = ss.map srcS) (id : Int) : Calls Try.prog 35 #[.agg #[.slice AL ss.length cl, .int .i64 x.cur.id, .int .i64 x.due, .int .i64 x.t, .int .u64 x.now, .int .u64 x.frames], .int .i64 id] w fun e w' => e = .returned (.tuple #[.agg #[.slice AL ss.length cl, .int .i64 (x.make ts id).cur.id, .int .i64 (x.make ts id).due, .int .i64 (x.make ts id).t, .int .u64 (x.make ts id).now, .int .u64 (x.make ts id).frames], .bool (findT ts id).isSome]) ∧ St l w0 w' := by
 have HS := Go.Lib.hid h
 have HRS := Go.Lib.hid hrs
 clear h hrs
 unfold EM.make
 cases c : findT ts id with
 | none =>
  have HNO := Go.Lib.hid (find_no ts ss id hsrc c)
  clear c hsrc
  go_enter Try.func35, Try.ntmps35
  go_wp2_with (first | ((with_reducible refine gate_dst (N := 2) rfl ?_); refine Sl.box_st HS.out (by rfl) (cs := #[.slice AL ss.length cl, .int .i64 x.cur.id, .int .i64 x.due, .int .i64 x.t, .int .u64 x.now, .int .u64 x.frames]) (t := 69) ?hr ?_; (case hr => first | (go_simp; done) | (go_simp; rfl)); intro g2 w1_ HSn HBn; clear HBn; replace HS : Hid (St (SL.blk g2 69 #[.slice AL ss.length cl, .int .i64 x.cur.id, .int .i64 x.due, .int .i64 x.t, .int .u64 x.now, .int .u64 x.frames] :: l) w0 w1_) := Go.Lib.hid HSn; clear HSn; obtain ⟨c0_0, c0_1, c0_2, c0_3, c0_4, c0_5⟩ := HS.out.c6 0 _ _ _ _ _ _ _ _ rfl) | ((with_reducible refine gate_dst (N := 4) rfl ?_); refine Sl.box_st HS.out (by rfl) (cs := #[.slice none 0 0, .int .i64 0, .int .i64 0, .int .i64 0, .int .u64 0, .int .u64 0]) (t := 69) ?hr ?_; (case hr => first | (go_simp; done) | (go_simp; rfl)); intro g4 w2_ HSn HBn; clear HBn; replace HS : Hid (St (SL.blk g4 69 #[.slice none 0 0, .int .i64 0, .int .i64 0, .int .i64 0, .int .u64 0, .int .u64 0] :: SL.blk g2 69 #[.slice AL ss.length cl, .int .i64 x.cur.id, .int .i64 x.due, .int .i64 x.t, .int .u64 x.now, .int .u64 x.frames] :: l) w0 w2_) := Go.Lib.hid HSn; clear HSn; clear c0_0 c0_1 c0_2 c0_3 c0_4 c0_5; obtain ⟨c0_0, c0_1, c0_2, c0_3, c0_4, c0_5⟩ := HS.out.c6 0 _ _ _ _ _ _ _ _ rfl; obtain ⟨c1_0, c1_1, c1_2, c1_3, c1_4, c1_5⟩ := HS.out.c6 1 _ _ _ _ _ _ _ _ rfl) | (go_at_call 32; refine (get_no HS.out (HRS.out.more [SL.blk g4 69 #[.slice none 0 0, .int .i64 0, .int .i64 0, .int .i64 0, .int .u64 0, .int .u64 0], SL.blk g2 69 #[.slice AL ss.length cl, .int .i64 x.cur.id, .int .i64 x.due, .int .i64 x.t, .int .u64 x.now, .int .u64 x.frames]]) hn id HNO.out).mono ?_; rintro e wg ⟨rfl, hSg⟩; replace HS : Hid (St (SL.blk g4 69 #[.slice none 0 0, .int .i64 0, .int .i64 0, .int .i64 0, .int .u64 0, .int .u64 0] :: SL.blk g2 69 #[.slice AL ss.length cl, .int .i64 x.cur.id, .int .i64 x.due, .int .i64 x.t, .int .u64 x.now, .int .u64 x.frames] :: l) w0 wg) := Go.Lib.hid hSg; clear hSg; clear c0_0 c0_1 c0_2 c0_3 c0_4 c0_5 c1_0 c1_1 c1_2 c1_3 c1_4 c1_5; obtain ⟨c0_0, c0_1, c0_2, c0_3, c0_4, c0_5⟩ := HS.out.c6 0 _ _ _ _ _ _ _ _ rfl; obtain ⟨c1_0, c1_1, c1_2, c1_3, c1_4, c1_5⟩ := HS.out.c6 1 _ _ _ _ _ _ _ _ rfl) | ((with_reducible refine gate_dst (N := 6) rfl ?_); refine Sl.box_st HS.out (by rfl) (cs := #[.int .i64 0, .int .i64 0, .slice none 0 0, .slice none 0 0]) (t := 25) ?hr ?_; (case hr => first | (go_simp; done) | (go_simp; rfl)); intro g6 w31_ HSn HBn; clear HBn; replace HS : Hid (St (SL.blk g6 25 #[.int .i64 0, .int .i64 0, .slice none 0 0, .slice none 0 0] :: SL.blk g4 69 #[.slice none 0 0, .int .i64 0, .int .i64 0, .int .i64 0, .int .u64 0, .int .u64 0] :: SL.blk g2 69 #[.slice AL ss.length cl, .int .i64 x.cur.id, .int .i64 x.due, .int .i64 x.t, .int .u64 x.now, .int .u64 x.frames] :: l) w0 w31_) := Go.Lib.hid HSn; clear HSn; clear c0_0 c0_1 c0_2 c0_3 c0_4 c0_5 c1_0 c1_1 c1_2 c1_3 c1_4 c1_5; obtain ⟨c0_0, c0_1, c0_2, c0_3⟩ := HS.out.c4 0 _ _ _ _ _ _ rfl; obtain ⟨c1_0, c1_1, c1_2, c1_3, c1_4, c1_5⟩ := HS.out.c6 1 _ _ _ _ _ _ _ _ rfl; obtain ⟨c2_0, c2_1, c2_2, c2_3, c2_4, c2_5⟩ := HS.out.c6 2 _ _ _ _ _ _ _ _ rfl) | ((with_reducible refine gate_store (p := 6) rfl ?_); refine Sl.storeAll_st HS.out 0 g6 25 _ rfl [.int .i64 0, .int .i64 0, .slice none 0 0, .slice none 0 0] rfl (by rfl) (by rfl) ?hr ?_; (case hr => have f_ := HS.out.f4 0 _ _ _ _ _ _ rfl; (try obtain ⟨f0, f1, f2, f3⟩ := f_); first | (go_simp; done) | (go_simp; rfl)); intro w32_ HSn; replace HS : Hid (St (SL.blk g6 25 #[.int .i64 0, .int .i64 0, .slice none 0 0, .slice none 0 0] :: SL.blk g4 69 #[.slice none 0 0, .int .i64 0, .int .i64 0, .int .i64 0, .int .u64 0, .int .u64 0] :: SL.blk g2 69 #[.slice AL ss.length cl, .int .i64 x.cur.id, .int .i64 x.due, .int .i64 x.t, .int .u64 x.now, .int .u64 x.frames] :: l) w0 w32_) := Go.Lib.hid HSn; clear HSn; clear c0_0 c0_1 c0_2 c0_3 c1_0 c1_1 c1_2 c1_3 c1_4 c1_5 c2_0 c2_1 c2_2 c2_3 c2_4 c2_5; obtain ⟨c0_0, c0_1, c0_2, c0_3⟩ := HS.out.c4 0 _ _ _ _ _ _ rfl; obtain ⟨c1_0, c1_1, c1_2, c1_3, c1_4, c1_5⟩ := HS.out.c6 1 _ _ _ _ _ _ _ _ rfl; obtain ⟨c2_0, c2_1, c2_2, c2_3, c2_4, c2_5⟩ := HS.out.c6 2 _ _ _ _ _ _ _ _ rfl) | ((with_reducible refine gate_store (p := 4) rfl ?_); refine Sl.storeAll_st HS.out 1 g4 69 _ rfl [.slice AL ss.length cl, .int .i64 x.cur.id, .int .i64 x.due, .int .i64 x.t, .int .u64 x.now, .int .u64 x.frames] rfl (by rfl) (by rfl) ?hr ?_; (case hr => have f_ := HS.out.f6 1 _ _ _ _ _ _ _ _ rfl; (try obtain ⟨f0, f1, f2, f3, f4, f5⟩ := f_); first | (go_simp; done) | (go_simp; rfl)); intro w33_ HSn; replace HS : Hid (St (SL.blk g6 25 #[.int .i64 0, .int .i64 0, .slice none 0 0, .slice none 0 0] :: SL.blk g4 69 #[.slice AL ss.length cl, .int .i64 x.cur.id, .int .i64 x.due, .int .i64 x.t, .int .u64 x.now, .int .u64 x.frames] :: SL.blk g2 69 #[.slice AL ss.length cl, .int .i64 x.cur.id, .int .i64 x.due, .int .i64 x.t, .int .u64 x.now, .int .u64 x.frames] :: l) w0 w33_) := Go.Lib.hid HSn; clear HSn; clear c0_0 c0_1 c0_2 c0_3 c1_0 c1_1 c1_2 c1_3 c1_4 c1_5 c2_0 c2_1 c2_2 c2_3 c2_4 c2_5; obtain ⟨c0_0, c0_1, c0_2, c0_3⟩ := HS.out.c4 0 _ _ _ _ _ _ rfl; obtain ⟨c1_0, c1_1, c1_2, c1_3, c1_4, c1_5⟩ := HS.out.c6 1 _ _ _ _ _ _ _ _ rfl; obtain ⟨c2_0, c2_1, c2_2, c2_3, c2_4, c2_5⟩ := HS.out.c6 2 _ _ _ _ _ _ _ _ rfl))
  exact bodyPost_ret (results_list (rs := [.cell 4 69, .tmp 5]) rfl (by simp) (.cell g4 69 _ (0, 0) _ rfl (HS.out.heap 1 _ _ _ rfl) Try.underlying69 rfl (by kernel_rfl) (.tmp .nil))) rfl ⟨rfl, HS.out.drop.drop.drop⟩
 | some y =>
  obtain ⟨n, hk, n0, n1, n2, n3⟩ := find_idx ts ss id y hsrc c
  have HN0 := Go.Lib.hid n0
  have HN3 := Go.Lib.hid n3
  clear c hsrc n0 n1 n2 n3
  go_enter Try.func35, Try.ntmps35
  go_wp2_with (first | ((with_reducible refine gate_dst (N := 2) rfl ?_); refine Sl.box_st HS.out (by rfl) (cs := #[.slice AL ss.length cl, .int .i64 x.cur.id, .int .i64 x.due, .int .i64 x.t, .int .u64 x.now, .int .u64 x.frames]) (t := 69) ?hr ?_; (case hr => first | (go_simp; done) | (go_simp; rfl)); intro g2 w1_ HSn HBn; clear HBn; replace HS : Hid (St (SL.blk g2 69 #[.slice AL ss.length cl, .int .i64 x.cur.id, .int .i64 x.due, .int .i64 x.t, .int .u64 x.now, .int .u64 x.frames] :: l) w0 w1_) := Go.Lib.hid HSn; clear HSn; obtain ⟨c0_0, c0_1, c0_2, c0_3, c0_4, c0_5⟩ := HS.out.c6 0 _ _ _ _ _ _ _ _ rfl) | ((with_reducible refine gate_dst (N := 4) rfl ?_); refine Sl.box_st HS.out (by rfl) (cs := #[.slice none 0 0, .int .i64 0, .int .i64 0, .int .i64 0, .int .u64 0, .int .u64 0]) (t := 69) ?hr ?_; (case hr => first | (go_simp; done) | (go_simp; rfl)); intro g4 w2_ HSn HBn; clear HBn; replace HS : Hid (St (SL.blk g4 69 #[.slice none 0 0, .int .i64 0, .int .i64 0, .int .i64 0, .int .u64 0, .int .u64 0] :: SL.blk g2 69 #[.slice AL ss.length cl, .int .i64 x.cur.id, .int .i64 x.due, .int .i64 x.t, .int .u64 x.now, .int .u64 x.frames] :: l) w0 w2_) := Go.Lib.hid HSn; clear HSn; clear c0_0 c0_1 c0_2 c0_3 c0_4 c0_5; obtain ⟨c0_0, c0_1, c0_2, c0_3, c0_4, c0_5⟩ := HS.out.c6 0 _ _ _ _ _ _ _ _ rfl; obtain ⟨c1_0, c1_1, c1_2, c1_3, c1_4, c1_5⟩ := HS.out.c6 1 _ _ _ _ _ _ _ _ rfl) | (go_at_call 32; refine (get_yes HS.out AL cl ss (HRS.out.more [SL.blk g4 69 #[.slice none 0 0, .int .i64 0, .int .i64 0, .int .i64 0, .int .u64 0, .int .u64 0], SL.blk g2 69 #[.slice AL ss.length cl, .int .i64 x.cur.id, .int .i64 x.due, .int .i64 x.t, .int .u64 x.now, .int .u64 x.frames]]) hn id n hk HN0.out HN3.out).mono ?_; rintro e wg ⟨A2, c2, A3, c3, rfl, l2, l3, hrd, hSg⟩; replace HS : Hid (St (SL.blk g4 69 #[.slice none 0 0, .int .i64 0, .int .i64 0, .int .i64 0, .int .u64 0, .int .u64 0] :: SL.blk g2 69 #[.slice AL ss.length cl, .int .i64 x.cur.id, .int .i64 x.due, .int .i64 x.t, .int .u64 x.now, .int .u64 x.frames] :: l) w0 wg) := Go.Lib.hid hSg; clear hSg hrd; generalize ss.getD n z25 = s at *; clear c0_0 c0_1 c0_2 c0_3 c0_4 c0_5 c1_0 c1_1 c1_2 c1_3 c1_4 c1_5; obtain ⟨c0_0, c0_1, c0_2, c0_3, c0_4, c0_5⟩ := HS.out.c6 0 _ _ _ _ _ _ _ _ rfl; obtain ⟨c1_0, c1_1, c1_2, c1_3, c1_4, c1_5⟩ := HS.out.c6 1 _ _ _ _ _ _ _ _ rfl) | ((with_reducible refine gate_dst (N := 6) rfl ?_); refine Sl.box_st HS.out (by rfl) (cs := #[.int .i64 0, .int .i64 0, .slice none 0 0, .slice none 0 0]) (t := 25) ?hr ?_; (case hr => first | (go_simp; done) | (go_simp; rfl)); intro g6 w31_ HSn HBn; clear HBn; replace HS : Hid (St (SL.blk g6 25 #[.int .i64 0, .int .i64 0, .slice none 0 0, .slice none 0 0] :: SL.blk g4 69 #[.slice none 0 0, .int .i64 0, .int .i64 0, .int .i64 0, .int .u64 0, .int .u64 0] :: SL.blk g2 69 #[.slice AL ss.length cl, .int .i64 x.cur.id, .int .i64 x.due, .int .i64 x.t, .int .u64 x.now, .int .u64 x.frames] :: l) w0 w31_) := Go.Lib.hid HSn; clear HSn; clear c0_0 c0_1 c0_2 c0_3 c0_4 c0_5 c1_0 c1_1 c1_2 c1_3 c1_4 c1_5; obtain ⟨c0_0, c0_1, c0_2, c0_3⟩ := HS.out.c4 0 _ _ _ _ _ _ rfl; obtain ⟨c1_0, c1_1, c1_2, c1_3, c1_4, c1_5⟩ := HS.out.c6 1 _ _ _ _ _ _ _ _ rfl; obtain ⟨c2_0, c2_1, c2_2, c2_3, c2_4, c2_5⟩ := HS.out.c6 2 _ _ _ _ _ _ _ _ rfl) | ((with_reducible refine gate_store (p := 6) rfl ?_); refine Sl.storeAll_st HS.out 0 g6 25 _ rfl [.int .i64 s.f0, .int .i64 s.f1, .slice A2 s.f2.length c2, .slice A3 s.f3.length c3] rfl (by rfl) (by rfl) ?hr ?_; (case hr => have f_ := HS.out.f4 0 _ _ _ _ _ _ rfl; (try obtain ⟨f0, f1, f2, f3⟩ := f_); first | (go_simp; done) | (go_simp; rfl)); intro w32_ HSn; replace HS : Hid (St (SL.blk g6 25 #[.int .i64 s.f0, .int .i64 s.f1, .slice A2 s.f2.length c2, .slice A3 s.f3.length c3] :: SL.blk g4 69 #[.slice none 0 0, .int .i64 0, .int .i64 0, .int .i64 0, .int .u64 0, .int .u64 0] :: SL.blk g2 69 #[.slice AL ss.length cl, .int .i64 x.cur.id, .int .i64 x.due, .int .i64 x.t, .int .u64 x.now, .int .u64 x.frames] :: l) w0 w32_) := Go.Lib.hid HSn; clear HSn; clear c0_0 c0_1 c0_2 c0_3 c1_0 c1_1 c1_2 c1_3 c1_4 c1_5 c2_0 c2_1 c2_2 c2_3 c2_4 c2_5; obtain ⟨c0_0, c0_1, c0_2, c0_3⟩ := HS.out.c4 0 _ _ _ _ _ _ rfl; obtain ⟨c1_0, c1_1, c1_2, c1_3, c1_4, c1_5⟩ := HS.out.c6 1 _ _ _ _ _ _ _ _ rfl; obtain ⟨c2_0, c2_1, c2_2, c2_3, c2_4, c2_5⟩ := HS.out.c6 2 _ _ _ _ _ _ _ _ rfl) | ((with_reducible refine gate_store (p := 17) rfl ?_); refine Sl.store_st HS.out 2 g2 69 _ rfl 2 (.int .i64 id) (by rfl) (by rfl) ?hr ?_; (case hr => have f_ := HS.out.free 2 _ _ _ rfl 2; first | (go_simp; done) | (go_simp; rfl)); intro w33_ HSn; replace HS : Hid (St (SL.blk g6 25 #[.int .i64 s.f0, .int .i64 s.f1, .slice A2 s.f2.length c2, .slice A3 s.f3.length c3] :: SL.blk g4 69 #[.slice none 0 0, .int .i64 0, .int .i64 0, .int .i64 0, .int .u64 0, .int .u64 0] :: SL.blk g2 69 #[.slice AL ss.length cl, .int .i64 x.cur.id, .int .i64 id, .int .i64 x.t, .int .u64 x.now, .int .u64 x.frames] :: l) w0 w33_) := Go.Lib.hid HSn; clear HSn; clear c0_0 c0_1 c0_2 c0_3 c1_0 c1_1 c1_2 c1_3 c1_4 c1_5 c2_0 c2_1 c2_2 c2_3 c2_4 c2_5; obtain ⟨c0_0, c0_1, c0_2, c0_3⟩ := HS.out.c4 0 _ _ _ _ _ _ rfl; obtain ⟨c1_0, c1_1, c1_2, c1_3, c1_4, c1_5⟩ := HS.out.c6 1 _ _ _ _ _ _ _ _ rfl; obtain ⟨c2_0, c2_1, c2_2, c2_3, c2_4, c2_5⟩ := HS.out.c6 2 _ _ _ _ _ _ _ _ rfl) | ((with_reducible refine gate_store (p := 4) rfl ?_); refine Sl.storeAll_st HS.out 1 g4 69 _ rfl [.slice AL ss.length cl, .int .i64 x.cur.id, .int .i64 id, .int .i64 x.t, .int .u64 x.now, .int .u64 x.frames] rfl (by rfl) (by rfl) ?hr ?_; (case hr => have f_ := HS.out.f6 1 _ _ _ _ _ _ _ _ rfl; (try obtain ⟨f0, f1, f2, f3, f4, f5⟩ := f_); first | (go_simp; done) | (go_simp; rfl)); intro w34_ HSn; replace HS : Hid (St (SL.blk g6 25 #[.int .i64 s.f0, .int .i64 s.f1, .slice A2 s.f2.length c2, .slice A3 s.f3.length c3] :: SL.blk g4 69 #[.slice AL ss.length cl, .int .i64 x.cur.id, .int .i64 id, .int .i64 x.t, .int .u64 x.now, .int .u64 x.frames] :: SL.blk g2 69 #[.slice AL ss.length cl, .int .i64 x.cur.id, .int .i64 id, .int .i64 x.t, .int .u64 x.now, .int .u64 x.frames] :: l) w0 w34_) := Go.Lib.hid HSn; clear HSn; clear c0_0 c0_1 c0_2 c0_3 c1_0 c1_1 c1_2 c1_3 c1_4 c1_5 c2_0 c2_1 c2_2 c2_3 c2_4 c2_5; obtain ⟨c0_0, c0_1, c0_2, c0_3⟩ := HS.out.c4 0 _ _ _ _ _ _ rfl; obtain ⟨c1_0, c1_1, c1_2, c1_3, c1_4, c1_5⟩ := HS.out.c6 1 _ _ _ _ _ _ _ _ rfl; obtain ⟨c2_0, c2_1, c2_2, c2_3, c2_4, c2_5⟩ := HS.out.c6 2 _ _ _ _ _ _ _ _ rfl))
  exact bodyPost_ret (results_list (rs := [.cell 4 69, .tmp 5]) rfl (by simp) (.cell g4 69 _ (0, 0) _ rfl (HS.out.heap 1 _ _ _ rfl) Try.underlying69 rfl (by kernel_rfl) (.tmp .nil))) rfl ⟨rfl, HS.out.drop.drop.drop⟩
theorem tick_agg (ts : List Tb) (x : EM) : True := trivial
set_option maxHeartbeats 3200000 in
set_option maxRecDepth 100000 in
theorem r_tick (h : St l w0 w) (hrs : SchedsAt l w0 AL ss) (hn : ss.length ≤ 1000000) (hsm : ∀ s ∈ ss, Small s.f2 ∧ Small s.f3) (hsrc : ts.map Tb.src = ss.map srcS) (K : ∀ y ∈ ts, TbOk y) (U : Uniq ts) (G : Good ts x) : Calls Try.prog 36 #[.agg #[.slice AL ss.length cl, .int .i64 x.cur.id, .int .i64 x.due, .int .i64 x.t, .int .u64 x.now, .int .u64 x.frames]] w fun e w' => e = .returned (.tuple #[.agg #[.slice AL ss.length cl, .int .i64 (x.tick ts).cur.id, .int .i64 (x.tick ts).due, .int .i64 (x.tick ts).t, .int .u64 (x.tick ts).now, .int .u64 (x.tick ts).frames], .int .i64 x.own, .bool x.bnd, .bool x.live]) ∧ St l w0 w' := by
 have HS := Go.Lib.hid h
 have HRS := Go.Lib.hid hrs
 have HSM := Go.Lib.hid hsm
 have HSRC := Go.Lib.hid hsrc
 have HK := Go.Lib.hid K
 have HU := Go.Lib.hid U
 have HG := Go.Lib.hid G
 have a0 := G.t0; have a1 := G.t1; have b0 := G.now0; have b1 := G.now1; have c0 := G.f0; have c1 := G.f1
 have hfr := (K _ G.cur).hi
 obtain ⟨y, hy⟩ := G.due
 have HY := Go.Lib.hid hy
 have HYI := Go.Lib.hid (findT_mem hy).2
 clear h hrs hsm hsrc K U G hy
 unfold EM.tick EM.own EM.bnd EM.live
 by_cases h1 : x.now = 18446744073709551615
 ·have hq : (x.now == 18446744073709551615) = true := by simpa using h1
  rw [if_pos h1, if_pos h1, if_pos h1, if_pos h1]
  clear h1
  go_enter Try.func36, Try.ntmps36
  go_wp2_with (first | ((with_reducible refine gate_dst (N := 1) rfl ?_); refine Sl.box_st HS.out (by rfl) (cs := #[.slice AL ss.length cl, .int .i64 x.cur.id, .int .i64 x.due, .int .i64 x.t, .int .u64 x.now, .int .u64 x.frames]) (t := 69) ?hr ?_; (case hr => first | (go_simp; done) | (go_simp; rfl)); intro g1 w1_ HSn HBn; clear HBn; replace HS : Hid (St (SL.blk g1 69 #[.slice AL ss.length cl, .int .i64 x.cur.id, .int .i64 x.due, .int .i64 x.t, .int .u64 x.now, .int .u64 x.frames] :: l) w0 w1_) := Go.Lib.hid HSn; clear HSn; obtain ⟨c0_0, c0_1, c0_2, c0_3, c0_4, c0_5⟩ := HS.out.c6 0 _ _ _ _ _ _ _ _ rfl) | ((with_reducible refine gate_dst (N := 2) rfl ?_); refine Sl.box_st HS.out (by rfl) (cs := #[.slice none 0 0, .int .i64 0, .int .i64 0, .int .i64 0, .int .u64 0, .int .u64 0]) (t := 69) ?hr ?_; (case hr => first | (go_simp; done) | (go_simp; rfl)); intro g2 w2_ HSn HBn; clear HBn; replace HS : Hid (St (SL.blk g2 69 #[.slice none 0 0, .int .i64 0, .int .i64 0, .int .i64 0, .int .u64 0, .int .u64 0] :: SL.blk g1 69 #[.slice AL ss.length cl, .int .i64 x.cur.id, .int .i64 x.due, .int .i64 x.t, .int .u64 x.now, .int .u64 x.frames] :: l) w0 w2_) := Go.Lib.hid HSn; clear HSn; clear c0_0 c0_1 c0_2 c0_3 c0_4 c0_5; obtain ⟨c0_0, c0_1, c0_2, c0_3, c0_4, c0_5⟩ := HS.out.c6 0 _ _ _ _ _ _ _ _ rfl; obtain ⟨c1_0, c1_1, c1_2, c1_3, c1_4, c1_5⟩ := HS.out.c6 1 _ _ _ _ _ _ _ _ rfl) | ((with_reducible refine gate_store (p := 2) rfl ?_); refine Sl.storeAll_st HS.out 0 g2 69 _ rfl [.slice AL ss.length cl, .int .i64 x.cur.id, .int .i64 x.due, .int .i64 x.t, .int .u64 x.now, .int .u64 x.frames] rfl (by rfl) (by rfl) ?hr ?_; (case hr => have f_ := HS.out.f6 0 _ _ _ _ _ _ _ _ rfl; (try obtain ⟨f0, f1, f2, f3, f4, f5⟩ := f_); first | (go_simp; done) | (go_simp; rfl)); intro w3_ HSn; replace HS : Hid (St (SL.blk g2 69 #[.slice AL ss.length cl, .int .i64 x.cur.id, .int .i64 x.due, .int .i64 x.t, .int .u64 x.now, .int .u64 x.frames] :: SL.blk g1 69 #[.slice AL ss.length cl, .int .i64 x.cur.id, .int .i64 x.due, .int .i64 x.t, .int .u64 x.now, .int .u64 x.frames] :: l) w0 w3_) := Go.Lib.hid HSn; clear HSn; clear c0_0 c0_1 c0_2 c0_3 c0_4 c0_5 c1_0 c1_1 c1_2 c1_3 c1_4 c1_5; obtain ⟨c0_0, c0_1, c0_2, c0_3, c0_4, c0_5⟩ := HS.out.c6 0 _ _ _ _ _ _ _ _ rfl; obtain ⟨c1_0, c1_1, c1_2, c1_3, c1_4, c1_5⟩ := HS.out.c6 1 _ _ _ _ _ _ _ _ rfl))
  exact bodyPost_ret (results_list (rs := [.cell 2 69, .tmp 3, .tmp 4, .tmp 5]) rfl (by simp) (.cell g2 69 _ (0, 0) _ rfl (HS.out.heap 0 _ _ _ rfl) Try.underlying69 rfl (by kernel_rfl) (.tmp (.tmp (.tmp .nil))))) rfl ⟨rfl, HS.out.drop.drop⟩
 ·have hq : (x.now == 18446744073709551615) = false := by simpa using h1
  rw [if_neg h1, if_neg h1, if_neg h1, if_neg h1]
  have hg := HG.out
  have HG2 : Hid (Good ts { x with now := x.now + 1 }) := Go.Lib.hid ⟨hg.cur, hg.t0, hg.t1, hg.due, by show 0 ≤ x.now + 1; omega, by show x.now + 1 ≤ _; omega, hg.f0, by show x.frames ≤ x.now + 1; omega⟩
  clear hg
  have h1b : x.now + 1 ≤ 18446744073709551615 := by omega
  have h1c : x.frames + 1 ≤ 18446744073709551615 := by omega
  clear h1
  by_cases h2 : x.t + 1 < x.cur.fr
  ·have hq2 : decide (1 < x.cur.fr - x.t) = true := by simp; omega
   rw [if_pos h2, decide_eq_true h2]
   clear h2
   go_enter Try.func36, Try.ntmps36
   go_wp2_with (first | ((with_reducible refine gate_dst (N := 1) rfl ?_); refine Sl.box_st HS.out (by rfl) (cs := #[.slice AL ss.length cl, .int .i64 x.cur.id, .int .i64 x.due, .int .i64 x.t, .int .u64 x.now, .int .u64 x.frames]) (t := 69) ?hr ?_; (case hr => first | (go_simp; done) | (go_simp; rfl)); intro g1 w1_ HSn HBn; clear HBn; replace HS : Hid (St (SL.blk g1 69 #[.slice AL ss.length cl, .int .i64 x.cur.id, .int .i64 x.due, .int .i64 x.t, .int .u64 x.now, .int .u64 x.frames] :: l) w0 w1_) := Go.Lib.hid HSn; clear HSn; obtain ⟨c0_0, c0_1, c0_2, c0_3, c0_4, c0_5⟩ := HS.out.c6 0 _ _ _ _ _ _ _ _ rfl) | ((with_reducible refine gate_dst (N := 2) rfl ?_); refine Sl.box_st HS.out (by rfl) (cs := #[.slice none 0 0, .int .i64 0, .int .i64 0, .int .i64 0, .int .u64 0, .int .u64 0]) (t := 69) ?hr ?_; (case hr => first | (go_simp; done) | (go_simp; rfl)); intro g2 w2_ HSn HBn; clear HBn; replace HS : Hid (St (SL.blk g2 69 #[.slice none 0 0, .int .i64 0, .int .i64 0, .int .i64 0, .int .u64 0, .int .u64 0] :: SL.blk g1 69 #[.slice AL ss.length cl, .int .i64 x.cur.id, .int .i64 x.due, .int .i64 x.t, .int .u64 x.now, .int .u64 x.frames] :: l) w0 w2_) := Go.Lib.hid HSn; clear HSn; clear c0_0 c0_1 c0_2 c0_3 c0_4 c0_5; obtain ⟨c0_0, c0_1, c0_2, c0_3, c0_4, c0_5⟩ := HS.out.c6 0 _ _ _ _ _ _ _ _ rfl; obtain ⟨c1_0, c1_1, c1_2, c1_3, c1_4, c1_5⟩ := HS.out.c6 1 _ _ _ _ _ _ _ _ rfl) | (go_at_call 73; refine (r_owner HS.out (HRS.out.more [SL.blk g2 69 #[.slice none 0 0, .int .i64 0, .int .i64 0, .int .i64 0, .int .u64 0, .int .u64 0], SL.blk g1 69 #[.slice AL ss.length cl, .int .i64 x.cur.id, .int .i64 x.due, .int .i64 x.t, .int .u64 x.now, .int .u64 x.frames]]) hn HSM.out HSRC.out HK.out HU.out HG.out).mono ?_; rintro e w10_ ⟨rfl, hS⟩; replace HS : Hid (St (SL.blk g2 69 #[.slice none 0 0, .int .i64 0, .int .i64 0, .int .i64 0, .int .u64 0, .int .u64 0] :: SL.blk g1 69 #[.slice AL ss.length cl, .int .i64 x.cur.id, .int .i64 x.due, .int .i64 x.t, .int .u64 x.now, .int .u64 x.frames] :: l) w0 w10_) := Go.Lib.hid hS; clear hS; clear c0_0 c0_1 c0_2 c0_3 c0_4 c0_5 c1_0 c1_1 c1_2 c1_3 c1_4 c1_5; obtain ⟨c0_0, c0_1, c0_2, c0_3, c0_4, c0_5⟩ := HS.out.c6 0 _ _ _ _ _ _ _ _ rfl; obtain ⟨c1_0, c1_1, c1_2, c1_3, c1_4, c1_5⟩ := HS.out.c6 1 _ _ _ _ _ _ _ _ rfl) | ((with_reducible refine gate_store (p := 16) rfl ?_); refine Sl.store_st HS.out 1 g1 69 _ rfl 4 (.int .u64 (x.now + 1)) (by rfl) (by rfl) ?hr ?_; (case hr => have f_ := HS.out.free 1 _ _ _ rfl 4; first | (go_simp; done) | (go_simp; rfl)); intro w31_ HSn; replace HS : Hid (St (SL.blk g2 69 #[.slice none 0 0, .int .i64 0, .int .i64 0, .int .i64 0, .int .u64 0, .int .u64 0] :: SL.blk g1 69 #[.slice AL ss.length cl, .int .i64 x.cur.id, .int .i64 x.due, .int .i64 x.t, .int .u64 (x.now + 1), .int .u64 x.frames] :: l) w0 w31_) := Go.Lib.hid HSn; clear HSn; clear c0_0 c0_1 c0_2 c0_3 c0_4 c0_5 c1_0 c1_1 c1_2 c1_3 c1_4 c1_5; obtain ⟨c0_0, c0_1, c0_2, c0_3, c0_4, c0_5⟩ := HS.out.c6 0 _ _ _ _ _ _ _ _ rfl; obtain ⟨c1_0, c1_1, c1_2, c1_3, c1_4, c1_5⟩ := HS.out.c6 1 _ _ _ _ _ _ _ _ rfl) | (go_at_call 74; refine (r_left (x := { x with now := x.now + 1 }) HS.out (HRS.out.more [SL.blk g2 69 #[.slice none 0 0, .int .i64 0, .int .i64 0, .int .i64 0, .int .u64 0, .int .u64 0], SL.blk g1 69 #[.slice AL ss.length cl, .int .i64 x.cur.id, .int .i64 x.due, .int .i64 x.t, .int .u64 (x.now + 1), .int .u64 x.frames]]) hn HSM.out HSRC.out HK.out HU.out HG2.out).mono ?_; rintro e w40_ ⟨rfl, hS⟩; replace HS : Hid (St (SL.blk g2 69 #[.slice none 0 0, .int .i64 0, .int .i64 0, .int .i64 0, .int .u64 0, .int .u64 0] :: SL.blk g1 69 #[.slice AL ss.length cl, .int .i64 x.cur.id, .int .i64 x.due, .int .i64 x.t, .int .u64 (x.now + 1), .int .u64 x.frames] :: l) w0 w40_) := Go.Lib.hid hS; clear hS; clear c0_0 c0_1 c0_2 c0_3 c0_4 c0_5 c1_0 c1_1 c1_2 c1_3 c1_4 c1_5; obtain ⟨c0_0, c0_1, c0_2, c0_3, c0_4, c0_5⟩ := HS.out.c6 0 _ _ _ _ _ _ _ _ rfl; obtain ⟨c1_0, c1_1, c1_2, c1_3, c1_4, c1_5⟩ := HS.out.c6 1 _ _ _ _ _ _ _ _ rfl) | ((with_reducible refine gate_store (p := 23) rfl ?_); refine Sl.store_st HS.out 1 g1 69 _ rfl 3 (.int .i64 (x.t + 1)) (by rfl) (by rfl) ?hr ?_; (case hr => have f_ := HS.out.free 1 _ _ _ rfl 3; first | (go_simp; done) | (go_simp; rfl)); intro w51_ HSn; replace HS : Hid (St (SL.blk g2 69 #[.slice none 0 0, .int .i64 0, .int .i64 0, .int .i64 0, .int .u64 0, .int .u64 0] :: SL.blk g1 69 #[.slice AL ss.length cl, .int .i64 x.cur.id, .int .i64 x.due, .int .i64 (x.t + 1), .int .u64 (x.now + 1), .int .u64 x.frames] :: l) w0 w51_) := Go.Lib.hid HSn; clear HSn; clear c0_0 c0_1 c0_2 c0_3 c0_4 c0_5 c1_0 c1_1 c1_2 c1_3 c1_4 c1_5; obtain ⟨c0_0, c0_1, c0_2, c0_3, c0_4, c0_5⟩ := HS.out.c6 0 _ _ _ _ _ _ _ _ rfl; obtain ⟨c1_0, c1_1, c1_2, c1_3, c1_4, c1_5⟩ := HS.out.c6 1 _ _ _ _ _ _ _ _ rfl) | ((with_reducible refine gate_store (p := 2) rfl ?_); refine Sl.storeAll_st HS.out 0 g2 69 _ rfl [.slice AL ss.length cl, .int .i64 x.cur.id, .int .i64 x.due, .int .i64 (x.t + 1), .int .u64 (x.now + 1), .int .u64 x.frames] rfl (by rfl) (by rfl) ?hr ?_; (case hr => have f_ := HS.out.f6 0 _ _ _ _ _ _ _ _ rfl; (try obtain ⟨f0, f1, f2, f3, f4, f5⟩ := f_); first | (go_simp; done) | (go_simp; rfl)); intro w52_ HSn; replace HS : Hid (St (SL.blk g2 69 #[.slice AL ss.length cl, .int .i64 x.cur.id, .int .i64 x.due, .int .i64 (x.t + 1), .int .u64 (x.now + 1), .int .u64 x.frames] :: SL.blk g1 69 #[.slice AL ss.length cl, .int .i64 x.cur.id, .int .i64 x.due, .int .i64 (x.t + 1), .int .u64 (x.now + 1), .int .u64 x.frames] :: l) w0 w52_) := Go.Lib.hid HSn; clear HSn; clear c0_0 c0_1 c0_2 c0_3 c0_4 c0_5 c1_0 c1_1 c1_2 c1_3 c1_4 c1_5; obtain ⟨c0_0, c0_1, c0_2, c0_3, c0_4, c0_5⟩ := HS.out.c6 0 _ _ _ _ _ _ _ _ rfl; obtain ⟨c1_0, c1_1, c1_2, c1_3, c1_4, c1_5⟩ := HS.out.c6 1 _ _ _ _ _ _ _ _ rfl))
   exact bodyPost_ret (results_list (rs := [.cell 2 69, .tmp 3, .tmp 4, .tmp 5]) rfl (by simp) (.cell g2 69 _ (0, 0) _ rfl (HS.out.heap 0 _ _ _ rfl) Try.underlying69 rfl (by kernel_rfl) (.tmp (.tmp (.tmp .nil))))) rfl ⟨rfl, HS.out.drop.drop⟩
  ·have hq2 : decide (1 < x.cur.fr - x.t) = false := by simp; omega
   rw [if_neg h2, decide_eq_false h2]
   clear h2
   have HFIN : Hid (Ending.returned (.tuple #[.agg #[.slice AL ss.length cl, .int .i64 x.due, .int .i64 x.due, .int .i64 0, .int .u64 (x.now + 1), .int .u64 (x.frames + 1)], .int .i64 (ownW x.cur.ws x.t), .bool true, .bool true]) = Ending.returned (.tuple #[.agg #[.slice AL ss.length cl, .int .i64 ((findT ts x.due).getD x.cur).id, .int .i64 x.due, .int .i64 0, .int .u64 (x.now + 1), .int .u64 (x.frames + 1)], .int .i64 (ownW x.cur.ws x.t), .bool true, .bool true])) := Go.Lib.hid (by rw [HY.out, show ((some y).getD x.cur).id = x.due from HYI.out])
   go_enter Try.func36, Try.ntmps36
   go_wp2_with (first | ((with_reducible refine gate_dst (N := 1) rfl ?_); refine Sl.box_st HS.out (by rfl) (cs := #[.slice AL ss.length cl, .int .i64 x.cur.id, .int .i64 x.due, .int .i64 x.t, .int .u64 x.now, .int .u64 x.frames]) (t := 69) ?hr ?_; (case hr => first | (go_simp; done) | (go_simp; rfl)); intro g1 w1_ HSn HBn; clear HBn; replace HS : Hid (St (SL.blk g1 69 #[.slice AL ss.length cl, .int .i64 x.cur.id, .int .i64 x.due, .int .i64 x.t, .int .u64 x.now, .int .u64 x.frames] :: l) w0 w1_) := Go.Lib.hid HSn; clear HSn; obtain ⟨c0_0, c0_1, c0_2, c0_3, c0_4, c0_5⟩ := HS.out.c6 0 _ _ _ _ _ _ _ _ rfl) | ((with_reducible refine gate_dst (N := 2) rfl ?_); refine Sl.box_st HS.out (by rfl) (cs := #[.slice none 0 0, .int .i64 0, .int .i64 0, .int .i64 0, .int .u64 0, .int .u64 0]) (t := 69) ?hr ?_; (case hr => first | (go_simp; done) | (go_simp; rfl)); intro g2 w2_ HSn HBn; clear HBn; replace HS : Hid (St (SL.blk g2 69 #[.slice none 0 0, .int .i64 0, .int .i64 0, .int .i64 0, .int .u64 0, .int .u64 0] :: SL.blk g1 69 #[.slice AL ss.length cl, .int .i64 x.cur.id, .int .i64 x.due, .int .i64 x.t, .int .u64 x.now, .int .u64 x.frames] :: l) w0 w2_) := Go.Lib.hid HSn; clear HSn; clear c0_0 c0_1 c0_2 c0_3 c0_4 c0_5; obtain ⟨c0_0, c0_1, c0_2, c0_3, c0_4, c0_5⟩ := HS.out.c6 0 _ _ _ _ _ _ _ _ rfl; obtain ⟨c1_0, c1_1, c1_2, c1_3, c1_4, c1_5⟩ := HS.out.c6 1 _ _ _ _ _ _ _ _ rfl) | (go_at_call 73; refine (r_owner HS.out (HRS.out.more [SL.blk g2 69 #[.slice none 0 0, .int .i64 0, .int .i64 0, .int .i64 0, .int .u64 0, .int .u64 0], SL.blk g1 69 #[.slice AL ss.length cl, .int .i64 x.cur.id, .int .i64 x.due, .int .i64 x.t, .int .u64 x.now, .int .u64 x.frames]]) hn HSM.out HSRC.out HK.out HU.out HG.out).mono ?_; rintro e w10_ ⟨rfl, hS⟩; replace HS : Hid (St (SL.blk g2 69 #[.slice none 0 0, .int .i64 0, .int .i64 0, .int .i64 0, .int .u64 0, .int .u64 0] :: SL.blk g1 69 #[.slice AL ss.length cl, .int .i64 x.cur.id, .int .i64 x.due, .int .i64 x.t, .int .u64 x.now, .int .u64 x.frames] :: l) w0 w10_) := Go.Lib.hid hS; clear hS; clear c0_0 c0_1 c0_2 c0_3 c0_4 c0_5 c1_0 c1_1 c1_2 c1_3 c1_4 c1_5; obtain ⟨c0_0, c0_1, c0_2, c0_3, c0_4, c0_5⟩ := HS.out.c6 0 _ _ _ _ _ _ _ _ rfl; obtain ⟨c1_0, c1_1, c1_2, c1_3, c1_4, c1_5⟩ := HS.out.c6 1 _ _ _ _ _ _ _ _ rfl) | ((with_reducible refine gate_store (p := 16) rfl ?_); refine Sl.store_st HS.out 1 g1 69 _ rfl 4 (.int .u64 (x.now + 1)) (by rfl) (by rfl) ?hr ?_; (case hr => have f_ := HS.out.free 1 _ _ _ rfl 4; first | (go_simp; done) | (go_simp; rfl)); intro w31_ HSn; replace HS : Hid (St (SL.blk g2 69 #[.slice none 0 0, .int .i64 0, .int .i64 0, .int .i64 0, .int .u64 0, .int .u64 0] :: SL.blk g1 69 #[.slice AL ss.length cl, .int .i64 x.cur.id, .int .i64 x.due, .int .i64 x.t, .int .u64 (x.now + 1), .int .u64 x.frames] :: l) w0 w31_) := Go.Lib.hid HSn; clear HSn; clear c0_0 c0_1 c0_2 c0_3 c0_4 c0_5 c1_0 c1_1 c1_2 c1_3 c1_4 c1_5; obtain ⟨c0_0, c0_1, c0_2, c0_3, c0_4, c0_5⟩ := HS.out.c6 0 _ _ _ _ _ _ _ _ rfl; obtain ⟨c1_0, c1_1, c1_2, c1_3, c1_4, c1_5⟩ := HS.out.c6 1 _ _ _ _ _ _ _ _ rfl) | (go_at_call 74; refine (r_left (x := { x with now := x.now + 1 }) HS.out (HRS.out.more [SL.blk g2 69 #[.slice none 0 0, .int .i64 0, .int .i64 0, .int .i64 0, .int .u64 0, .int .u64 0], SL.blk g1 69 #[.slice AL ss.length cl, .int .i64 x.cur.id, .int .i64 x.due, .int .i64 x.t, .int .u64 (x.now + 1), .int .u64 x.frames]]) hn HSM.out HSRC.out HK.out HU.out HG2.out).mono ?_; rintro e w40_ ⟨rfl, hS⟩; replace HS : Hid (St (SL.blk g2 69 #[.slice none 0 0, .int .i64 0, .int .i64 0, .int .i64 0, .int .u64 0, .int .u64 0] :: SL.blk g1 69 #[.slice AL ss.length cl, .int .i64 x.cur.id, .int .i64 x.due, .int .i64 x.t, .int .u64 (x.now + 1), .int .u64 x.frames] :: l) w0 w40_) := Go.Lib.hid hS; clear hS; clear c0_0 c0_1 c0_2 c0_3 c0_4 c0_5 c1_0 c1_1 c1_2 c1_3 c1_4 c1_5; obtain ⟨c0_0, c0_1, c0_2, c0_3, c0_4, c0_5⟩ := HS.out.c6 0 _ _ _ _ _ _ _ _ rfl; obtain ⟨c1_0, c1_1, c1_2, c1_3, c1_4, c1_5⟩ := HS.out.c6 1 _ _ _ _ _ _ _ _ rfl) | ((with_reducible refine gate_store (p := 26) rfl ?_); refine Sl.store_st HS.out 1 g1 69 _ rfl 3 (.int .i64 0) (by rfl) (by rfl) ?hr ?_; (case hr => have f_ := HS.out.free 1 _ _ _ rfl 3; first | (go_simp; done) | (go_simp; rfl)); intro w51_ HSn; replace HS : Hid (St (SL.blk g2 69 #[.slice none 0 0, .int .i64 0, .int .i64 0, .int .i64 0, .int .u64 0, .int .u64 0] :: SL.blk g1 69 #[.slice AL ss.length cl, .int .i64 x.cur.id, .int .i64 x.due, .int .i64 0, .int .u64 (x.now + 1), .int .u64 x.frames] :: l) w0 w51_) := Go.Lib.hid HSn; clear HSn; clear c0_0 c0_1 c0_2 c0_3 c0_4 c0_5 c1_0 c1_1 c1_2 c1_3 c1_4 c1_5; obtain ⟨c0_0, c0_1, c0_2, c0_3, c0_4, c0_5⟩ := HS.out.c6 0 _ _ _ _ _ _ _ _ rfl; obtain ⟨c1_0, c1_1, c1_2, c1_3, c1_4, c1_5⟩ := HS.out.c6 1 _ _ _ _ _ _ _ _ rfl) | ((with_reducible refine gate_store (p := 30) rfl ?_); refine Sl.store_st HS.out 1 g1 69 _ rfl 5 (.int .u64 (x.frames + 1)) (by rfl) (by rfl) ?hr ?_; (case hr => have f_ := HS.out.free 1 _ _ _ rfl 5; first | (go_simp; done) | (go_simp; rfl)); intro w52_ HSn; replace HS : Hid (St (SL.blk g2 69 #[.slice none 0 0, .int .i64 0, .int .i64 0, .int .i64 0, .int .u64 0, .int .u64 0] :: SL.blk g1 69 #[.slice AL ss.length cl, .int .i64 x.cur.id, .int .i64 x.due, .int .i64 0, .int .u64 (x.now + 1), .int .u64 (x.frames + 1)] :: l) w0 w52_) := Go.Lib.hid HSn; clear HSn; clear c0_0 c0_1 c0_2 c0_3 c0_4 c0_5 c1_0 c1_1 c1_2 c1_3 c1_4 c1_5; obtain ⟨c0_0, c0_1, c0_2, c0_3, c0_4, c0_5⟩ := HS.out.c6 0 _ _ _ _ _ _ _ _ rfl; obtain ⟨c1_0, c1_1, c1_2, c1_3, c1_4, c1_5⟩ := HS.out.c6 1 _ _ _ _ _ _ _ _ rfl) | ((with_reducible refine gate_store (p := 33) rfl ?_); refine Sl.store_st HS.out 1 g1 69 _ rfl 1 (.int .i64 x.due) (by rfl) (by rfl) ?hr ?_; (case hr => have f_ := HS.out.free 1 _ _ _ rfl 1; first | (go_simp; done) | (go_simp; rfl)); intro w53_ HSn; replace HS : Hid (St (SL.blk g2 69 #[.slice none 0 0, .int .i64 0, .int .i64 0, .int .i64 0, .int .u64 0, .int .u64 0] :: SL.blk g1 69 #[.slice AL ss.length cl, .int .i64 x.due, .int .i64 x.due, .int .i64 0, .int .u64 (x.now + 1), .int .u64 (x.frames + 1)] :: l) w0 w53_) := Go.Lib.hid HSn; clear HSn; clear c0_0 c0_1 c0_2 c0_3 c0_4 c0_5 c1_0 c1_1 c1_2 c1_3 c1_4 c1_5; obtain ⟨c0_0, c0_1, c0_2, c0_3, c0_4, c0_5⟩ := HS.out.c6 0 _ _ _ _ _ _ _ _ rfl; obtain ⟨c1_0, c1_1, c1_2, c1_3, c1_4, c1_5⟩ := HS.out.c6 1 _ _ _ _ _ _ _ _ rfl) | ((with_reducible refine gate_store (p := 2) rfl ?_); refine Sl.storeAll_st HS.out 0 g2 69 _ rfl [.slice AL ss.length cl, .int .i64 x.due, .int .i64 x.due, .int .i64 0, .int .u64 (x.now + 1), .int .u64 (x.frames + 1)] rfl (by rfl) (by rfl) ?hr ?_; (case hr => have f_ := HS.out.f6 0 _ _ _ _ _ _ _ _ rfl; (try obtain ⟨f0, f1, f2, f3, f4, f5⟩ := f_); first | (go_simp; done) | (go_simp; rfl)); intro w54_ HSn; replace HS : Hid (St (SL.blk g2 69 #[.slice AL ss.length cl, .int .i64 x.due, .int .i64 x.due, .int .i64 0, .int .u64 (x.now + 1), .int .u64 (x.frames + 1)] :: SL.blk g1 69 #[.slice AL ss.length cl, .int .i64 x.due, .int .i64 x.due, .int .i64 0, .int .u64 (x.now + 1), .int .u64 (x.frames + 1)] :: l) w0 w54_) := Go.Lib.hid HSn; clear HSn; clear c0_0 c0_1 c0_2 c0_3 c0_4 c0_5 c1_0 c1_1 c1_2 c1_3 c1_4 c1_5; obtain ⟨c0_0, c0_1, c0_2, c0_3, c0_4, c0_5⟩ := HS.out.c6 0 _ _ _ _ _ _ _ _ rfl; obtain ⟨c1_0, c1_1, c1_2, c1_3, c1_4, c1_5⟩ := HS.out.c6 1 _ _ _ _ _ _ _ _ rfl))
   exact bodyPost_ret (results_list (rs := [.cell 2 69, .tmp 3, .tmp 4, .tmp 5]) rfl (by simp) (.cell g2 69 _ (0, 0) _ rfl (HS.out.heap 0 _ _ _ rfl) Try.underlying69 rfl (by kernel_rfl) (.tmp (.tmp (.tmp .nil))))) rfl ⟨HFIN.out, HS.out.drop.drop⟩
end Go.Proofs.Ytnpjbdaaoknkbaa.Frm

/-! An engine and the document's; a copy. -/
namespace Go.Proofs.Ytnpjbdaaoknkbaa.Frm
open Go.RowKit Go.Proofs.YtnpjbdaaoknkbaaW.PrintWords Go.Proofs.YtnpjbdaaoknkbaaW.PrintLast Go.Proofs.YtnpjbdaaoknkbaaW.PrintMore Go.Proofs.Ytnpjbdaaoknkbaa.Mine Go.Proofs.Ytnpjbdaaoknkbaa.PTableFrames
open Go.Proofs.Ytnpjbdaaoknkbaa.Sl (SL Stp Chg St No wpc_seal wpc_round sealed MK look)
open Go.Proofs.Ytnpjbdaaoknkbaa.Tab (InT In InA Runs cur_tick cur_owner step_st nextT nextJ rd_mem cursor_st allR allR_is ownW OkW mkR_len grw_len at_run Small SchedIn BadW NewPost new_st WinIn)
set_option linter.unusedVariables false
set_option linter.unusedSimpArgs false
attribute [local go_sem] max2_int min2_int max_two min_two max_three min_three max_four min_four
open Go.Proofs.YtnpjbdaaoknkbaaW.PrintWords (results_list Vals)
variable {l : List SL} {w0 w : World} {AL : Option Addr} {cl : Nat} {ss : List S25} {ts : List Tb} {x : EM} {ge gk bm : Nat} {m : List (Int × Value)}
theorem e_owner (h : EngSt l ge gk bm m x w0 w) (T : Tabs l ts) (G : Good ts x) : Calls Try.prog 75 #[.pointer (some ⟨ge, 0, none⟩)] w fun e w' => e = .returned (.int .i64 (ownW x.cur.ws x.t)) ∧ EngSt l ge gk bm m x w0 w' := by
 obtain ⟨gc, j, hi, hS⟩ := h
 have hj := hi.lt
 have HO := Go.Lib.hid ((T.ok _ G.cur).runs.in_own hi)
 obtain ⟨q0, q1, q2, q3, q4⟩ := hS.c5 0 _ _ _ _ _ _ _ rfl
 have HS := Go.Lib.hid hS
 have HI := Go.Lib.hid hi
 clear hS hi
 go_enter Try.func75, Try.ntmps75
 go_wp2_with (go_at_call 14; refine (cur_owner HS.out 3 x.t j rfl (((((T.ins _ G.cur).t.cons _).cons _).cons _).cons _) hj).mono ?_; rintro e w9 ⟨rfl, hS⟩; replace HS := Go.Lib.hid hS; clear hS)
 go_ret
 exact ⟨by rw [HO.out]; rfl, gc, j, HI.out, HS.out⟩
set_option maxHeartbeats 800000 in
theorem cur_left {gc gt : Nat} {id fr t : Int} {j : Nat} {rs : List S44} (h : St l w0 w) (n : Nat) (e : l[n]? = some (SL.blk gc 100 #[.pointer (some ⟨gt, 0, none⟩), .int .i64 t, .int .i64 (j : Nat)])) (R : InT l gt id fr rs) (h0 : 0 ≤ t) (h1 : t < fr) (h2 : fr ≤ 4000000) :
  Calls Try.prog 118 #[.pointer (some ⟨gc, 0, none⟩)] w fun e w' => e = .returned (.int .i64 (fr - t)) ∧ St l w0 w' := by
 have HS := Go.Lib.hid h.drew
 obtain ⟨A, c, y3, y4, y5, hC⟩ := R.sees HS.out
 obtain ⟨y0, y1, y2⟩ := HS.out.c3 n _ _ _ _ _ e
 clear h hC
 have e1_ : wrap64 (fr - t) = fr - t := by unfold wrap64; omega
 have e0_ : IntKind.i64.wrap (fr - t) = fr - t := IntWalk.i64_in _ (by omega)
 go_enter Try.func118, Try.ntmps118
 go_upto_region 1 with (fail)
 refine start_ (n := 13) (S := fun w' => (w'.cell? ⟨gc, 0, none⟩ = some (.pointer (some ⟨gt, 0, none⟩)) ∧ w'.cell? ⟨gc, 1, none⟩ = some (.int .i64 t) ∧ w'.cell? ⟨gc, 2, none⟩ = some (.int .i64 (j : Nat))) ∧ w'.cell? ⟨gt, 0, none⟩ = some (.int .i64 id) ∧ w'.cell? ⟨gt, 1, none⟩ = some (.int .i64 fr)) (ds := []) #[false, false, false, false, false, false, false, false, false, false, false, false, false] (by kernel_rfl) rfl rfl ⟨⟨y0, y1, y2⟩, y3, y4⟩ (fun hHeld => ?_)
 generalize w.drew = W_ at *
 refine pure_ (i := 0) (N := some 3) (v := ?_) (a' := ?_) #[true, false, false, false, false, false, false, false, false, false, false, false, false] rfl rfl (by kernel_rfl) (fun _ _ _ h => h) (Or.inl ⟨by rfl, ?_⟩) ?_ ?_
 rotate_left
 ·intro w'
  go_simp
  with_reducible rfl
 rotate_left
 ·simp only [Act.put, List.setIfInBounds_toArray, List.set_cons_zero, List.set_cons_succ, i64_w, i32_w]
  rfl
 refine pure_ (i := 1) (N := some 4) (v := ?_) (a' := ?_) #[true, true, false, false, false, false, false, false, false, false, false, false, false] rfl rfl (by kernel_rfl) (fun _ _ _ h => h) (Or.inl ⟨by rfl, ?_⟩) ?_ ?_
 rotate_left
 ·intro w'
  go_simp
  with_reducible rfl
 rotate_left
 ·simp only [Act.put, List.setIfInBounds_toArray, List.set_cons_zero, List.set_cons_succ, i64_w, i32_w]
  rfl
 refine pure_ (i := 2) (N := some 5) (v := ?_) (a' := ?_) #[true, true, true, false, false, false, false, false, false, false, false, false, false] rfl rfl (by kernel_rfl) (fun _ _ _ h => h) (Or.inl ⟨by rfl, ?_⟩) ?_ ?_
 rotate_left
 ·intro w'
  go_simp
  with_reducible rfl
 rotate_left
 ·simp only [Act.put, List.setIfInBounds_toArray, List.set_cons_zero, List.set_cons_succ, i64_w, i32_w]
  rfl
 refine pure_ (i := 7) (N := some 10) (v := ?_) (a' := ?_) #[true, true, true, false, false, false, false, true, false, false, false, false, false] rfl rfl (by kernel_rfl) (fun _ _ _ h => h) (Or.inl ⟨by rfl, ?_⟩) ?_ ?_
 rotate_left
 ·intro w'
  go_simp
  with_reducible rfl
 rotate_left
 ·simp only [Act.put, List.setIfInBounds_toArray, List.set_cons_zero, List.set_cons_succ, i64_w, i32_w]
  rfl
 refine pure_ (i := 8) (N := some 11) (v := ?_) (a' := ?_) #[true, true, true, false, false, false, false, true, true, false, false, false, false] rfl rfl (by kernel_rfl) (fun _ _ _ h => h) (Or.inl ⟨by rfl, ?_⟩) ?_ ?_
 rotate_left
 ·intro w'
  go_simp
  with_reducible rfl
 rotate_left
 ·simp only [Act.put, List.setIfInBounds_toArray, List.set_cons_zero, List.set_cons_succ, i64_w, i32_w]
  rfl
 refine pure_ (i := 9) (N := some 12) (v := ?_) (a' := ?_) #[true, true, true, false, false, false, false, true, true, true, false, false, false] rfl rfl (by kernel_rfl) (fun _ _ _ h => h) (Or.inl ⟨by rfl, ?_⟩) ?_ ?_
 rotate_left
 ·intro w'
  go_simp
  with_reducible rfl
 rotate_left
 ·simp only [Act.put, List.setIfInBounds_toArray, List.set_cons_zero, List.set_cons_succ, i64_w, i32_w]
  rfl
 refine take_ (i := 3) (N := some 6) (v := ?_) (a' := ?_) #[true, true, true, true, false, false, false, true, true, true, false, false, false] rfl rfl (by kernel_rfl) (fun _ _ _ h => h) (Or.inl ⟨by rfl, ?_⟩) hHeld ?_ ?_
 rotate_left
 ·rintro w' ⟨⟨s0, s1, s2⟩, s3, s4⟩
  go_simp
  with_reducible rfl
 rotate_left
 ·simp only [Act.put, List.setIfInBounds_toArray, List.set_cons_zero, List.set_cons_succ, i64_w, i32_w]
  rfl
 refine pure_ (i := 4) (N := some 7) (v := ?_) (a' := ?_) #[true, true, true, true, true, false, false, true, true, true, false, false, false] rfl rfl (by kernel_rfl) (fun _ _ _ h => h) (Or.inl ⟨by rfl, ?_⟩) ?_ ?_
 rotate_left
 ·intro w'
  go_simp
  with_reducible rfl
 rotate_left
 ·simp only [Act.put, List.setIfInBounds_toArray, List.set_cons_zero, List.set_cons_succ, i64_w, i32_w]
  rfl
 refine pure_ (i := 5) (N := some 8) (v := ?_) (a' := ?_) #[true, true, true, true, true, true, false, true, true, true, false, false, false] rfl rfl (by kernel_rfl) (fun _ _ _ h => h) (Or.inl ⟨by rfl, ?_⟩) ?_ ?_
 rotate_left
 ·intro w'
  go_simp
  with_reducible rfl
 rotate_left
 ·simp only [Act.put, List.setIfInBounds_toArray, List.set_cons_zero, List.set_cons_succ, i64_w, i32_w]
  rfl
 refine take_ (i := 6) (N := some 9) (v := ?_) (a' := ?_) #[true, true, true, true, true, true, true, true, true, true, false, false, false] rfl rfl (by kernel_rfl) (fun _ _ _ h => h) (Or.inl ⟨by rfl, ?_⟩) hHeld ?_ ?_
 rotate_left
 ·rintro w' ⟨⟨s0, s1, s2⟩, s3, s4⟩
  go_simp
  with_reducible rfl
 rotate_left
 ·simp only [Act.put, List.setIfInBounds_toArray, List.set_cons_zero, List.set_cons_succ, i64_w, i32_w]
  rfl
 refine take_ (i := 10) (N := some 13) (v := ?_) (a' := ?_) #[true, true, true, true, true, true, true, true, true, true, true, false, false] rfl rfl (by kernel_rfl) (fun _ _ _ h => h) (Or.inl ⟨by rfl, ?_⟩) hHeld ?_ ?_
 rotate_left
 ·rintro w' ⟨⟨s0, s1, s2⟩, s3, s4⟩
  go_simp
  with_reducible rfl
 rotate_left
 ·simp only [Act.put, List.setIfInBounds_toArray, List.set_cons_zero, List.set_cons_succ, i64_w, i32_w]
  rfl
 refine pure_ (i := 11) (N := some 14) (v := ?_) (a' := ?_) #[true, true, true, true, true, true, true, true, true, true, true, true, false] rfl rfl (by kernel_rfl) (fun _ _ _ h => h) (Or.inl ⟨by rfl, ?_⟩) ?_ ?_
 rotate_left
 ·intro w'
  go_simp
  with_reducible rfl
 rotate_left
 ·simp only [Act.put, List.setIfInBounds_toArray, List.set_cons_zero, List.set_cons_succ, i64_w, i32_w]
  rfl
 refine pure_ (i := 12) (N := some 2) (v := ?_) (a' := ?_) #[true, true, true, true, true, true, true, true, true, true, true, true, true] rfl rfl (by kernel_rfl) (fun _ _ _ h => h) (Or.inl ⟨by rfl, ?_⟩) ?_ ?_
 rotate_left
 ·intro w'
  go_simp
  with_reducible rfl
 rotate_left
 ·simp only [Act.put, List.setIfInBounds_toArray, List.set_cons_zero, List.set_cons_succ, i64_w, i32_w]
  rfl
 refine done_ (by kernel_rfl) ?_
 clear e1_ e0_
 go_wp2_with fail
 go_ret
 exact ⟨rfl, HS.out⟩
theorem e_left (h : EngSt l ge gk bm m x w0 w) (T : Tabs l ts) (G : Good ts x) : Calls Try.prog 76 #[.pointer (some ⟨ge, 0, none⟩)] w fun e w' => e = .returned (.int .i64 (x.cur.fr - x.t)) ∧ EngSt l ge gk bm m x w0 w' := by
 obtain ⟨gc, j, hi, hS⟩ := h
 obtain ⟨q0, q1, q2, q3, q4⟩ := hS.c5 0 _ _ _ _ _ _ _ rfl
 have HS := Go.Lib.hid hS
 have HI := Go.Lib.hid hi
 have hfr := (T.ok _ G.cur).hi
 have h0 := G.t0
 have h1 := G.t1
 clear hS hi
 go_enter Try.func76, Try.ntmps76
 go_wp2_with (go_at_call 118; refine (cur_left HS.out 3 rfl (((((T.ins _ G.cur).t.cons _).cons _).cons _).cons _) h0 h1 (by omega)).mono ?_; rintro e w9 ⟨rfl, hS⟩; replace HS := Go.Lib.hid hS; clear hS)
 go_ret
 exact ⟨rfl, gc, j, HI.out, HS.out⟩
/-- A call that keeps what is owned keeps an engine. -/
theorem eng_keep {f : FuncId} {args : Array Value} {v : Value} (H : ∀ (lx : List SL), St (lx ++ l) w0 w → Calls Try.prog f args w fun e w' => e = .returned v ∧ St (lx ++ l) w0 w') (h : EngSt l ge gk bm m x w0 w) : Calls Try.prog f args w fun e w' => e = .returned v ∧ EngSt l ge gk bm m x w0 w' := by
 obtain ⟨gc, j, hi, hS⟩ := h
 refine (H [_, _, _, _] hS).mono ?_
 rintro e w' ⟨rfl, h2⟩
 exact ⟨rfl, gc, j, hi, h2⟩
set_option maxHeartbeats 6400000 in
set_option maxRecDepth 100000 in
theorem same_st (h : EngSt l ge gk bm m x w0 w) (T : Tabs l ts) (hrs : SchedsAt l w0 AL ss) (hn : ss.length ≤ 1000000) (hsm : ∀ s ∈ ss, Small s.f2 ∧ Small s.f3) (hsrc : ts.map Tb.src = ss.map srcS) (U : Uniq ts) (G : Good ts x) :
  Calls Try.prog 37 #[.pointer (some ⟨ge, 0, none⟩), .agg #[.slice AL ss.length cl, .int .i64 x.cur.id, .int .i64 x.due, .int .i64 x.t, .int .u64 x.now, .int .u64 x.frames]] w fun e w' => e = .returned (.bool true) ∧ EngSt l ge gk bm m x w0 w' := by
 obtain ⟨gc, j, hi, hS⟩ := h
 have HS := Go.Lib.hid hS
 have HI := Go.Lib.hid hi
 have HRS := Go.Lib.hid hrs
 have HSM := Go.Lib.hid hsm
 have HSRC := Go.Lib.hid hsrc
 have HT := Go.Lib.hid T
 have HU := Go.Lib.hid U
 have HG := Go.Lib.hid G
 clear hS hi hrs hsm hsrc T U G
 go_enter Try.func37, Try.ntmps37
 go_wp2_with (first | ((with_reducible refine gate_dst (N := 3) rfl ?_); refine Sl.box_st HS.out (by rfl) (cs := #[.slice AL ss.length cl, .int .i64 x.cur.id, .int .i64 x.due, .int .i64 x.t, .int .u64 x.now, .int .u64 x.frames]) (t := 69) ?hr ?_; (case hr => first | (go_simp; done) | (go_simp; rfl)); intro g3 w1_ HSn HBn; clear HBn; replace HS : Hid (St (SL.blk g3 69 #[.slice AL ss.length cl, .int .i64 x.cur.id, .int .i64 x.due, .int .i64 x.t, .int .u64 x.now, .int .u64 x.frames] :: SL.blk ge 108 #[.map (some bm), .pointer (some ⟨gc, 0, none⟩), .int .i64 x.due, .pointer (some ⟨gk, 0, none⟩), .int .u64 x.frames] :: SL.map KI bm m :: SL.blk gk 132 #[.int .u64 x.now] :: SL.blk gc 100 #[.pointer (some ⟨x.cur.g, 0, none⟩), .int .i64 x.t, .int .i64 ((j : Nat) : Int)] :: l) w0 w1_) := Go.Lib.hid HSn; clear HSn; obtain ⟨c0_0, c0_1, c0_2, c0_3, c0_4, c0_5⟩ := HS.out.c6 0 _ _ _ _ _ _ _ _ rfl))
 clear c0_0 c0_1 c0_2 c0_3 c0_4 c0_5
 have hE : EngSt (SL.blk g3 69 #[.slice AL ss.length cl, .int .i64 x.cur.id, .int .i64 x.due, .int .i64 x.t, .int .u64 x.now, .int .u64 x.frames] :: l) ge gk bm m x w0 w1_ := ⟨gc, j, HI.out, (((HS.out.front 4 _ rfl).front 4 _ rfl).front 4 _ rfl).front 4 _ rfl⟩
 obtain ⟨gc2, j2, hi2, hS2⟩ := hE
 have HE : Hid (EngSt (SL.blk g3 69 #[.slice AL ss.length cl, .int .i64 x.cur.id, .int .i64 x.due, .int .i64 x.t, .int .u64 x.now, .int .u64 x.frames] :: l) ge gk bm m x w0 w1_.drew) := Go.Lib.hid ⟨gc2, j2, hi2, hS2.drew⟩
 clear hi2 hS2 HS HI
 replace HT := Go.Lib.hid (HT.out.cons (SL.blk g3 69 #[.slice AL ss.length cl, .int .i64 x.cur.id, .int .i64 x.due, .int .i64 x.t, .int .u64 x.now, .int .u64 x.frames]))
 replace HRS := Go.Lib.hid (HRS.out.more [SL.blk g3 69 #[.slice AL ss.length cl, .int .i64 x.cur.id, .int .i64 x.due, .int .i64 x.t, .int .u64 x.now, .int .u64 x.frames]])
 obtain ⟨hb_, hbe⟩ : ∃ b, (x.now == 18446744073709551615) = b := ⟨_, rfl⟩
 have HB := Go.Lib.hid hbe
 refine start_ (n := 56) (S := fun w' => w'.cell? ⟨g3, 0, none⟩ = some (.slice AL ss.length cl) ∧ w'.cell? ⟨g3, 1, none⟩ = some (.int .i64 x.cur.id) ∧ w'.cell? ⟨g3, 2, none⟩ = some (.int .i64 x.due) ∧ w'.cell? ⟨g3, 3, none⟩ = some (.int .i64 x.t) ∧ w'.cell? ⟨g3, 4, none⟩ = some (.int .u64 x.now) ∧ w'.cell? ⟨g3, 5, none⟩ = some (.int .u64 x.frames)) (ds := []) #[false, false, false, false, false, false, false, false, false, false, false, false, false, false, false, false, false, false, false, false, false, false, false, false, false, false, false, false, false, false, false, false, false, false, false, false, false, false, false, false, false, false, false, false, false, false, false, false, false, false, false, false, false, false, false, false] (by kernel_rfl) rfl rfl (HE.out.st.c6 0 _ _ _ _ _ _ _ _ rfl) (fun hHeld => ?_)
 generalize w1_.drew = W_ at *
 refine pure_ (i := 0) (N := some 5) (v := ?_) (a' := ?_) #[true, false, false, false, false, false, false, false, false, false, false, false, false, false, false, false, false, false, false, false, false, false, false, false, false, false, false, false, false, false, false, false, false, false, false, false, false, false, false, false, false, false, false, false, false, false, false, false, false, false, false, false, false, false, false, false] rfl rfl (by kernel_rfl) (fun _ _ _ h => h) (Or.inl ⟨by rfl, ?_⟩) ?_ ?_
 rotate_left
 ·intro w'
  go_simp
  with_reducible rfl
 rotate_left
 ·simp only [Act.put, List.setIfInBounds_toArray, List.set_cons_zero, List.set_cons_succ, i64_w, i32_w]
  rfl
 refine pure_ (i := 2) (N := some 7) (v := ?_) (a' := ?_) #[true, false, true, false, false, false, false, false, false, false, false, false, false, false, false, false, false, false, false, false, false, false, false, false, false, false, false, false, false, false, false, false, false, false, false, false, false, false, false, false, false, false, false, false, false, false, false, false, false, false, false, false, false, false, false, false] rfl rfl (by kernel_rfl) (fun _ _ _ h => h) (Or.inl ⟨by rfl, ?_⟩) ?_ ?_
 rotate_left
 ·intro w'
  go_simp
  with_reducible rfl
 rotate_left
 ·simp only [Act.put, List.setIfInBounds_toArray, List.set_cons_zero, List.set_cons_succ, i64_w, i32_w]
  rfl
 refine take_ (i := 3) (N := some 8) (v := ?_) (a' := ?_) #[true, false, true, true, false, false, false, false, false, false, false, false, false, false, false, false, false, false, false, false, false, false, false, false, false, false, false, false, false, false, false, false, false, false, false, false, false, false, false, false, false, false, false, false, false, false, false, false, false, false, false, false, false, false, false, false] rfl rfl (by kernel_rfl) (fun _ _ _ h => h) (Or.inl ⟨by rfl, ?_⟩) hHeld ?_ ?_
 rotate_left
 ·rintro w' ⟨s0, s1, s2, s3, s4, s5⟩
  go_simp
  with_reducible rfl
 rotate_left
 ·simp only [Act.put, List.setIfInBounds_toArray, List.set_cons_zero, List.set_cons_succ, i64_w, i32_w]
  rfl
 refine one_ (i := 1) (N := some 6) #[true, true, true, true, false, false, false, false, false, false, false, false, false, false, false, false, false, false, false, false, false, false, false, false, false, false, false, false, false, false, false, false, false, false, false, false, false, false, false, false, false, false, false, false, false, false, false, false, false, false, false, false, false, false, false, false] rfl rfl (by kernel_rfl) (by decide) (fun K hK => ?_)
 refine goes_ Try.func29 (by kernel_rfl) rfl #[.pointer (some ⟨ge, 0, none⟩)] (by rfl) rfl rfl (by (try simp only [List.map_toArray, List.map_cons, List.map_nil]); first | done | rfl) ?_
 refine (e_now HE.out).mono ?_
 rintro e w' ⟨rfl, rfl⟩
 refine ⟨_, rfl, ?_⟩
 refine hK.out _ _ (HE.out.st.c6 0 _ _ _ _ _ _ _ _ rfl) (fun hHeld => ?_)
 clear hK K
 refine norm_ (a' := ?_) ?_ ?_
 rotate_left
 ·show Act.put _ (some 6) _ = _
  simp only [Act.put, List.setIfInBounds_toArray, List.set_cons_zero, List.set_cons_succ, i64_w, i32_w]
  rfl
 refine pure_ (i := 4) (N := some 9) (v := ?_) (a' := ?_) #[true, true, true, true, true, false, false, false, false, false, false, false, false, false, false, false, false, false, false, false, false, false, false, false, false, false, false, false, false, false, false, false, false, false, false, false, false, false, false, false, false, false, false, false, false, false, false, false, false, false, false, false, false, false, false, false] rfl rfl (by kernel_rfl) (fun _ _ _ h => h) (Or.inl ⟨by rfl, ?_⟩) ?_ ?_
 rotate_left
 ·intro w'
  go_simp
  with_reducible rfl
 rotate_left
 ·simp only [Act.put, List.setIfInBounds_toArray, List.set_cons_zero, List.set_cons_succ, i64_w, i32_w]
  rfl
 refine pure_ (i := 5) (N := some 10) (v := ?_) (a' := ?_) #[true, true, true, true, true, true, false, false, false, false, false, false, false, false, false, false, false, false, false, false, false, false, false, false, false, false, false, false, false, false, false, false, false, false, false, false, false, false, false, false, false, false, false, false, false, false, false, false, false, false, false, false, false, false, false, false] rfl rfl (by kernel_rfl) (fun _ _ _ h => h) (Or.inl ⟨by rfl, ?_⟩) ?_ ?_
 rotate_left
 ·intro w'
  go_simp
  with_reducible rfl
 rotate_left
 ·simp only [Act.put, List.setIfInBounds_toArray, List.set_cons_zero, List.set_cons_succ, i64_w, i32_w]
  rfl
 refine pure_ (i := 6) (N := some 11) (v := ?_) (a' := ?_) #[true, true, true, true, true, true, true, false, false, false, false, false, false, false, false, false, false, false, false, false, false, false, false, false, false, false, false, false, false, false, false, false, false, false, false, false, false, false, false, false, false, false, false, false, false, false, false, false, false, false, false, false, false, false, false, false] rfl rfl (by kernel_rfl) (fun _ _ _ h => h) (Or.inl ⟨by rfl, ?_⟩) ?_ ?_
 rotate_left
 ·intro w'
  go_simp
  with_reducible rfl
 rotate_left
 ·simp only [Act.put, List.setIfInBounds_toArray, List.set_cons_zero, List.set_cons_succ, i64_w, i32_w]
  rfl
 refine pure_ (i := 8) (N := some 13) (v := ?_) (a' := ?_) #[true, true, true, true, true, true, true, false, true, false, false, false, false, false, false, false, false, false, false, false, false, false, false, false, false, false, false, false, false, false, false, false, false, false, false, false, false, false, false, false, false, false, false, false, false, false, false, false, false, false, false, false, false, false, false, false] rfl rfl (by kernel_rfl) (fun _ _ _ h => h) (Or.inl ⟨by rfl, ?_⟩) ?_ ?_
 rotate_left
 ·intro w'
  go_simp
  with_reducible rfl
 rotate_left
 ·simp only [Act.put, List.setIfInBounds_toArray, List.set_cons_zero, List.set_cons_succ, i64_w, i32_w]
  rfl
 refine take_ (i := 9) (N := some 14) (v := ?_) (a' := ?_) #[true, true, true, true, true, true, true, false, true, true, false, false, false, false, false, false, false, false, false, false, false, false, false, false, false, false, false, false, false, false, false, false, false, false, false, false, false, false, false, false, false, false, false, false, false, false, false, false, false, false, false, false, false, false, false, false] rfl rfl (by kernel_rfl) (fun _ _ _ h => h) (Or.inl ⟨by rfl, ?_⟩) hHeld ?_ ?_
 rotate_left
 ·rintro w' ⟨s0, s1, s2, s3, s4, s5⟩
  go_simp
  with_reducible rfl
 rotate_left
 ·simp only [Act.put, List.setIfInBounds_toArray, List.set_cons_zero, List.set_cons_succ, i64_w, i32_w]
  rfl
 refine pure_ (i := 10) (N := some 15) (v := ?_) (a' := ?_) #[true, true, true, true, true, true, true, false, true, true, true, false, false, false, false, false, false, false, false, false, false, false, false, false, false, false, false, false, false, false, false, false, false, false, false, false, false, false, false, false, false, false, false, false, false, false, false, false, false, false, false, false, false, false, false, false] rfl rfl (by kernel_rfl) (fun _ _ _ h => h) (Or.inl ⟨by rfl, ?_⟩) ?_ ?_
 rotate_left
 ·intro w'
  go_simp
  with_reducible rfl
 rotate_left
 ·simp only [Act.put, List.setIfInBounds_toArray, List.set_cons_zero, List.set_cons_succ, i64_w, i32_w]
  rfl
 refine one_ (i := 7) (N := some 12) #[true, true, true, true, true, true, true, true, true, true, true, false, false, false, false, false, false, false, false, false, false, false, false, false, false, false, false, false, false, false, false, false, false, false, false, false, false, false, false, false, false, false, false, false, false, false, false, false, false, false, false, false, false, false, false, false] rfl rfl (by kernel_rfl) (by decide) (fun K hK => ?_)
 refine goes_ Try.func28 (by kernel_rfl) rfl #[.pointer (some ⟨ge, 0, none⟩)] (by rfl) rfl rfl (by (try simp only [List.map_toArray, List.map_cons, List.map_nil]); first | done | rfl) ?_
 refine (e_halted HE.out hb_ HB.out).mono ?_
 rintro e w' ⟨rfl, rfl⟩
 refine ⟨_, rfl, ?_⟩
 refine hK.out _ _ (HE.out.st.c6 0 _ _ _ _ _ _ _ _ rfl) (fun hHeld => ?_)
 clear hK K
 refine norm_ (a' := ?_) ?_ ?_
 rotate_left
 ·show Act.put _ (some 12) _ = _
  simp only [Act.put, List.setIfInBounds_toArray, List.set_cons_zero, List.set_cons_succ, i64_w, i32_w]
  rfl
 refine pure_ (i := 11) (N := some 16) (v := ?_) (a' := ?_) #[true, true, true, true, true, true, true, true, true, true, true, true, false, false, false, false, false, false, false, false, false, false, false, false, false, false, false, false, false, false, false, false, false, false, false, false, false, false, false, false, false, false, false, false, false, false, false, false, false, false, false, false, false, false, false, false] rfl rfl (by kernel_rfl) (fun _ _ _ h => h) (Or.inl ⟨by rfl, ?_⟩) ?_ ?_
 rotate_left
 ·intro w'
  go_simp
  with_reducible rfl
 rotate_left
 ·simp only [Act.put, List.setIfInBounds_toArray, List.set_cons_zero, List.set_cons_succ, i64_w, i32_w]
  rfl
 refine pure_ (i := 12) (N := some 17) (v := ?_) (a' := ?_) #[true, true, true, true, true, true, true, true, true, true, true, true, true, false, false, false, false, false, false, false, false, false, false, false, false, false, false, false, false, false, false, false, false, false, false, false, false, false, false, false, false, false, false, false, false, false, false, false, false, false, false, false, false, false, false, false] rfl rfl (by kernel_rfl) (fun _ _ _ h => h) (Or.inl ⟨by rfl, ?_⟩) ?_ ?_
 rotate_left
 ·intro w'
  go_simp
  with_reducible rfl
 rotate_left
 ·simp only [Act.put, List.setIfInBounds_toArray, List.set_cons_zero, List.set_cons_succ, i64_w, i32_w]
  rfl
 refine pure_ (i := 13) (N := some 18) (v := ?_) (a' := ?_) #[true, true, true, true, true, true, true, true, true, true, true, true, true, true, false, false, false, false, false, false, false, false, false, false, false, false, false, false, false, false, false, false, false, false, false, false, false, false, false, false, false, false, false, false, false, false, false, false, false, false, false, false, false, false, false, false] rfl rfl (by kernel_rfl) (fun _ _ _ h => h) (Or.inl ⟨by rfl, ?_⟩) ?_ ?_
 rotate_left
 ·intro w'
  go_simp
  with_reducible rfl
 rotate_left
 ·simp only [Act.put, List.setIfInBounds_toArray, List.set_cons_zero, List.set_cons_succ, i64_w, i32_w]
  rfl
 refine pure_ (i := 14) (N := some 19) (v := ?_) (a' := ?_) #[true, true, true, true, true, true, true, true, true, true, true, true, true, true, true, false, false, false, false, false, false, false, false, false, false, false, false, false, false, false, false, false, false, false, false, false, false, false, false, false, false, false, false, false, false, false, false, false, false, false, false, false, false, false, false, false] rfl rfl (by kernel_rfl) (fun _ _ _ h => h) (Or.inl ⟨by rfl, ?_⟩) ?_ ?_
 rotate_left
 ·intro w'
  go_simp
  with_reducible rfl
 rotate_left
 ·simp only [Act.put, List.setIfInBounds_toArray, List.set_cons_zero, List.set_cons_succ, i64_w, i32_w]
  rfl
 refine pure_ (i := 16) (N := some 21) (v := ?_) (a' := ?_) #[true, true, true, true, true, true, true, true, true, true, true, true, true, true, true, false, true, false, false, false, false, false, false, false, false, false, false, false, false, false, false, false, false, false, false, false, false, false, false, false, false, false, false, false, false, false, false, false, false, false, false, false, false, false, false, false] rfl rfl (by kernel_rfl) (fun _ _ _ h => h) (Or.inl ⟨by rfl, ?_⟩) ?_ ?_
 rotate_left
 ·intro w'
  go_simp
  with_reducible rfl
 rotate_left
 ·simp only [Act.put, List.setIfInBounds_toArray, List.set_cons_zero, List.set_cons_succ, i64_w, i32_w]
  rfl
 refine take_ (i := 17) (N := some 22) (v := ?_) (a' := ?_) #[true, true, true, true, true, true, true, true, true, true, true, true, true, true, true, false, true, true, false, false, false, false, false, false, false, false, false, false, false, false, false, false, false, false, false, false, false, false, false, false, false, false, false, false, false, false, false, false, false, false, false, false, false, false, false, false] rfl rfl (by kernel_rfl) (fun _ _ _ h => h) (Or.inl ⟨by rfl, ?_⟩) hHeld ?_ ?_
 rotate_left
 ·rintro w' ⟨s0, s1, s2, s3, s4, s5⟩
  go_simp
  with_reducible rfl
 rotate_left
 ·simp only [Act.put, List.setIfInBounds_toArray, List.set_cons_zero, List.set_cons_succ, i64_w, i32_w]
  rfl
 refine one_ (i := 15) (N := some 20) #[true, true, true, true, true, true, true, true, true, true, true, true, true, true, true, true, true, true, false, false, false, false, false, false, false, false, false, false, false, false, false, false, false, false, false, false, false, false, false, false, false, false, false, false, false, false, false, false, false, false, false, false, false, false, false, false] rfl rfl (by kernel_rfl) (by decide) (fun K hK => ?_)
 refine goes_ Try.func26 (by kernel_rfl) rfl #[.pointer (some ⟨ge, 0, none⟩)] (by rfl) rfl rfl (by (try simp only [List.map_toArray, List.map_cons, List.map_nil]); first | done | rfl) ?_
 refine (e_current HE.out HT.out HG.out).mono ?_
 rintro e w' ⟨rfl, rfl⟩
 refine ⟨_, rfl, ?_⟩
 refine hK.out _ _ (HE.out.st.c6 0 _ _ _ _ _ _ _ _ rfl) (fun hHeld => ?_)
 clear hK K
 refine norm_ (a' := ?_) ?_ ?_
 rotate_left
 ·show Act.put _ (some 20) _ = _
  simp only [Act.put, List.setIfInBounds_toArray, List.set_cons_zero, List.set_cons_succ, i64_w, i32_w]
  rfl
 refine pure_ (i := 18) (N := some 23) (v := ?_) (a' := ?_) #[true, true, true, true, true, true, true, true, true, true, true, true, true, true, true, true, true, true, true, false, false, false, false, false, false, false, false, false, false, false, false, false, false, false, false, false, false, false, false, false, false, false, false, false, false, false, false, false, false, false, false, false, false, false, false, false] rfl rfl (by kernel_rfl) (fun _ _ _ h => h) (Or.inl ⟨by rfl, ?_⟩) ?_ ?_
 rotate_left
 ·intro w'
  go_simp
  with_reducible rfl
 rotate_left
 ·simp only [Act.put, List.setIfInBounds_toArray, List.set_cons_zero, List.set_cons_succ, i64_w, i32_w]
  rfl
 refine pure_ (i := 19) (N := some 24) (v := ?_) (a' := ?_) #[true, true, true, true, true, true, true, true, true, true, true, true, true, true, true, true, true, true, true, true, false, false, false, false, false, false, false, false, false, false, false, false, false, false, false, false, false, false, false, false, false, false, false, false, false, false, false, false, false, false, false, false, false, false, false, false] rfl rfl (by kernel_rfl) (fun _ _ _ h => h) (Or.inl ⟨by rfl, ?_⟩) ?_ ?_
 rotate_left
 ·intro w'
  go_simp
  with_reducible rfl
 rotate_left
 ·simp only [Act.put, List.setIfInBounds_toArray, List.set_cons_zero, List.set_cons_succ, i64_w, i32_w]
  rfl
 refine pure_ (i := 20) (N := some 25) (v := ?_) (a' := ?_) #[true, true, true, true, true, true, true, true, true, true, true, true, true, true, true, true, true, true, true, true, true, false, false, false, false, false, false, false, false, false, false, false, false, false, false, false, false, false, false, false, false, false, false, false, false, false, false, false, false, false, false, false, false, false, false, false] rfl rfl (by kernel_rfl) (fun _ _ _ h => h) (Or.inl ⟨by rfl, ?_⟩) ?_ ?_
 rotate_left
 ·intro w'
  go_simp
  with_reducible rfl
 rotate_left
 ·simp only [Act.put, List.setIfInBounds_toArray, List.set_cons_zero, List.set_cons_succ, i64_w, i32_w]
  rfl
 refine pure_ (i := 21) (N := some 26) (v := ?_) (a' := ?_) #[true, true, true, true, true, true, true, true, true, true, true, true, true, true, true, true, true, true, true, true, true, true, false, false, false, false, false, false, false, false, false, false, false, false, false, false, false, false, false, false, false, false, false, false, false, false, false, false, false, false, false, false, false, false, false, false] rfl rfl (by kernel_rfl) (fun _ _ _ h => h) (Or.inl ⟨by rfl, ?_⟩) ?_ ?_
 rotate_left
 ·intro w'
  go_simp
  with_reducible rfl
 rotate_left
 ·simp only [Act.put, List.setIfInBounds_toArray, List.set_cons_zero, List.set_cons_succ, i64_w, i32_w]
  rfl
 refine pure_ (i := 23) (N := some 28) (v := ?_) (a' := ?_) #[true, true, true, true, true, true, true, true, true, true, true, true, true, true, true, true, true, true, true, true, true, true, false, true, false, false, false, false, false, false, false, false, false, false, false, false, false, false, false, false, false, false, false, false, false, false, false, false, false, false, false, false, false, false, false, false] rfl rfl (by kernel_rfl) (fun _ _ _ h => h) (Or.inl ⟨by rfl, ?_⟩) ?_ ?_
 rotate_left
 ·intro w'
  go_simp
  with_reducible rfl
 rotate_left
 ·simp only [Act.put, List.setIfInBounds_toArray, List.set_cons_zero, List.set_cons_succ, i64_w, i32_w]
  rfl
 refine take_ (i := 24) (N := some 29) (v := ?_) (a' := ?_) #[true, true, true, true, true, true, true, true, true, true, true, true, true, true, true, true, true, true, true, true, true, true, false, true, true, false, false, false, false, false, false, false, false, false, false, false, false, false, false, false, false, false, false, false, false, false, false, false, false, false, false, false, false, false, false, false] rfl rfl (by kernel_rfl) (fun _ _ _ h => h) (Or.inl ⟨by rfl, ?_⟩) hHeld ?_ ?_
 rotate_left
 ·rintro w' ⟨s0, s1, s2, s3, s4, s5⟩
  go_simp
  with_reducible rfl
 rotate_left
 ·simp only [Act.put, List.setIfInBounds_toArray, List.set_cons_zero, List.set_cons_succ, i64_w, i32_w]
  rfl
 refine one_ (i := 22) (N := some 27) #[true, true, true, true, true, true, true, true, true, true, true, true, true, true, true, true, true, true, true, true, true, true, true, true, true, false, false, false, false, false, false, false, false, false, false, false, false, false, false, false, false, false, false, false, false, false, false, false, false, false, false, false, false, false, false, false] rfl rfl (by kernel_rfl) (by decide) (fun K hK => ?_)
 refine goes_ Try.func31 (by kernel_rfl) rfl #[.pointer (some ⟨ge, 0, none⟩)] (by rfl) rfl rfl (by (try simp only [List.map_toArray, List.map_cons, List.map_nil]); first | done | rfl) ?_
 refine (e_due HE.out).mono ?_
 rintro e w' ⟨rfl, rfl⟩
 refine ⟨_, rfl, ?_⟩
 refine hK.out _ _ (HE.out.st.c6 0 _ _ _ _ _ _ _ _ rfl) (fun hHeld => ?_)
 clear hK K
 refine norm_ (a' := ?_) ?_ ?_
 rotate_left
 ·show Act.put _ (some 27) _ = _
  simp only [Act.put, List.setIfInBounds_toArray, List.set_cons_zero, List.set_cons_succ, i64_w, i32_w]
  rfl
 refine pure_ (i := 25) (N := some 30) (v := ?_) (a' := ?_) #[true, true, true, true, true, true, true, true, true, true, true, true, true, true, true, true, true, true, true, true, true, true, true, true, true, true, false, false, false, false, false, false, false, false, false, false, false, false, false, false, false, false, false, false, false, false, false, false, false, false, false, false, false, false, false, false] rfl rfl (by kernel_rfl) (fun _ _ _ h => h) (Or.inl ⟨by rfl, ?_⟩) ?_ ?_
 rotate_left
 ·intro w'
  go_simp
  with_reducible rfl
 rotate_left
 ·simp only [Act.put, List.setIfInBounds_toArray, List.set_cons_zero, List.set_cons_succ, i64_w, i32_w]
  rfl
 refine pure_ (i := 26) (N := some 31) (v := ?_) (a' := ?_) #[true, true, true, true, true, true, true, true, true, true, true, true, true, true, true, true, true, true, true, true, true, true, true, true, true, true, true, false, false, false, false, false, false, false, false, false, false, false, false, false, false, false, false, false, false, false, false, false, false, false, false, false, false, false, false, false] rfl rfl (by kernel_rfl) (fun _ _ _ h => h) (Or.inl ⟨by rfl, ?_⟩) ?_ ?_
 rotate_left
 ·intro w'
  go_simp
  with_reducible rfl
 rotate_left
 ·simp only [Act.put, List.setIfInBounds_toArray, List.set_cons_zero, List.set_cons_succ, i64_w, i32_w]
  rfl
 refine pure_ (i := 27) (N := some 32) (v := ?_) (a' := ?_) #[true, true, true, true, true, true, true, true, true, true, true, true, true, true, true, true, true, true, true, true, true, true, true, true, true, true, true, true, false, false, false, false, false, false, false, false, false, false, false, false, false, false, false, false, false, false, false, false, false, false, false, false, false, false, false, false] rfl rfl (by kernel_rfl) (fun _ _ _ h => h) (Or.inl ⟨by rfl, ?_⟩) ?_ ?_
 rotate_left
 ·intro w'
  go_simp
  with_reducible rfl
 rotate_left
 ·simp only [Act.put, List.setIfInBounds_toArray, List.set_cons_zero, List.set_cons_succ, i64_w, i32_w]
  rfl
 refine pure_ (i := 28) (N := some 33) (v := ?_) (a' := ?_) #[true, true, true, true, true, true, true, true, true, true, true, true, true, true, true, true, true, true, true, true, true, true, true, true, true, true, true, true, true, false, false, false, false, false, false, false, false, false, false, false, false, false, false, false, false, false, false, false, false, false, false, false, false, false, false, false] rfl rfl (by kernel_rfl) (fun _ _ _ h => h) (Or.inl ⟨by rfl, ?_⟩) ?_ ?_
 rotate_left
 ·intro w'
  go_simp
  with_reducible rfl
 rotate_left
 ·simp only [Act.put, List.setIfInBounds_toArray, List.set_cons_zero, List.set_cons_succ, i64_w, i32_w]
  rfl
 refine take_ (i := 30) (N := some 35) (v := ?_) (a' := ?_) #[true, true, true, true, true, true, true, true, true, true, true, true, true, true, true, true, true, true, true, true, true, true, true, true, true, true, true, true, true, false, true, false, false, false, false, false, false, false, false, false, false, false, false, false, false, false, false, false, false, false, false, false, false, false, false, false] rfl rfl (by kernel_rfl) (fun _ _ _ h => h) (Or.inl ⟨by rfl, ?_⟩) hHeld ?_ ?_
 rotate_left
 ·rintro w' ⟨s0, s1, s2, s3, s4, s5⟩
  go_simp
  with_reducible rfl
 rotate_left
 ·simp only [Act.put, List.setIfInBounds_toArray, List.set_cons_zero, List.set_cons_succ, i64_w, i32_w]
  rfl
 refine one_ (i := 29) (N := some 34) #[true, true, true, true, true, true, true, true, true, true, true, true, true, true, true, true, true, true, true, true, true, true, true, true, true, true, true, true, true, true, true, false, false, false, false, false, false, false, false, false, false, false, false, false, false, false, false, false, false, false, false, false, false, false, false, false] rfl rfl (by kernel_rfl) (by decide) (fun K hK => ?_)
 refine goes_ Try.func75 (by kernel_rfl) rfl #[.pointer (some ⟨ge, 0, none⟩)] (by rfl) rfl rfl (by (try simp only [List.map_toArray, List.map_cons, List.map_nil]); first | done | rfl) ?_
 refine (e_owner HE.out HT.out HG.out).mono ?_
 rintro e wz ⟨rfl, hE⟩
 replace HE := Go.Lib.hid hE
 clear hE
 refine ⟨_, rfl, ?_⟩
 refine hK.out _ _ (HE.out.st.c6 0 _ _ _ _ _ _ _ _ rfl) (fun hHeld => ?_)
 clear hK K
 refine norm_ (a' := ?_) ?_ ?_
 rotate_left
 ·show Act.put _ (some 34) _ = _
  simp only [Act.put, List.setIfInBounds_toArray, List.set_cons_zero, List.set_cons_succ, i64_w, i32_w]
  rfl
 refine one_ (i := 31) (N := some 36) #[true, true, true, true, true, true, true, true, true, true, true, true, true, true, true, true, true, true, true, true, true, true, true, true, true, true, true, true, true, true, true, true, false, false, false, false, false, false, false, false, false, false, false, false, false, false, false, false, false, false, false, false, false, false, false, false] rfl rfl (by kernel_rfl) (by decide) (fun K hK => ?_)
 refine goes_ Try.func73 (by kernel_rfl) rfl #[.agg #[.slice AL ss.length cl, .int .i64 x.cur.id, .int .i64 x.due, .int .i64 x.t, .int .u64 x.now, .int .u64 x.frames]] (by rfl) rfl rfl (by (try simp only [List.map_toArray, List.map_cons, List.map_nil]); first | done | rfl) ?_
 refine (eng_keep (fun lx h9 => r_owner h9 (HRS.out.more lx) hn HSM.out HSRC.out HT.out.ok HU.out HG.out) HE.out).mono ?_
 rintro e wz ⟨rfl, hE⟩
 replace HE := Go.Lib.hid hE
 clear hE
 refine ⟨_, rfl, ?_⟩
 refine hK.out _ _ (HE.out.st.c6 0 _ _ _ _ _ _ _ _ rfl) (fun hHeld => ?_)
 clear hK K
 refine norm_ (a' := ?_) ?_ ?_
 rotate_left
 ·show Act.put _ (some 36) _ = _
  simp only [Act.put, List.setIfInBounds_toArray, List.set_cons_zero, List.set_cons_succ, i64_w, i32_w]
  rfl
 refine pure_ (i := 32) (N := some 37) (v := ?_) (a' := ?_) #[true, true, true, true, true, true, true, true, true, true, true, true, true, true, true, true, true, true, true, true, true, true, true, true, true, true, true, true, true, true, true, true, true, false, false, false, false, false, false, false, false, false, false, false, false, false, false, false, false, false, false, false, false, false, false, false] rfl rfl (by kernel_rfl) (fun _ _ _ h => h) (Or.inl ⟨by rfl, ?_⟩) ?_ ?_
 rotate_left
 ·intro w'
  go_simp
  with_reducible rfl
 rotate_left
 ·simp only [Act.put, List.setIfInBounds_toArray, List.set_cons_zero, List.set_cons_succ, i64_w, i32_w]
  rfl
 refine pure_ (i := 33) (N := some 38) (v := ?_) (a' := ?_) #[true, true, true, true, true, true, true, true, true, true, true, true, true, true, true, true, true, true, true, true, true, true, true, true, true, true, true, true, true, true, true, true, true, true, false, false, false, false, false, false, false, false, false, false, false, false, false, false, false, false, false, false, false, false, false, false] rfl rfl (by kernel_rfl) (fun _ _ _ h => h) (Or.inl ⟨by rfl, ?_⟩) ?_ ?_
 rotate_left
 ·intro w'
  go_simp
  with_reducible rfl
 rotate_left
 ·simp only [Act.put, List.setIfInBounds_toArray, List.set_cons_zero, List.set_cons_succ, i64_w, i32_w]
  rfl
 refine pure_ (i := 34) (N := some 39) (v := ?_) (a' := ?_) #[true, true, true, true, true, true, true, true, true, true, true, true, true, true, true, true, true, true, true, true, true, true, true, true, true, true, true, true, true, true, true, true, true, true, true, false, false, false, false, false, false, false, false, false, false, false, false, false, false, false, false, false, false, false, false, false] rfl rfl (by kernel_rfl) (fun _ _ _ h => h) (Or.inl ⟨by rfl, ?_⟩) ?_ ?_
 rotate_left
 ·intro w'
  go_simp
  with_reducible rfl
 rotate_left
 ·simp only [Act.put, List.setIfInBounds_toArray, List.set_cons_zero, List.set_cons_succ, i64_w, i32_w]
  rfl
 refine pure_ (i := 35) (N := some 40) (v := ?_) (a' := ?_) #[true, true, true, true, true, true, true, true, true, true, true, true, true, true, true, true, true, true, true, true, true, true, true, true, true, true, true, true, true, true, true, true, true, true, true, true, false, false, false, false, false, false, false, false, false, false, false, false, false, false, false, false, false, false, false, false] rfl rfl (by kernel_rfl) (fun _ _ _ h => h) (Or.inl ⟨by rfl, ?_⟩) ?_ ?_
 rotate_left
 ·intro w'
  go_simp
  with_reducible rfl
 rotate_left
 ·simp only [Act.put, List.setIfInBounds_toArray, List.set_cons_zero, List.set_cons_succ, i64_w, i32_w]
  rfl
 refine pure_ (i := 37) (N := some 42) (v := ?_) (a' := ?_) #[true, true, true, true, true, true, true, true, true, true, true, true, true, true, true, true, true, true, true, true, true, true, true, true, true, true, true, true, true, true, true, true, true, true, true, true, false, true, false, false, false, false, false, false, false, false, false, false, false, false, false, false, false, false, false, false] rfl rfl (by kernel_rfl) (fun _ _ _ h => h) (Or.inl ⟨by rfl, ?_⟩) ?_ ?_
 rotate_left
 ·intro w'
  go_simp
  with_reducible rfl
 rotate_left
 ·simp only [Act.put, List.setIfInBounds_toArray, List.set_cons_zero, List.set_cons_succ, i64_w, i32_w]
  rfl
 refine take_ (i := 38) (N := some 43) (v := ?_) (a' := ?_) #[true, true, true, true, true, true, true, true, true, true, true, true, true, true, true, true, true, true, true, true, true, true, true, true, true, true, true, true, true, true, true, true, true, true, true, true, false, true, true, false, false, false, false, false, false, false, false, false, false, false, false, false, false, false, false, false] rfl rfl (by kernel_rfl) (fun _ _ _ h => h) (Or.inl ⟨by rfl, ?_⟩) hHeld ?_ ?_
 rotate_left
 ·rintro w' ⟨s0, s1, s2, s3, s4, s5⟩
  go_simp
  with_reducible rfl
 rotate_left
 ·simp only [Act.put, List.setIfInBounds_toArray, List.set_cons_zero, List.set_cons_succ, i64_w, i32_w]
  rfl
 refine one_ (i := 36) (N := some 41) #[true, true, true, true, true, true, true, true, true, true, true, true, true, true, true, true, true, true, true, true, true, true, true, true, true, true, true, true, true, true, true, true, true, true, true, true, true, true, true, false, false, false, false, false, false, false, false, false, false, false, false, false, false, false, false, false] rfl rfl (by kernel_rfl) (by decide) (fun K hK => ?_)
 refine goes_ Try.func25 (by kernel_rfl) rfl #[.pointer (some ⟨ge, 0, none⟩)] (by rfl) rfl rfl (by (try simp only [List.map_toArray, List.map_cons, List.map_nil]); first | done | rfl) ?_
 refine (e_offset HE.out HT.out HG.out).mono ?_
 rintro e w' ⟨rfl, rfl⟩
 refine ⟨_, rfl, ?_⟩
 refine hK.out _ _ (HE.out.st.c6 0 _ _ _ _ _ _ _ _ rfl) (fun hHeld => ?_)
 clear hK K
 refine norm_ (a' := ?_) ?_ ?_
 rotate_left
 ·show Act.put _ (some 41) _ = _
  simp only [Act.put, List.setIfInBounds_toArray, List.set_cons_zero, List.set_cons_succ, i64_w, i32_w]
  rfl
 refine pure_ (i := 39) (N := some 44) (v := ?_) (a' := ?_) #[true, true, true, true, true, true, true, true, true, true, true, true, true, true, true, true, true, true, true, true, true, true, true, true, true, true, true, true, true, true, true, true, true, true, true, true, true, true, true, true, false, false, false, false, false, false, false, false, false, false, false, false, false, false, false, false] rfl rfl (by kernel_rfl) (fun _ _ _ h => h) (Or.inl ⟨by rfl, ?_⟩) ?_ ?_
 rotate_left
 ·intro w'
  go_simp
  with_reducible rfl
 rotate_left
 ·simp only [Act.put, List.setIfInBounds_toArray, List.set_cons_zero, List.set_cons_succ, i64_w, i32_w]
  rfl
 refine pure_ (i := 40) (N := some 45) (v := ?_) (a' := ?_) #[true, true, true, true, true, true, true, true, true, true, true, true, true, true, true, true, true, true, true, true, true, true, true, true, true, true, true, true, true, true, true, true, true, true, true, true, true, true, true, true, true, false, false, false, false, false, false, false, false, false, false, false, false, false, false, false] rfl rfl (by kernel_rfl) (fun _ _ _ h => h) (Or.inl ⟨by rfl, ?_⟩) ?_ ?_
 rotate_left
 ·intro w'
  go_simp
  with_reducible rfl
 rotate_left
 ·simp only [Act.put, List.setIfInBounds_toArray, List.set_cons_zero, List.set_cons_succ, i64_w, i32_w]
  rfl
 refine pure_ (i := 41) (N := some 46) (v := ?_) (a' := ?_) #[true, true, true, true, true, true, true, true, true, true, true, true, true, true, true, true, true, true, true, true, true, true, true, true, true, true, true, true, true, true, true, true, true, true, true, true, true, true, true, true, true, true, false, false, false, false, false, false, false, false, false, false, false, false, false, false] rfl rfl (by kernel_rfl) (fun _ _ _ h => h) (Or.inl ⟨by rfl, ?_⟩) ?_ ?_
 rotate_left
 ·intro w'
  go_simp
  with_reducible rfl
 rotate_left
 ·simp only [Act.put, List.setIfInBounds_toArray, List.set_cons_zero, List.set_cons_succ, i64_w, i32_w]
  rfl
 refine pure_ (i := 42) (N := some 47) (v := ?_) (a' := ?_) #[true, true, true, true, true, true, true, true, true, true, true, true, true, true, true, true, true, true, true, true, true, true, true, true, true, true, true, true, true, true, true, true, true, true, true, true, true, true, true, true, true, true, true, false, false, false, false, false, false, false, false, false, false, false, false, false] rfl rfl (by kernel_rfl) (fun _ _ _ h => h) (Or.inl ⟨by rfl, ?_⟩) ?_ ?_
 rotate_left
 ·intro w'
  go_simp
  with_reducible rfl
 rotate_left
 ·simp only [Act.put, List.setIfInBounds_toArray, List.set_cons_zero, List.set_cons_succ, i64_w, i32_w]
  rfl
 refine take_ (i := 44) (N := some 49) (v := ?_) (a' := ?_) #[true, true, true, true, true, true, true, true, true, true, true, true, true, true, true, true, true, true, true, true, true, true, true, true, true, true, true, true, true, true, true, true, true, true, true, true, true, true, true, true, true, true, true, false, true, false, false, false, false, false, false, false, false, false, false, false] rfl rfl (by kernel_rfl) (fun _ _ _ h => h) (Or.inl ⟨by rfl, ?_⟩) hHeld ?_ ?_
 rotate_left
 ·rintro w' ⟨s0, s1, s2, s3, s4, s5⟩
  go_simp
  with_reducible rfl
 rotate_left
 ·simp only [Act.put, List.setIfInBounds_toArray, List.set_cons_zero, List.set_cons_succ, i64_w, i32_w]
  rfl
 refine one_ (i := 43) (N := some 48) #[true, true, true, true, true, true, true, true, true, true, true, true, true, true, true, true, true, true, true, true, true, true, true, true, true, true, true, true, true, true, true, true, true, true, true, true, true, true, true, true, true, true, true, true, true, false, false, false, false, false, false, false, false, false, false, false] rfl rfl (by kernel_rfl) (by decide) (fun K hK => ?_)
 refine goes_ Try.func76 (by kernel_rfl) rfl #[.pointer (some ⟨ge, 0, none⟩)] (by rfl) rfl rfl (by (try simp only [List.map_toArray, List.map_cons, List.map_nil]); first | done | rfl) ?_
 refine (e_left HE.out HT.out HG.out).mono ?_
 rintro e wz ⟨rfl, hE⟩
 replace HE := Go.Lib.hid hE
 clear hE
 refine ⟨_, rfl, ?_⟩
 refine hK.out _ _ (HE.out.st.c6 0 _ _ _ _ _ _ _ _ rfl) (fun hHeld => ?_)
 clear hK K
 refine norm_ (a' := ?_) ?_ ?_
 rotate_left
 ·show Act.put _ (some 48) _ = _
  simp only [Act.put, List.setIfInBounds_toArray, List.set_cons_zero, List.set_cons_succ, i64_w, i32_w]
  rfl
 refine one_ (i := 45) (N := some 50) #[true, true, true, true, true, true, true, true, true, true, true, true, true, true, true, true, true, true, true, true, true, true, true, true, true, true, true, true, true, true, true, true, true, true, true, true, true, true, true, true, true, true, true, true, true, true, false, false, false, false, false, false, false, false, false, false] rfl rfl (by kernel_rfl) (by decide) (fun K hK => ?_)
 refine goes_ Try.func74 (by kernel_rfl) rfl #[.agg #[.slice AL ss.length cl, .int .i64 x.cur.id, .int .i64 x.due, .int .i64 x.t, .int .u64 x.now, .int .u64 x.frames]] (by rfl) rfl rfl (by (try simp only [List.map_toArray, List.map_cons, List.map_nil]); first | done | rfl) ?_
 refine (eng_keep (fun lx h9 => r_left h9 (HRS.out.more lx) hn HSM.out HSRC.out HT.out.ok HU.out HG.out) HE.out).mono ?_
 rintro e wz ⟨rfl, hE⟩
 replace HE := Go.Lib.hid hE
 clear hE
 refine ⟨_, rfl, ?_⟩
 refine hK.out _ _ (HE.out.st.c6 0 _ _ _ _ _ _ _ _ rfl) (fun hHeld => ?_)
 clear hK K
 refine norm_ (a' := ?_) ?_ ?_
 rotate_left
 ·show Act.put _ (some 50) _ = _
  simp only [Act.put, List.setIfInBounds_toArray, List.set_cons_zero, List.set_cons_succ, i64_w, i32_w]
  rfl
 refine pure_ (i := 46) (N := some 51) (v := ?_) (a' := ?_) #[true, true, true, true, true, true, true, true, true, true, true, true, true, true, true, true, true, true, true, true, true, true, true, true, true, true, true, true, true, true, true, true, true, true, true, true, true, true, true, true, true, true, true, true, true, true, true, false, false, false, false, false, false, false, false, false] rfl rfl (by kernel_rfl) (fun _ _ _ h => h) (Or.inl ⟨by rfl, ?_⟩) ?_ ?_
 rotate_left
 ·intro w'
  go_simp
  with_reducible rfl
 rotate_left
 ·simp only [Act.put, List.setIfInBounds_toArray, List.set_cons_zero, List.set_cons_succ, i64_w, i32_w]
  rfl
 refine pure_ (i := 47) (N := some 52) (v := ?_) (a' := ?_) #[true, true, true, true, true, true, true, true, true, true, true, true, true, true, true, true, true, true, true, true, true, true, true, true, true, true, true, true, true, true, true, true, true, true, true, true, true, true, true, true, true, true, true, true, true, true, true, true, false, false, false, false, false, false, false, false] rfl rfl (by kernel_rfl) (fun _ _ _ h => h) (Or.inl ⟨by rfl, ?_⟩) ?_ ?_
 rotate_left
 ·intro w'
  go_simp
  with_reducible rfl
 rotate_left
 ·simp only [Act.put, List.setIfInBounds_toArray, List.set_cons_zero, List.set_cons_succ, i64_w, i32_w]
  rfl
 refine pure_ (i := 48) (N := some 53) (v := ?_) (a' := ?_) #[true, true, true, true, true, true, true, true, true, true, true, true, true, true, true, true, true, true, true, true, true, true, true, true, true, true, true, true, true, true, true, true, true, true, true, true, true, true, true, true, true, true, true, true, true, true, true, true, true, false, false, false, false, false, false, false] rfl rfl (by kernel_rfl) (fun _ _ _ h => h) (Or.inl ⟨by rfl, ?_⟩) ?_ ?_
 rotate_left
 ·intro w'
  go_simp
  with_reducible rfl
 rotate_left
 ·simp only [Act.put, List.setIfInBounds_toArray, List.set_cons_zero, List.set_cons_succ, i64_w, i32_w]
  rfl
 refine pure_ (i := 49) (N := some 54) (v := ?_) (a' := ?_) #[true, true, true, true, true, true, true, true, true, true, true, true, true, true, true, true, true, true, true, true, true, true, true, true, true, true, true, true, true, true, true, true, true, true, true, true, true, true, true, true, true, true, true, true, true, true, true, true, true, true, false, false, false, false, false, false] rfl rfl (by kernel_rfl) (fun _ _ _ h => h) (Or.inl ⟨by rfl, ?_⟩) ?_ ?_
 rotate_left
 ·intro w'
  go_simp
  with_reducible rfl
 rotate_left
 ·simp only [Act.put, List.setIfInBounds_toArray, List.set_cons_zero, List.set_cons_succ, i64_w, i32_w]
  rfl
 refine pure_ (i := 51) (N := some 56) (v := ?_) (a' := ?_) #[true, true, true, true, true, true, true, true, true, true, true, true, true, true, true, true, true, true, true, true, true, true, true, true, true, true, true, true, true, true, true, true, true, true, true, true, true, true, true, true, true, true, true, true, true, true, true, true, true, true, false, true, false, false, false, false] rfl rfl (by kernel_rfl) (fun _ _ _ h => h) (Or.inl ⟨by rfl, ?_⟩) ?_ ?_
 rotate_left
 ·intro w'
  go_simp
  with_reducible rfl
 rotate_left
 ·simp only [Act.put, List.setIfInBounds_toArray, List.set_cons_zero, List.set_cons_succ, i64_w, i32_w]
  rfl
 refine take_ (i := 52) (N := some 57) (v := ?_) (a' := ?_) #[true, true, true, true, true, true, true, true, true, true, true, true, true, true, true, true, true, true, true, true, true, true, true, true, true, true, true, true, true, true, true, true, true, true, true, true, true, true, true, true, true, true, true, true, true, true, true, true, true, true, false, true, true, false, false, false] rfl rfl (by kernel_rfl) (fun _ _ _ h => h) (Or.inl ⟨by rfl, ?_⟩) hHeld ?_ ?_
 rotate_left
 ·rintro w' ⟨s0, s1, s2, s3, s4, s5⟩
  go_simp
  with_reducible rfl
 rotate_left
 ·simp only [Act.put, List.setIfInBounds_toArray, List.set_cons_zero, List.set_cons_succ, i64_w, i32_w]
  rfl
 refine one_ (i := 50) (N := some 55) #[true, true, true, true, true, true, true, true, true, true, true, true, true, true, true, true, true, true, true, true, true, true, true, true, true, true, true, true, true, true, true, true, true, true, true, true, true, true, true, true, true, true, true, true, true, true, true, true, true, true, true, true, true, false, false, false] rfl rfl (by kernel_rfl) (by decide) (fun K hK => ?_)
 refine goes_ Try.func27 (by kernel_rfl) rfl #[.pointer (some ⟨ge, 0, none⟩)] (by rfl) rfl rfl (by (try simp only [List.map_toArray, List.map_cons, List.map_nil]); first | done | rfl) ?_
 refine (e_frames HE.out).mono ?_
 rintro e w' ⟨rfl, rfl⟩
 refine ⟨_, rfl, ?_⟩
 refine hK.out _ _ (HE.out.st.c6 0 _ _ _ _ _ _ _ _ rfl) (fun hHeld => ?_)
 clear hK K
 refine norm_ (a' := ?_) ?_ ?_
 rotate_left
 ·show Act.put _ (some 55) _ = _
  simp only [Act.put, List.setIfInBounds_toArray, List.set_cons_zero, List.set_cons_succ, i64_w, i32_w]
  rfl
 refine pure_ (i := 53) (N := some 58) (v := ?_) (a' := ?_) #[true, true, true, true, true, true, true, true, true, true, true, true, true, true, true, true, true, true, true, true, true, true, true, true, true, true, true, true, true, true, true, true, true, true, true, true, true, true, true, true, true, true, true, true, true, true, true, true, true, true, true, true, true, true, false, false] rfl rfl (by kernel_rfl) (fun _ _ _ h => h) (Or.inl ⟨by rfl, ?_⟩) ?_ ?_
 rotate_left
 ·intro w'
  go_simp
  with_reducible rfl
 rotate_left
 ·simp only [Act.put, List.setIfInBounds_toArray, List.set_cons_zero, List.set_cons_succ, i64_w, i32_w]
  rfl
 refine pure_ (i := 54) (N := some 59) (v := ?_) (a' := ?_) #[true, true, true, true, true, true, true, true, true, true, true, true, true, true, true, true, true, true, true, true, true, true, true, true, true, true, true, true, true, true, true, true, true, true, true, true, true, true, true, true, true, true, true, true, true, true, true, true, true, true, true, true, true, true, true, false] rfl rfl (by kernel_rfl) (fun _ _ _ h => h) (Or.inl ⟨by rfl, ?_⟩) ?_ ?_
 rotate_left
 ·intro w'
  go_simp
  with_reducible rfl
 rotate_left
 ·simp only [Act.put, List.setIfInBounds_toArray, List.set_cons_zero, List.set_cons_succ, i64_w, i32_w]
  rfl
 refine pure_ (i := 55) (N := some 4) (v := ?_) (a' := ?_) #[true, true, true, true, true, true, true, true, true, true, true, true, true, true, true, true, true, true, true, true, true, true, true, true, true, true, true, true, true, true, true, true, true, true, true, true, true, true, true, true, true, true, true, true, true, true, true, true, true, true, true, true, true, true, true, true] rfl rfl (by kernel_rfl) (fun _ _ _ h => h) (Or.inl ⟨by rfl, ?_⟩) ?_ ?_
 rotate_left
 ·intro w'
  go_simp
  with_reducible rfl
 rotate_left
 ·simp only [Act.put, List.setIfInBounds_toArray, List.set_cons_zero, List.set_cons_succ, i64_w, i32_w]
  rfl
 refine done_ (by kernel_rfl) ?_
 go_wp2_with fail
 go_ret
 obtain ⟨gc3, j3, hi3, hS3⟩ := HE.out
 exact ⟨rfl, gc3, j3, hi3, hS3.erase 4⟩
end Go.Proofs.Ytnpjbdaaoknkbaa.Frm

/-! A copy of an engine; what New answers. -/
namespace Go.Proofs.Ytnpjbdaaoknkbaa.Frm
open Go.RowKit Go.Proofs.YtnpjbdaaoknkbaaW.PrintWords Go.Proofs.YtnpjbdaaoknkbaaW.PrintLast Go.Proofs.YtnpjbdaaoknkbaaW.PrintMore Go.Proofs.Ytnpjbdaaoknkbaa.Mine Go.Proofs.Ytnpjbdaaoknkbaa.PTableFrames
open Go.Proofs.Ytnpjbdaaoknkbaa.Sl (SL Stp Chg St No wpc_seal wpc_round sealed MK look)
open Go.Proofs.Ytnpjbdaaoknkbaa.Tab (InT In InA Runs cur_tick cur_owner step_st nextT nextJ rd_mem cursor_st allR allR_is ownW OkW mkR_len grw_len at_run Small SchedIn BadW NewPost new_st WinIn)
set_option linter.unusedVariables false
set_option linter.unusedSimpArgs false
attribute [local go_sem] max2_int min2_int max_two min_two max_three min_three max_four min_four
variable {l : List SL} {w0 w : World} {AL : Option Addr} {cl : Nat} {ss : List S25} {ts : List Tb} {x : EM} {ge gk bm : Nat} {m : List (Int × Value)}
attribute [local go_sem] Option.isNone_some
set_option maxHeartbeats 800000 in
theorem ccopy_st {gc gt : Nat} {t : Int} {j : Nat} (h : St l w0 w) (n : Nat) (e : l[n]? = some (SL.blk gc 100 #[.pointer (some ⟨gt, 0, none⟩), .int .i64 t, .int .i64 (j : Nat)])) :
  Calls Try.prog 77 #[.pointer (some ⟨gc, 0, none⟩)] w fun e w' => ∃ g, e = .returned (.pointer (some ⟨g, 0, none⟩)) ∧ St (SL.blk g 100 #[.pointer (some ⟨gt, 0, none⟩), .int .i64 t, .int .i64 (j : Nat)] :: l) w0 w' := by
 obtain ⟨y0, y1, y2⟩ := h.c3 n _ _ _ _ _ e
 have HS := Go.Lib.hid h
 clear h
 go_enter Try.func77, Try.ntmps77
 go_wp2_with (first | ((with_reducible refine gate_dst (N := 3) rfl ?_); refine Sl.box_st HS.out (by rfl) (cs := #[.pointer none, .int .i64 0, .int .i64 0]) (t := 100) ?hr ?_; (case hr => first | (go_simp; done) | (go_simp; rfl)); intro g w1_ HSn HBn; clear HBn; replace HS : Hid (St (SL.blk g 100 #[.pointer none, .int .i64 0, .int .i64 0] :: l) w0 w1_) := Go.Lib.hid HSn; clear HSn; obtain ⟨c0_0, c0_1, c0_2⟩ := HS.out.c3 0 _ _ _ _ _ rfl) | ((with_reducible refine gate_store (p := 3) rfl ?_); refine Sl.storeAll_st HS.out 0 g 100 _ rfl [.pointer (some ⟨gt, 0, none⟩), .int .i64 t, .int .i64 (j : Nat)] rfl (by rfl) (by rfl) ?hr ?_; (case hr => have f_ := HS.out.f3 0 _ _ _ _ _ rfl; (try obtain ⟨f0, f1, f2⟩ := f_); first | (go_simp; done) | (go_simp; rfl)); intro w2_ HSn; replace HS : Hid (St (SL.blk g 100 #[.pointer (some ⟨gt, 0, none⟩), .int .i64 t, .int .i64 (j : Nat)] :: l) w0 w2_) := Go.Lib.hid HSn; clear HSn; clear c0_0 c0_1 c0_2; obtain ⟨c0_0, c0_1, c0_2⟩ := HS.out.c3 0 _ _ _ _ _ rfl))
 go_ret
 exact ⟨g, rfl, HS.out⟩
theorem kcopy_st {g : Nat} {t : Int} (h : St l w0 w) (n : Nat) (e : l[n]? = some (SL.blk g 132 #[.int .u64 t])) : Calls Try.prog 78 #[.pointer (some ⟨g, 0, none⟩)] w fun e w' => ∃ g2, e = .returned (.pointer (some ⟨g2, 0, none⟩)) ∧ St (SL.blk g2 132 #[.int .u64 t] :: l) w0 w' := by
 have c0 := h.c1 n _ _ _ e
 have HS := Go.Lib.hid h
 clear h e
 go_enter Try.func78, Try.ntmps78
 go_wp2_with (go_at_call 66; refine (clk_new HS.out t).mono ?_; rintro e w1 ⟨g2, rfl, hS⟩; replace HS := Go.Lib.hid hS; clear hS)
 go_ret
 exact ⟨g2, rfl, HS.out⟩
set_option maxHeartbeats 3200000 in
set_option maxRecDepth 100000 in
theorem copy_st (h : EngSt l ge gk bm m x w0 w) : Calls Try.prog 38 #[.pointer (some ⟨ge, 0, none⟩)] w fun e w' => ∃ g2 gk2 gc j, e = .returned (.pointer (some ⟨g2, 0, none⟩)) ∧ In x.cur.rs x.t j ∧ EngSt (SL.blk ge 108 #[.map (some bm), .pointer (some ⟨gc, 0, none⟩), .int .i64 x.due, .pointer (some ⟨gk, 0, none⟩), .int .u64 x.frames] :: SL.blk gk 132 #[.int .u64 x.now] :: SL.blk gc 100 #[.pointer (some ⟨x.cur.g, 0, none⟩), .int .i64 x.t, .int .i64 ((j : Nat) : Int)] :: l) g2 gk2 bm m x w0 w' := by
 obtain ⟨gc, j, hi, hS⟩ := h
 have HS := Go.Lib.hid hS.drew
 have HI := Go.Lib.hid hi
 clear hS hi
 go_enter Try.func38, Try.ntmps38
 go_upto_region 1 with (fail)
 refine start_ (n := 25) (S := fun w' => w'.cell? ⟨ge, 0, none⟩ = some (.map (some bm)) ∧ w'.cell? ⟨ge, 1, none⟩ = some (.pointer (some ⟨gc, 0, none⟩)) ∧ w'.cell? ⟨ge, 2, none⟩ = some (.int .i64 x.due) ∧ w'.cell? ⟨ge, 3, none⟩ = some (.pointer (some ⟨gk, 0, none⟩)) ∧ w'.cell? ⟨ge, 4, none⟩ = some (.int .u64 x.frames)) (ds := []) #[false, false, false, false, false, false, false, false, false, false, false, false, false, false, false, false, false, false, false, false, false, false, false, false, false] (by kernel_rfl) rfl rfl (HS.out.c5 0 _ _ _ _ _ _ _ rfl) (fun hHeld => ?_)
 generalize w.drew = W_ at *
 refine pure_ (i := 0) (N := some 3) (v := ?_) (a' := ?_) #[true, false, false, false, false, false, false, false, false, false, false, false, false, false, false, false, false, false, false, false, false, false, false, false, false] rfl rfl (by kernel_rfl) (fun _ _ _ h => h) (Or.inl ⟨by rfl, ?_⟩) ?_ ?_
 rotate_left
 ·intro w'
  go_simp
  with_reducible rfl
 rotate_left
 ·simp only [Act.put, List.setIfInBounds_toArray, List.set_cons_zero, List.set_cons_succ, i64_w, i32_w]
  rfl
 refine pure_ (i := 1) (N := some 4) (v := ?_) (a' := ?_) #[true, true, false, false, false, false, false, false, false, false, false, false, false, false, false, false, false, false, false, false, false, false, false, false, false] rfl rfl (by kernel_rfl) (fun _ _ _ h => h) (Or.inl ⟨by rfl, ?_⟩) ?_ ?_
 rotate_left
 ·intro w'
  go_simp
  with_reducible rfl
 rotate_left
 ·simp only [Act.put, List.setIfInBounds_toArray, List.set_cons_zero, List.set_cons_succ, i64_w, i32_w]
  rfl
 refine pure_ (i := 2) (N := some 5) (v := ?_) (a' := ?_) #[true, true, true, false, false, false, false, false, false, false, false, false, false, false, false, false, false, false, false, false, false, false, false, false, false] rfl rfl (by kernel_rfl) (fun _ _ _ h => h) (Or.inl ⟨by rfl, ?_⟩) ?_ ?_
 rotate_left
 ·intro w'
  go_simp
  with_reducible rfl
 rotate_left
 ·simp only [Act.put, List.setIfInBounds_toArray, List.set_cons_zero, List.set_cons_succ, i64_w, i32_w]
  rfl
 refine pure_ (i := 4) (N := some 7) (v := ?_) (a' := ?_) #[true, true, true, false, true, false, false, false, false, false, false, false, false, false, false, false, false, false, false, false, false, false, false, false, false] rfl rfl (by kernel_rfl) (fun _ _ _ h => h) (Or.inl ⟨by rfl, ?_⟩) ?_ ?_
 rotate_left
 ·intro w'
  go_simp
  with_reducible rfl
 rotate_left
 ·simp only [Act.put, List.setIfInBounds_toArray, List.set_cons_zero, List.set_cons_succ, i64_w, i32_w]
  rfl
 refine pure_ (i := 5) (N := some 8) (v := ?_) (a' := ?_) #[true, true, true, false, true, true, false, false, false, false, false, false, false, false, false, false, false, false, false, false, false, false, false, false, false] rfl rfl (by kernel_rfl) (fun _ _ _ h => h) (Or.inl ⟨by rfl, ?_⟩) ?_ ?_
 rotate_left
 ·intro w'
  go_simp
  with_reducible rfl
 rotate_left
 ·simp only [Act.put, List.setIfInBounds_toArray, List.set_cons_zero, List.set_cons_succ, i64_w, i32_w]
  rfl
 refine pure_ (i := 6) (N := some 9) (v := ?_) (a' := ?_) #[true, true, true, false, true, true, true, false, false, false, false, false, false, false, false, false, false, false, false, false, false, false, false, false, false] rfl rfl (by kernel_rfl) (fun _ _ _ h => h) (Or.inl ⟨by rfl, ?_⟩) ?_ ?_
 rotate_left
 ·intro w'
  go_simp
  with_reducible rfl
 rotate_left
 ·simp only [Act.put, List.setIfInBounds_toArray, List.set_cons_zero, List.set_cons_succ, i64_w, i32_w]
  rfl
 refine pure_ (i := 9) (N := some 12) (v := ?_) (a' := ?_) #[true, true, true, false, true, true, true, false, false, true, false, false, false, false, false, false, false, false, false, false, false, false, false, false, false] rfl rfl (by kernel_rfl) (fun _ _ _ h => h) (Or.inl ⟨by rfl, ?_⟩) ?_ ?_
 rotate_left
 ·intro w'
  go_simp
  with_reducible rfl
 rotate_left
 ·simp only [Act.put, List.setIfInBounds_toArray, List.set_cons_zero, List.set_cons_succ, i64_w, i32_w]
  rfl
 refine pure_ (i := 10) (N := some 13) (v := ?_) (a' := ?_) #[true, true, true, false, true, true, true, false, false, true, true, false, false, false, false, false, false, false, false, false, false, false, false, false, false] rfl rfl (by kernel_rfl) (fun _ _ _ h => h) (Or.inl ⟨by rfl, ?_⟩) ?_ ?_
 rotate_left
 ·intro w'
  go_simp
  with_reducible rfl
 rotate_left
 ·simp only [Act.put, List.setIfInBounds_toArray, List.set_cons_zero, List.set_cons_succ, i64_w, i32_w]
  rfl
 refine pure_ (i := 11) (N := some 14) (v := ?_) (a' := ?_) #[true, true, true, false, true, true, true, false, false, true, true, true, false, false, false, false, false, false, false, false, false, false, false, false, false] rfl rfl (by kernel_rfl) (fun _ _ _ h => h) (Or.inl ⟨by rfl, ?_⟩) ?_ ?_
 rotate_left
 ·intro w'
  go_simp
  with_reducible rfl
 rotate_left
 ·simp only [Act.put, List.setIfInBounds_toArray, List.set_cons_zero, List.set_cons_succ, i64_w, i32_w]
  rfl
 refine pure_ (i := 13) (N := some 16) (v := ?_) (a' := ?_) #[true, true, true, false, true, true, true, false, false, true, true, true, false, true, false, false, false, false, false, false, false, false, false, false, false] rfl rfl (by kernel_rfl) (fun _ _ _ h => h) (Or.inl ⟨by rfl, ?_⟩) ?_ ?_
 rotate_left
 ·intro w'
  go_simp
  with_reducible rfl
 rotate_left
 ·simp only [Act.put, List.setIfInBounds_toArray, List.set_cons_zero, List.set_cons_succ, i64_w, i32_w]
  rfl
 refine pure_ (i := 14) (N := some 17) (v := ?_) (a' := ?_) #[true, true, true, false, true, true, true, false, false, true, true, true, false, true, true, false, false, false, false, false, false, false, false, false, false] rfl rfl (by kernel_rfl) (fun _ _ _ h => h) (Or.inl ⟨by rfl, ?_⟩) ?_ ?_
 rotate_left
 ·intro w'
  go_simp
  with_reducible rfl
 rotate_left
 ·simp only [Act.put, List.setIfInBounds_toArray, List.set_cons_zero, List.set_cons_succ, i64_w, i32_w]
  rfl
 refine pure_ (i := 15) (N := some 18) (v := ?_) (a' := ?_) #[true, true, true, false, true, true, true, false, false, true, true, true, false, true, true, true, false, false, false, false, false, false, false, false, false] rfl rfl (by kernel_rfl) (fun _ _ _ h => h) (Or.inl ⟨by rfl, ?_⟩) ?_ ?_
 rotate_left
 ·intro w'
  go_simp
  with_reducible rfl
 rotate_left
 ·simp only [Act.put, List.setIfInBounds_toArray, List.set_cons_zero, List.set_cons_succ, i64_w, i32_w]
  rfl
 refine pure_ (i := 18) (N := some 21) (v := ?_) (a' := ?_) #[true, true, true, false, true, true, true, false, false, true, true, true, false, true, true, true, false, false, true, false, false, false, false, false, false] rfl rfl (by kernel_rfl) (fun _ _ _ h => h) (Or.inl ⟨by rfl, ?_⟩) ?_ ?_
 rotate_left
 ·intro w'
  go_simp
  with_reducible rfl
 rotate_left
 ·simp only [Act.put, List.setIfInBounds_toArray, List.set_cons_zero, List.set_cons_succ, i64_w, i32_w]
  rfl
 refine pure_ (i := 19) (N := some 22) (v := ?_) (a' := ?_) #[true, true, true, false, true, true, true, false, false, true, true, true, false, true, true, true, false, false, true, true, false, false, false, false, false] rfl rfl (by kernel_rfl) (fun _ _ _ h => h) (Or.inl ⟨by rfl, ?_⟩) ?_ ?_
 rotate_left
 ·intro w'
  go_simp
  with_reducible rfl
 rotate_left
 ·simp only [Act.put, List.setIfInBounds_toArray, List.set_cons_zero, List.set_cons_succ, i64_w, i32_w]
  rfl
 refine pure_ (i := 20) (N := some 23) (v := ?_) (a' := ?_) #[true, true, true, false, true, true, true, false, false, true, true, true, false, true, true, true, false, false, true, true, true, false, false, false, false] rfl rfl (by kernel_rfl) (fun _ _ _ h => h) (Or.inl ⟨by rfl, ?_⟩) ?_ ?_
 rotate_left
 ·intro w'
  go_simp
  with_reducible rfl
 rotate_left
 ·simp only [Act.put, List.setIfInBounds_toArray, List.set_cons_zero, List.set_cons_succ, i64_w, i32_w]
  rfl
 refine take_ (i := 3) (N := some 6) (v := ?_) (a' := ?_) #[true, true, true, true, true, true, true, false, false, true, true, true, false, true, true, true, false, false, true, true, true, false, false, false, false] rfl rfl (by kernel_rfl) (fun _ _ _ h => h) (Or.inl ⟨by rfl, ?_⟩) hHeld ?_ ?_
 rotate_left
 ·rintro w' ⟨s0, s1, s2, s3, s4⟩
  go_simp
  with_reducible rfl
 rotate_left
 ·simp only [Act.put, List.setIfInBounds_toArray, List.set_cons_zero, List.set_cons_succ, i64_w, i32_w]
  rfl
 refine take_ (i := 7) (N := some 10) (v := ?_) (a' := ?_) #[true, true, true, true, true, true, true, true, false, true, true, true, false, true, true, true, false, false, true, true, true, false, false, false, false] rfl rfl (by kernel_rfl) (fun _ _ _ h => h) (Or.inl ⟨by rfl, ?_⟩) hHeld ?_ ?_
 rotate_left
 ·rintro w' ⟨s0, s1, s2, s3, s4⟩
  go_simp
  with_reducible rfl
 rotate_left
 ·simp only [Act.put, List.setIfInBounds_toArray, List.set_cons_zero, List.set_cons_succ, i64_w, i32_w]
  rfl
 refine take_ (i := 12) (N := some 15) (v := ?_) (a' := ?_) #[true, true, true, true, true, true, true, true, false, true, true, true, true, true, true, true, false, false, true, true, true, false, false, false, false] rfl rfl (by kernel_rfl) (fun _ _ _ h => h) (Or.inl ⟨by rfl, ?_⟩) hHeld ?_ ?_
 rotate_left
 ·rintro w' ⟨s0, s1, s2, s3, s4⟩
  go_simp
  with_reducible rfl
 rotate_left
 ·simp only [Act.put, List.setIfInBounds_toArray, List.set_cons_zero, List.set_cons_succ, i64_w, i32_w]
  rfl
 refine take_ (i := 16) (N := some 19) (v := ?_) (a' := ?_) #[true, true, true, true, true, true, true, true, false, true, true, true, true, true, true, true, true, false, true, true, true, false, false, false, false] rfl rfl (by kernel_rfl) (fun _ _ _ h => h) (Or.inl ⟨by rfl, ?_⟩) hHeld ?_ ?_
 rotate_left
 ·rintro w' ⟨s0, s1, s2, s3, s4⟩
  go_simp
  with_reducible rfl
 rotate_left
 ·simp only [Act.put, List.setIfInBounds_toArray, List.set_cons_zero, List.set_cons_succ, i64_w, i32_w]
  rfl
 refine take_ (i := 21) (N := some 24) (v := ?_) (a' := ?_) #[true, true, true, true, true, true, true, true, false, true, true, true, true, true, true, true, true, false, true, true, true, true, false, false, false] rfl rfl (by kernel_rfl) (fun _ _ _ h => h) (Or.inl ⟨by rfl, ?_⟩) hHeld ?_ ?_
 rotate_left
 ·rintro w' ⟨s0, s1, s2, s3, s4⟩
  go_simp
  with_reducible rfl
 rotate_left
 ·simp only [Act.put, List.setIfInBounds_toArray, List.set_cons_zero, List.set_cons_succ, i64_w, i32_w]
  rfl
 refine one_ (i := 8) (N := some 11) #[true, true, true, true, true, true, true, true, true, true, true, true, true, true, true, true, true, false, true, true, true, true, false, false, false] rfl rfl (by kernel_rfl) (by decide) (fun K hK => ?_)
 refine goes_ Try.func77 (by kernel_rfl) rfl #[.pointer (some ⟨gc, 0, none⟩)] (by rfl) rfl rfl (by (try simp only [List.map_toArray, List.map_cons, List.map_nil]); first | done | rfl) ?_
 refine (ccopy_st HS.out 3 rfl).mono ?_
 rintro e w2 ⟨gc2, rfl, hS⟩
 replace HS : Hid (St (SL.blk gc2 100 #[.pointer (some ⟨x.cur.g, 0, none⟩), .int .i64 x.t, .int .i64 ((j : Nat) : Int)] :: SL.blk ge 108 #[.map (some bm), .pointer (some ⟨gc, 0, none⟩), .int .i64 x.due, .pointer (some ⟨gk, 0, none⟩), .int .u64 x.frames] :: SL.map KI bm m :: SL.blk gk 132 #[.int .u64 x.now] :: SL.blk gc 100 #[.pointer (some ⟨x.cur.g, 0, none⟩), .int .i64 x.t, .int .i64 ((j : Nat) : Int)] :: l) w0 w2) := Go.Lib.hid hS
 clear hS
 refine ⟨_, rfl, ?_⟩
 refine hK.out _ _ (HS.out.c5 1 _ _ _ _ _ _ _ rfl) (fun hHeld => ?_)
 clear hK K
 refine norm_ (a' := ?_) ?_ ?_
 rotate_left
 ·show Act.put _ (some 11) _ = _
  simp only [Act.put, List.setIfInBounds_toArray, List.set_cons_zero, List.set_cons_succ, i64_w, i32_w]
  rfl
 refine one_ (i := 17) (N := some 20) #[true, true, true, true, true, true, true, true, true, true, true, true, true, true, true, true, true, true, true, true, true, true, false, false, false] rfl rfl (by kernel_rfl) (by decide) (fun K hK => ?_)
 refine goes_ Try.func78 (by kernel_rfl) rfl #[.pointer (some ⟨gk, 0, none⟩)] (by rfl) rfl rfl (by (try simp only [List.map_toArray, List.map_cons, List.map_nil]); first | done | rfl) ?_
 refine (kcopy_st HS.out 3 rfl).mono ?_
 rintro e w3 ⟨gk2, rfl, hS⟩
 replace HS : Hid (St (SL.blk gk2 132 #[.int .u64 x.now] :: SL.blk gc2 100 #[.pointer (some ⟨x.cur.g, 0, none⟩), .int .i64 x.t, .int .i64 ((j : Nat) : Int)] :: SL.blk ge 108 #[.map (some bm), .pointer (some ⟨gc, 0, none⟩), .int .i64 x.due, .pointer (some ⟨gk, 0, none⟩), .int .u64 x.frames] :: SL.map KI bm m :: SL.blk gk 132 #[.int .u64 x.now] :: SL.blk gc 100 #[.pointer (some ⟨x.cur.g, 0, none⟩), .int .i64 x.t, .int .i64 ((j : Nat) : Int)] :: l) w0 w3) := Go.Lib.hid hS
 clear hS
 refine ⟨_, rfl, ?_⟩
 refine hK.out _ _ (HS.out.c5 2 _ _ _ _ _ _ _ rfl) (fun hHeld => ?_)
 clear hK K
 refine norm_ (a' := ?_) ?_ ?_
 rotate_left
 ·show Act.put _ (some 20) _ = _
  simp only [Act.put, List.setIfInBounds_toArray, List.set_cons_zero, List.set_cons_succ, i64_w, i32_w]
  rfl
 refine pure_ (i := 22) (N := some 25) (v := ?_) (a' := ?_) #[true, true, true, true, true, true, true, true, true, true, true, true, true, true, true, true, true, true, true, true, true, true, true, false, false] rfl rfl (by kernel_rfl) (fun _ _ _ h => h) (Or.inl ⟨by rfl, ?_⟩) ?_ ?_
 rotate_left
 ·intro w'
  go_simp
  with_reducible rfl
 rotate_left
 ·simp only [Act.put, List.setIfInBounds_toArray, List.set_cons_zero, List.set_cons_succ, i64_w, i32_w]
  rfl
 refine one_ (i := 23) (N := some 26) #[true, true, true, true, true, true, true, true, true, true, true, true, true, true, true, true, true, true, true, true, true, true, true, true, false] rfl rfl (by kernel_rfl) (by decide) (fun K hK => ?_)
 refine Sl.box_stp HS.out (by rfl) (cs := #[.map (some bm), .pointer (some ⟨gc2, 0, none⟩), .int .i64 x.due, .pointer (some ⟨gk2, 0, none⟩), .int .u64 x.frames]) (t := 108) (by first | (go_simp; done) | (go_simp; rfl)) ?_
 intro g2 w4 HSn HBn
 clear HBn
 replace HS : Hid (St (SL.blk g2 108 #[.map (some bm), .pointer (some ⟨gc2, 0, none⟩), .int .i64 x.due, .pointer (some ⟨gk2, 0, none⟩), .int .u64 x.frames] :: SL.blk gk2 132 #[.int .u64 x.now] :: SL.blk gc2 100 #[.pointer (some ⟨x.cur.g, 0, none⟩), .int .i64 x.t, .int .i64 ((j : Nat) : Int)] :: SL.blk ge 108 #[.map (some bm), .pointer (some ⟨gc, 0, none⟩), .int .i64 x.due, .pointer (some ⟨gk, 0, none⟩), .int .u64 x.frames] :: SL.map KI bm m :: SL.blk gk 132 #[.int .u64 x.now] :: SL.blk gc 100 #[.pointer (some ⟨x.cur.g, 0, none⟩), .int .i64 x.t, .int .i64 ((j : Nat) : Int)] :: l) w0 w4) := Go.Lib.hid HSn
 clear HSn
 refine hK.out _ _ (HS.out.c5 3 _ _ _ _ _ _ _ rfl) (fun hHeld => ?_)
 clear hK K
 refine norm_ (a' := ?_) ?_ ?_
 rotate_left
 ·show Act.put _ (some 26) _ = _
  simp only [Act.put, List.setIfInBounds_toArray, List.set_cons_zero, List.set_cons_succ, i64_w, i32_w]
  rfl
 refine pure_ (i := 24) (N := some 2) (v := ?_) (a' := ?_) #[true, true, true, true, true, true, true, true, true, true, true, true, true, true, true, true, true, true, true, true, true, true, true, true, true] rfl rfl (by kernel_rfl) (fun _ _ _ h => h) (Or.inl ⟨by rfl, ?_⟩) ?_ ?_
 rotate_left
 ·intro w'
  go_simp
  with_reducible rfl
 rotate_left
 ·simp only [Act.put, List.setIfInBounds_toArray, List.set_cons_zero, List.set_cons_succ, i64_w, i32_w]
  rfl
 refine done_ (by kernel_rfl) ?_
 go_wp2_with fail
 go_ret
 exact ⟨g2, gk2, gc, j, rfl, HI.out, gc2, j, HI.out, (((HS.out.front 2 _ rfl).front 2 _ rfl).front 4 _ rfl).front 3 _ rfl⟩
theorem index_nil1 {g : Nat} (h : St l w0 w) (n : Nat) (e : l[n]? = some (SL.blk g 31 #[.pointer none])) : Calls Try.prog 116 #[.slice (some ⟨g, 0, none⟩) 1 1, .pointer none] w fun e w' => e = .returned (.int .i64 0) ∧ w = w' := by
 have c0 := h.c1 n _ _ _ e
 have had : (⟨g, 0, none⟩ : Addr).add 0 = ⟨g, 0, none⟩ := rfl
 clear h e
 go_enter Try.func116, Try.ntmps116
 go_wp2_with fail
 go_loop [8] (fun i => i = .int .i64 0) (fun i => 0)
 case atStart => rfl
 case round =>
  obtain rfl := hrel
  go_wp2_with fail
  go_ret
  exact ⟨rfl, rfl⟩
theorem contains_nil1 {g : Nat} (h : St l w0 w) (n : Nat) (e : l[n]? = some (SL.blk g 31 #[.pointer none])) : Calls Try.prog 67 #[.slice (some ⟨g, 0, none⟩) 1 1, .pointer none] w fun e w' => e = .returned (.bool true) ∧ w = w' := by
 have HS := Go.Lib.hid h
 clear h
 go_enter Try.func67, Try.ntmps67
 go_wp2_with (go_at_call 116; refine (index_nil1 HS.out n e).mono ?_; rintro e w' ⟨rfl, rfl⟩)
 go_ret
 exact ⟨rfl, rfl⟩
theorem new_nil {g : Nat} (h : St l w0 w) (n : Nat) (e : l[n]? = some (SL.blk g 31 #[.pointer none])) : Calls Try.prog 22 #[.slice (some ⟨g, 0, none⟩) 1 1, .int .i64 0, .int .u64 0] w fun e w' => e = .returned (.tuple #[.pointer none, .int .i64 1]) ∧ St l w0 w' := by
 have HS := Go.Lib.hid h
 have HE := Go.Lib.hid e
 clear h e
 go_enter Try.func22, Try.ntmps22
 go_wp2_with (first | ((with_reducible refine gate_dst (N := 15) rfl ?_); refine Sl.map_st KI HS.out (by rfl) ?hr ?_; (case hr => first | (go_simp; done) | (go_simp; rfl)); intro bm w1_ HSn HBn; clear HBn; replace HS : Hid (St (SL.map KI bm (mapOf []) :: l) w0 w1_) := Go.Lib.hid HSn; clear HSn) | (go_at_call 66; refine (clk_new HS.out 0).mono ?_; rintro e w2_ ⟨gk, rfl, HSn⟩; replace HS : Hid (St (SL.blk gk 132 #[.int .u64 0] :: SL.map KI bm (mapOf []) :: l) w0 w2_) := Go.Lib.hid HSn; clear HSn; obtain c0_0 := HS.out.c1 0 _ _ _ rfl) | ((with_reducible refine gate_dst (N := 20) rfl ?_); refine Sl.box_st HS.out (by rfl) (cs := #[.map (some bm), .pointer none, .int .i64 0, .pointer (some ⟨gk, 0, none⟩), .int .u64 0]) (t := 108) ?hr ?_; (case hr => first | (go_simp; done) | (go_simp; rfl)); intro ge w3_ HSn HBn; clear HBn; replace HS : Hid (St (SL.blk ge 108 #[.map (some bm), .pointer none, .int .i64 0, .pointer (some ⟨gk, 0, none⟩), .int .u64 0] :: SL.blk gk 132 #[.int .u64 0] :: SL.map KI bm (mapOf []) :: l) w0 w3_) := Go.Lib.hid HSn; clear HSn; clear c0_0; obtain ⟨c0_0, c0_1, c0_2, c0_3, c0_4⟩ := HS.out.c5 0 _ _ _ _ _ _ _ rfl; obtain c1_0 := HS.out.c1 1 _ _ _ rfl) | (go_at_call 67; refine (contains_nil1 HS.out (n + 3) HE.out).mono ?_; rintro e w' ⟨rfl, rfl⟩))
 go_ret2
 exact ⟨rfl, HS.out.drop.drop.drop⟩
theorem EngSt.then_ {w1 : World} (h : EngSt l ge gk bm m x w0 w) (k : Below w.heap.size w w1) : EngSt l ge gk bm m x w0 w1 := by
 obtain ⟨gc, j, hi, hS⟩ := h
 exact ⟨gc, j, hi, hS.then_ k⟩
variable {first epoch : Int} {E : Ending}
theorem EngPost.st (h : EngPost l w0 ts first epoch E w) : St l w0 w := by
 rcases h with ⟨_, _, _, _, _, _, _, h⟩ | ⟨_, _, h⟩ | ⟨_, _, _, h⟩
 ·exact h.st
 ·exact h
 ·exact h
theorem EngPost.then_ {w1 : World} (h : EngPost l w0 ts first epoch E w) (k : Below w.heap.size w w1) : EngPost l w0 ts first epoch E w1 := by
 rcases h with ⟨ge, gk, bm, y, a, b, c, h⟩ | ⟨a, b, h⟩ | ⟨a, b, c, h⟩
 ·exact .inl ⟨ge, gk, bm, y, a, b, c, h.then_ k⟩
 ·exact .inr (.inl ⟨a, b, h.then_ k⟩)
 ·exact .inr (.inr ⟨a, b, c, h.then_ k⟩)
theorem EngPost.pair (h : EngPost l w0 ts first epoch E w) : ∃ (p : Value) (k : Int), E = .returned (.tuple #[p, .int .i64 k]) := by
 rcases h with ⟨ge, gk, bm, y, a, b, c, h⟩ | ⟨a, b, h⟩ | ⟨a, b, c, h⟩
 ·exact ⟨_, _, c⟩
 ·exact ⟨_, _, b⟩
 ·exact ⟨_, _, c⟩
/-- A call that keeps what is owned keeps New's answer. -/
theorem post_keep {f : FuncId} {args : Array Value} {R : Ending → Prop} (H : ∀ (lx : List SL), St (lx ++ l) w0 w → Calls Try.prog f args w fun e w' => R e ∧ St (lx ++ l) w0 w') (h : EngPost l w0 ts first epoch E w) : Calls Try.prog f args w fun e w' => R e ∧ EngPost l w0 ts first epoch E w' := by
 rcases h with ⟨ge, gk, bm, y, a, b, c, gc, j, hi, hS⟩ | ⟨a, b, h⟩ | ⟨a, b, c, h⟩
 ·refine (H [_, _, _, _] hS).mono ?_
  rintro e w' ⟨hR, h2⟩
  exact ⟨hR, .inl ⟨ge, gk, bm, y, a, b, c, gc, j, hi, h2⟩⟩
 ·refine (H [] h).mono ?_
  rintro e w' ⟨hR, h2⟩
  exact ⟨hR, .inr (.inl ⟨a, b, h2⟩)⟩
 ·refine (H [] h).mono ?_
  rintro e w' ⟨hR, h2⟩
  exact ⟨hR, .inr (.inr ⟨a, b, c, h2⟩)⟩
/-- What Get answers, whether there is one or not. -/
def GotAny (b : Bool) (e : Ending) : Prop := ∃ a0 a1 A2 n2 c2 A3 n3 c3, e = .returned (.tuple #[.agg #[.int .i64 a0, .int .i64 a1, .slice A2 n2 c2, .slice A3 n3 c3], .bool b])
theorem get_any (h : St l w0 w) (hrs : SchedsAt l w0 AL ss) (hn : ss.length ≤ 1000000) (hsrc : ts.map Tb.src = ss.map srcS) (id : Int) : Calls Try.prog 32 #[.slice AL ss.length cl, .int .i64 id] w fun e w' => GotAny (findT ts id).isSome e ∧ St l w0 w' := by
 cases c : findT ts id with
 | none =>
  refine (get_no h hrs hn id (find_no ts ss id hsrc c)).mono ?_
  rintro e w' ⟨rfl, h2⟩
  exact ⟨⟨_, _, _, _, _, _, _, _, rfl⟩, h2⟩
 | some y =>
  obtain ⟨n, hk, n0, n1, n2, n3⟩ := find_idx ts ss id y hsrc c
  refine (get_yes h AL cl ss hrs hn id n hk n0 n3).mono ?_
  rintro e w' ⟨A2, c2, A3, c3, rfl, _, _, _, h2⟩
  exact ⟨⟨_, _, _, _, _, _, _, _, rfl⟩, h2⟩
end Go.Proofs.Ytnpjbdaaoknkbaa.Frm

/-! FramePlays: the walk. -/
namespace Go.Proofs.Ytnpjbdaaoknkbaa.Frm
open Go.RowKit Go.Proofs.YtnpjbdaaoknkbaaW.PrintWords Go.Proofs.YtnpjbdaaoknkbaaW.PrintLast Go.Proofs.YtnpjbdaaoknkbaaW.PrintMore Go.Proofs.Ytnpjbdaaoknkbaa.Mine Go.Proofs.Ytnpjbdaaoknkbaa.PTableFrames
open Go.Proofs.Ytnpjbdaaoknkbaa.Sl (SL Stp Chg St No wpc_seal wpc_round sealed MK look)
open Go.Proofs.Ytnpjbdaaoknkbaa.Tab (InT In InA Runs cur_tick cur_owner step_st nextT nextJ rd_mem cursor_st allR allR_is ownW OkW mkR_len grw_len at_run Small SchedIn BadW NewPost new_st WinIn)
set_option linter.unusedVariables false
set_option linter.unusedSimpArgs false
attribute [local go_sem] max2_int min2_int max_two min_two max_three min_three max_four min_four
/-- Two of the first ones have one id. -/
def Dup (ss : List S25) (k : Nat) (b : Bool) : Prop := b = true ↔ ¬ Dist ss k
def DupIn (ss : List S25) (k m : Nat) (b : Bool) : Prop := b = true ↔ (¬ Dist ss k ∨ ∃ a : Nat, a < m ∧ (ss.getD a z25).f0 = (ss.getD k z25).f0)
theorem Dup.start (ss : List S25) : Dup ss 0 false := ⟨fun h => (by cases h), fun h => absurd (fun a b _ hb => absurd hb (Nat.not_lt_zero _)) h⟩
theorem DupIn.start {ss : List S25} {k : Nat} {b : Bool} (h : Dup ss k b) : DupIn ss k 0 b := ⟨fun hb => .inl (h.1 hb), fun h1 => h1.elim h.2 (fun ⟨a, ha, _⟩ => absurd ha (Nat.not_lt_zero _))⟩
theorem DupIn.next {ss : List S25} {k m : Nat} {b : Bool} (h : DupIn ss k m b) : DupIn ss k (m + 1) (b || ((ss.getD k z25).f0 == (ss.getD m z25).f0)) := by
 constructor
 ·intro hb
  rw [Bool.or_eq_true] at hb
  rcases hb with hb | hb
  ·rcases h.1 hb with h1 | ⟨a, ha, e⟩
   ·exact .inl h1
   ·exact .inr ⟨a, by omega, e⟩
  ·exact .inr ⟨m, by omega, (beq_iff_eq.1 hb).symm⟩
 ·rintro (h1 | ⟨a, ha, e⟩)
  ·rw [h.2 (.inl h1), Bool.true_or]
  ·rcases Nat.lt_or_ge a m with q | q
   ·rw [h.2 (.inr ⟨a, q, e⟩), Bool.true_or]
   ·obtain rfl : a = m := by omega
    rw [beq_iff_eq.2 e.symm, Bool.or_true]
theorem DupIn.done {ss : List S25} {k : Nat} {b : Bool} (h : DupIn ss k k b) : Dup ss (k + 1) b := by
 constructor
 ·intro hb hd
  rcases h.1 hb with h1 | ⟨a, ha, e⟩
  ·exact h1 (fun x y hxy hy => hd x y hxy (by omega))
  ·exact hd a k ha (by omega) e
 ·intro hn
  refine h.2 ?_
  by_cases h1 : Dist ss k
  ·refine .inr ?_
   by_cases h2 : ∃ a : Nat, a < k ∧ (ss.getD a z25).f0 = (ss.getD k z25).f0
   ·exact h2
   ·exact absurd (dist_next h1 (fun a ha e => h2 ⟨a, ha, e⟩)) hn
  ·exact .inl h1
theorem nodup_dist {ss : List S25} {ts : List Tb} (hs : ts.map Tb.src = ss.map srcS) (h : (ts.map Tb.id).Nodup) : Dist ss ss.length := by
 have e : ts.map Tb.id = ss.map S25.f0 := by
  have := congrArg (List.map Prod.fst) hs
  rw [List.map_map, List.map_map] at this
  exact this
 rw [e, List.nodup_iff_pairwise_ne, List.pairwise_iff_getElem] at h
 intro a b hab hb
 have := h a b (by rw [List.length_map]; omega) (by rw [List.length_map]; omega) hab
 rw [List.getElem_map, List.getElem_map] at this
 rwa [List.getD_eq_getElem?_getD, List.getElem?_eq_getElem (by omega), List.getD_eq_getElem?_getD, List.getElem?_eq_getElem hb]
theorem tup_inj {p : Value} {k : Int} {p2 : Value} {k2 : Int} (h : Ending.returned (.tuple #[p, .int .i64 k]) = .returned (.tuple #[p2, .int .i64 k2])) : p = p2 ∧ k = k2 := by
 injection h with h
 injection h with h
 have h3 := congrArg Array.toList h
 simp at h3
 exact h3
/-- A call. -/
structure S61 where
 f0 : Bool
 f1 : Int
def z61 : S61 := ⟨false, 0⟩
def k61 : Kd S61 := Kd.iso (Kd.pair (Kd.bool) (Kd.int .i64)) (fun x : S61 => (x.f0, x.f1))
theorem k61_open {w : World} {x : S61} {cs : List Value} (h : k61.K w x cs) : cs = [.bool x.f0, .int .i64 x.f1] := by
 obtain ⟨_, _, rfl, rfl, rfl⟩ := h
 exact rfl
theorem k61_mk (w : World) (x : S61) : k61.K w x [.bool x.f0, .int .i64 x.f1] := ⟨[.bool x.f0], [.int .i64 x.f1], rfl, rfl, rfl⟩
def rd_T61 (xs : List S61) (i : Int) : S61 := xs.getD i.toNat z61
theorem at_T61 {w : World} {A : Option Addr} {n : Nat} {xs : List S61} (h : Kd.C k61 w A n xs) (i : Int) (h0 : 0 ≤ i) (h1 : i < n) : ∃ ad , A = some ad ∧ w.cell? (ad.add (i.toNat * 2)) = some (.bool (rd_T61 xs i).f0) ∧
  w.cell? ⟨(ad.add (i.toNat * 2)).block, (ad.add (i.toNat * 2)).off + 1, none⟩ = some (.int .i64 (rd_T61 xs i).f1) := by
 obtain ⟨ad, c, e, _, hK, hc0⟩ := Kd.C_get h z61 i h0 h1
 have hc : ∀ j u, c[j]? = some u → w.cell? (ad.add (i.toNat * 2 + j)) = some u := hc0
 obtain rfl := k61_open hK
 exact ⟨ad, e, hc 0 _ rfl, by rw [← add_field _ _ 1 (by omega)]; exact hc 1 _ rfl⟩
set_option maxHeartbeats 51200000 in
set_option maxRecDepth 100000 in
theorem plays_raw (w : World) (A0 : Option Addr) (c0 : Nat) (ss : List S25) (hr0 : Kd.C k25 w A0 ss.length ss) (hc0 : ss.length ≤ c0) (hgs : ∀ s ∈ ss, Small s.f2 ∧ Small s.f3) (AI : Option Addr) (ci : Nat) (ids : List Int) (hri : Kd.C (Kd.int .i64) w AI ids.length ids) (hci : ids.length ≤ ci)
  (first epoch : Int) (hfi : (Lit.int .i64 first).wf = true) (hep0 : 0 ≤ epoch) (hep1 : epoch ≤ 18446744073709551615)
  (AO : Option Addr) (co : Nat) (os : List S61) (hro : Kd.C k61 w AO os.length os) (hco : os.length ≤ co) (hwo : ∀ o ∈ os, (Lit.int .i64 o.f1).wf = true) :
  Calls Try.prog 6 #[.slice A0 ss.length c0, .slice AI ids.length ci, .int .i64 first, .int .u64 epoch, .slice AO os.length co] w fun e w' => e = .returned (.bool true) ∧ Below w.heap.size w w' := by
 obtain ⟨K_, r, hfew, hfew2⟩ := few_is ss ids hr0.2.1 hri.2.1 hgs
 have HF := Go.Lib.hid hfew
 have HS := Go.Lib.hid (St.start w)
 have HC := Go.Lib.hid hr0
 have HI := Go.Lib.hid hri
 have HO := Go.Lib.hid hro
 have HSM : Hid (Small ids) := Go.Lib.hid hri.2.1
 have HGS := Go.Lib.hid hgs
 have HFI := Go.Lib.hid hfi
 have HWO := Go.Lib.hid hwo
 have hlen : ss.length ≤ 9223372036854775807 := hr0.2.1
 have hleno : os.length ≤ 9223372036854775807 := hro.2.1
 clear hr0 hri hfew hgs hfi hro hwo
 cases r with
 | false =>
  clear hfew2
  go_enter Try.func6, Try.ntmps6
  go_wp2_with (first | (go_at_call 20; refine (countwheellaw18_few.calls K_ A0 c0 ss AI ci ids false _ HC.out hc0 HI.out hci HF.out).mono ?_; rintro e w1 ⟨rfl, hb⟩; replace HS := Go.Lib.hid (HS.out.then_ hb); clear hb) | (go_at_call 21; refine (awake_st HS.out).mono ?_; rintro e wz ⟨rfl, hS⟩; replace HS := Go.Lib.hid hS; clear hS))
  go_ret
  exact ⟨rfl, HS.out.below⟩
 | true =>
  obtain ⟨hl8, hi40, hask⟩ := hfew2 rfl
  have HASK := Go.Lib.hid hask
  clear hfew2 hask
  by_cases hop : os.length ≤ 300
  rotate_left
  ·have hop2 : decide (300 < os.length) = true := by simp; omega
   go_enter Try.func6, Try.ntmps6
   go_wp2_with (first | (go_at_call 20; refine (countwheellaw18_few.calls K_ A0 c0 ss AI ci ids true _ HC.out hc0 HI.out hci HF.out).mono ?_; rintro e w1 ⟨rfl, hb⟩; replace HS := Go.Lib.hid (HS.out.then_ hb); clear hb) | (go_at_call 21; refine (awake_st HS.out).mono ?_; rintro e wz ⟨rfl, hS⟩; replace HS := Go.Lib.hid hS; clear hS))
   go_ret
   exact ⟨rfl, HS.out.below⟩
  have hop2 : decide (300 < os.length) = false := by simp; omega
  go_enter Try.func6, Try.ntmps6
  go_upto_region 8 with (first | (go_at_call 20; refine (countwheellaw18_few.calls K_ A0 c0 ss AI ci ids true _ HC.out hc0 HI.out hci HF.out).mono ?_; rintro e w1 ⟨rfl, hb⟩; replace HS := Go.Lib.hid (HS.out.then_ hb); clear hb) | (go_at_call 23; refine (tables_st HS.out A0 c0 ss AI ci ids (scheds_arg HC.out) (fun lx w1 h1 => h1.C HI.out) hci HSM.out HASK.out hl8).mono ?_; rintro e w2 ⟨ts, gs, A, c, rfl, hgs, hsrc, hok, hS⟩; replace HS := Go.Lib.hid hS; have HG := Go.Lib.hid hgs; have HSRC := Go.Lib.hid hsrc; have hT : Tabs (SL.row KP 31 (.slice A gs.length c) gs :: (tabL ts ++ [])) ts := (tabs_of hok _).cons _; have HT := Go.Lib.hid hT; have hgl : gs.length = ss.length := (by rw [hgs, List.length_map, ← List.length_map (f := Tb.src), hsrc, List.length_map]); have htl : ts.length ≤ 100000 := (by rw [← List.length_map (f := Tb.src), hsrc, List.length_map]; omega); have HGL := Go.Lib.hid hgl; have hne : ((gs.length : Int) != (ss.length : Int)) = false := (by rw [hgl]; simp); have hne2 : (gs.length != ss.length) = false := (by rw [hgl]; simp); clear hS hgs hsrc hok hT hgl) | (go_at_call 22; refine (eng_new A c ts gs 0 rfl HS.out HG.out HT.out htl first epoch HFI.out).mono ?_; rintro e w3 hP; obtain ⟨pv, kv, rfl⟩ := hP.pair; have HP := Go.Lib.hid hP; clear hP HS) | (go_at_call 32; refine (post_keep (fun lx h9 => get_any h9 (scheds_arg HC.out) (by omega) HSRC.out first) HP.out).mono ?_; rintro e w4 ⟨⟨a0_, a1_, A2_, n2_, c2_, A3_, n3_, c3_, rfl⟩, hP⟩; replace HP := Go.Lib.hid hP; clear hP; have HS := Go.Lib.hid (St.start w4)) | ((with_reducible refine gate_dst (N := 14) rfl ?_); refine Sl.box_st HS.out (by rfl) (cs := #[.int .i64 0, .int .i64 0, .slice none 0 0, .slice none 0 0]) (t := 25) ?hr ?_; (case hr => first | (go_simp; done) | (go_simp; rfl)); intro g14 w11_ HSn HBn; clear HBn; replace HS : Hid (St (SL.blk g14 25 #[.int .i64 0, .int .i64 0, .slice none 0 0, .slice none 0 0] :: []) w4 w11_) := Go.Lib.hid HSn; clear HSn; obtain ⟨c0_0, c0_1, c0_2, c0_3⟩ := HS.out.c4 0 _ _ _ _ _ _ rfl) | ((with_reducible refine gate_store (p := 14) rfl ?_); refine Sl.storeAll_st HS.out 0 g14 25 _ rfl [.int .i64 a0_, .int .i64 a1_, .slice A2_ n2_ c2_, .slice A3_ n3_ c3_] rfl (by rfl) (by rfl) ?hr ?_; (case hr => have f_ := HS.out.f4 0 _ _ _ _ _ _ rfl; (try obtain ⟨f0, f1, f2, f3⟩ := f_); first | (go_simp; done) | (go_simp; rfl)); intro w12_ HSn; replace HS : Hid (St (SL.blk g14 25 #[.int .i64 a0_, .int .i64 a1_, .slice A2_ n2_ c2_, .slice A3_ n3_ c3_] :: []) w4 w12_) := Go.Lib.hid HSn; clear HSn; clear c0_0 c0_1 c0_2 c0_3; obtain ⟨c0_0, c0_1, c0_2, c0_3⟩ := HS.out.c4 0 _ _ _ _ _ _ rfl))
  replace HP := Go.Lib.hid (HP.out.then_ HS.out.below)
  clear HS c0_0 c0_1 c0_2 c0_3
  go_wp2_with fail
  go_loopw [16, 67] (fun a i wr => ∃ (k : Nat) (b : Bool), k ≤ ss.length ∧ a = .bool b ∧ i = .int .i64 k ∧ Dup ss k b ∧ EngPost (SL.row KP 31 (.slice A gs.length c) gs :: (tabL ts ++ [])) w ts first epoch (.returned (.tuple #[pv, .int .i64 kv])) wr) (fun _ i _ => ss.length - (intOf i).toNat)
  case atStart => exact ⟨0, false, Nat.zero_le _, rfl, rfl, Dup.start ss, HP.out⟩
  case round =>
   clear HP
   obtain ⟨k, b, hk, rfl, rfl, hd, hP⟩ := hrel
   have HP := Go.Lib.hid hP
   have HD := Go.Lib.hid hd
   clear hP hd
   by_cases hlt : k < ss.length
   ·go_wp2_with fail
    obtain ⟨wo, hwo⟩ : ∃ wo : World, wo = wr := ⟨_, rfl⟩
    clear hwo
    go_loopw [16, 71] (fun a i wr => ∃ (m : Nat) (b : Bool), m ≤ k ∧ a = .bool b ∧ i = .int .i64 m ∧ DupIn ss k m b ∧ EngPost (SL.row KP 31 (.slice A gs.length c) gs :: (tabL ts ++ [])) w ts first epoch (.returned (.tuple #[pv, .int .i64 kv])) wr) (fun _ i _ => k - (intOf i).toNat)
    case atStart => exact ⟨0, b, Nat.zero_le _, rfl, rfl, DupIn.start HD.out, HP.out⟩
    case round =>
     clear HP HD
     obtain ⟨m, b2, hm, rfl, rfl, hd2, hP⟩ := hrel
     have HP := Go.Lib.hid hP
     have HD := Go.Lib.hid hd2
     clear hP hd2
     by_cases hmk : m < k
     ·obtain ⟨ad, rfl, g0⟩ := cell_id HC.out k hlt
      obtain ⟨ad2, hae, g1⟩ := cell_id HC.out m (by omega)
      obtain rfl := Option.some.inj hae
      clear hae
      have HNX := Go.Lib.hid HD.out.next
      have hml : m < ss.length := by omega
      generalize (ss.getD k z25).f0 = u at g0 HNX
      generalize (ss.getD m z25).f0 = v at g1 HNX
      replace HP := Go.Lib.hid (HP.out.then_ (below_drew (Below.refl _ _)))
      cases b2 with
      | true =>
       rw [Bool.true_or] at HNX
       go_upto_region 15 with (fail)
       refine start_ (n := 15) (S := fun w' => w'.cell? (ad.add (k * 4)) = some (.int .i64 u) ∧ w'.cell? (ad.add (m * 4)) = some (.int .i64 v)) (ds := []) #[false, false, false, false, false, false, false, false, false, false, false, false, false, false, false] (by kernel_rfl) rfl rfl ⟨HP.out.st.old g0, HP.out.st.old g1⟩ (fun hHeld => ?_)
       generalize wr.drew = W_ at *
       refine pure_ (i := 0) (N := some 74) (v := ?_) (a' := ?_) #[true, false, false, false, false, false, false, false, false, false, false, false, false, false, false] rfl rfl (by kernel_rfl) (fun _ _ _ h => h) (Or.inl ⟨by rfl, ?_⟩) ?_ ?_
       rotate_left
       ·intro w'
        go_simp
        with_reducible rfl
       rotate_left
       ·simp only [Act.put, List.setIfInBounds_toArray, List.set_cons_zero, List.set_cons_succ, i64_w, i32_w]
        rfl
       refine pure_ (i := 1) (N := some 75) (v := ?_) (a' := ?_) #[true, true, false, false, false, false, false, false, false, false, false, false, false, false, false] rfl rfl (by kernel_rfl) (fun _ _ _ h => h) (Or.inl ⟨by rfl, ?_⟩) ?_ ?_
       rotate_left
       ·intro w'
        go_simp
        with_reducible rfl
       rotate_left
       ·simp only [Act.put, List.setIfInBounds_toArray, List.set_cons_zero, List.set_cons_succ, i64_w, i32_w]
        rfl
       refine pure_ (i := 2) (N := some 76) (v := undef) (a' := ?_) #[true, true, true, false, false, false, false, false, false, false, false, false, false, false, false] rfl rfl (by kernel_rfl) (fun _ _ _ h => h) (Or.inr ⟨by rfl, rfl⟩) ?_ ?_
       rotate_left
       ·show _ = _
        simp only [Act.put, List.setIfInBounds_toArray, List.set_cons_zero, List.set_cons_succ, i64_w, i32_w]
        rfl
       refine pure_ (i := 3) (N := some 77) (v := undef) (a' := ?_) #[true, true, true, true, false, false, false, false, false, false, false, false, false, false, false] rfl rfl (by kernel_rfl) (fun _ _ _ h => h) (Or.inr ⟨by rfl, rfl⟩) ?_ ?_
       rotate_left
       ·show _ = _
        simp only [Act.put, List.setIfInBounds_toArray, List.set_cons_zero, List.set_cons_succ, i64_w, i32_w]
        rfl
       refine pure_ (i := 4) (N := some 78) (v := undef) (a' := ?_) #[true, true, true, true, true, false, false, false, false, false, false, false, false, false, false] rfl rfl (by kernel_rfl) (fun _ _ _ h => h) (Or.inr ⟨by rfl, rfl⟩) ?_ ?_
       rotate_left
       ·show _ = _
        simp only [Act.put, List.setIfInBounds_toArray, List.set_cons_zero, List.set_cons_succ, i64_w, i32_w]
        rfl
       refine pure_ (i := 5) (N := some 79) (v := undef) (a' := ?_) #[true, true, true, true, true, true, false, false, false, false, false, false, false, false, false] rfl rfl (by kernel_rfl) (fun _ _ _ h => h) (Or.inr ⟨by rfl, rfl⟩) ?_ ?_
       rotate_left
       ·show _ = _
        simp only [Act.put, List.setIfInBounds_toArray, List.set_cons_zero, List.set_cons_succ, i64_w, i32_w]
        rfl
       refine pure_ (i := 6) (N := some 80) (v := undef) (a' := ?_) #[true, true, true, true, true, true, true, false, false, false, false, false, false, false, false] rfl rfl (by kernel_rfl) (fun _ _ _ h => h) (Or.inr ⟨by rfl, rfl⟩) ?_ ?_
       rotate_left
       ·show _ = _
        simp only [Act.put, List.setIfInBounds_toArray, List.set_cons_zero, List.set_cons_succ, i64_w, i32_w]
        rfl
       refine pure_ (i := 7) (N := some 81) (v := undef) (a' := ?_) #[true, true, true, true, true, true, true, true, false, false, false, false, false, false, false] rfl rfl (by kernel_rfl) (fun _ _ _ h => h) (Or.inr ⟨by rfl, rfl⟩) ?_ ?_
       rotate_left
       ·show _ = _
        simp only [Act.put, List.setIfInBounds_toArray, List.set_cons_zero, List.set_cons_succ, i64_w, i32_w]
        rfl
       refine pure_ (i := 8) (N := some 82) (v := undef) (a' := ?_) #[true, true, true, true, true, true, true, true, true, false, false, false, false, false, false] rfl rfl (by kernel_rfl) (fun _ _ _ h => h) (Or.inr ⟨by rfl, rfl⟩) ?_ ?_
       rotate_left
       ·show _ = _
        simp only [Act.put, List.setIfInBounds_toArray, List.set_cons_zero, List.set_cons_succ, i64_w, i32_w]
        rfl
       refine pure_ (i := 9) (N := some 83) (v := undef) (a' := ?_) #[true, true, true, true, true, true, true, true, true, true, false, false, false, false, false] rfl rfl (by kernel_rfl) (fun _ _ _ h => h) (Or.inr ⟨by rfl, rfl⟩) ?_ ?_
       rotate_left
       ·show _ = _
        simp only [Act.put, List.setIfInBounds_toArray, List.set_cons_zero, List.set_cons_succ, i64_w, i32_w]
        rfl
       refine pure_ (i := 10) (N := some 84) (v := undef) (a' := ?_) #[true, true, true, true, true, true, true, true, true, true, true, false, false, false, false] rfl rfl (by kernel_rfl) (fun _ _ _ h => h) (Or.inr ⟨by rfl, rfl⟩) ?_ ?_
       rotate_left
       ·show _ = _
        simp only [Act.put, List.setIfInBounds_toArray, List.set_cons_zero, List.set_cons_succ, i64_w, i32_w]
        rfl
       refine pure_ (i := 11) (N := some 85) (v := undef) (a' := ?_) #[true, true, true, true, true, true, true, true, true, true, true, true, false, false, false] rfl rfl (by kernel_rfl) (fun _ _ _ h => h) (Or.inr ⟨by rfl, rfl⟩) ?_ ?_
       rotate_left
       ·show _ = _
        simp only [Act.put, List.setIfInBounds_toArray, List.set_cons_zero, List.set_cons_succ, i64_w, i32_w]
        rfl
       refine pure_ (i := 12) (N := some 86) (v := undef) (a' := ?_) #[true, true, true, true, true, true, true, true, true, true, true, true, true, false, false] rfl rfl (by kernel_rfl) (fun _ _ _ h => h) (Or.inr ⟨by rfl, rfl⟩) ?_ ?_
       rotate_left
       ·show _ = _
        simp only [Act.put, List.setIfInBounds_toArray, List.set_cons_zero, List.set_cons_succ, i64_w, i32_w]
        rfl
       refine pure_ (i := 13) (N := some 87) (v := ?_) (a' := ?_) #[true, true, true, true, true, true, true, true, true, true, true, true, true, true, false] rfl rfl (by kernel_rfl) (fun _ _ _ h => h) (Or.inl ⟨by rfl, ?_⟩) ?_ ?_
       rotate_left
       ·intro w'
        go_simp
        with_reducible rfl
       rotate_left
       ·simp only [Act.put, List.setIfInBounds_toArray, List.set_cons_zero, List.set_cons_succ, i64_w, i32_w]
        rfl
       refine pure_ (i := 14) (N := some 16) (v := ?_) (a' := ?_) #[true, true, true, true, true, true, true, true, true, true, true, true, true, true, true] rfl rfl (by kernel_rfl) (fun _ _ _ h => h) (Or.inl ⟨by rfl, ?_⟩) ?_ ?_
       rotate_left
       ·intro w'
        go_simp
        with_reducible rfl
       rotate_left
       ·simp only [Act.put, List.setIfInBounds_toArray, List.set_cons_zero, List.set_cons_succ, i64_w, i32_w]
        rfl
       refine done_ (by kernel_rfl) ?_
       go_wp2_with fail
       go_roundw
       case rel => exact ⟨m + 1, true, hmk, rfl, rfl, HNX.out, HP.out⟩
       case measure => simp [intOf]; omega
      | false =>
       rw [Bool.false_or] at HNX
       go_upto_region 15 with (fail)
       refine start_ (n := 15) (S := fun w' => w'.cell? (ad.add (k * 4)) = some (.int .i64 u) ∧ w'.cell? (ad.add (m * 4)) = some (.int .i64 v)) (ds := []) #[false, false, false, false, false, false, false, false, false, false, false, false, false, false, false] (by kernel_rfl) rfl rfl ⟨HP.out.st.old g0, HP.out.st.old g1⟩ (fun hHeld => ?_)
       generalize wr.drew = W_ at *
       refine pure_ (i := 0) (N := some 74) (v := ?_) (a' := ?_) #[true, false, false, false, false, false, false, false, false, false, false, false, false, false, false] rfl rfl (by kernel_rfl) (fun _ _ _ h => h) (Or.inl ⟨by rfl, ?_⟩) ?_ ?_
       rotate_left
       ·intro w'
        go_simp
        with_reducible rfl
       rotate_left
       ·simp only [Act.put, List.setIfInBounds_toArray, List.set_cons_zero, List.set_cons_succ, i64_w, i32_w]
        rfl
       refine pure_ (i := 1) (N := some 75) (v := ?_) (a' := ?_) #[true, true, false, false, false, false, false, false, false, false, false, false, false, false, false] rfl rfl (by kernel_rfl) (fun _ _ _ h => h) (Or.inl ⟨by rfl, ?_⟩) ?_ ?_
       rotate_left
       ·intro w'
        go_simp
        with_reducible rfl
       rotate_left
       ·simp only [Act.put, List.setIfInBounds_toArray, List.set_cons_zero, List.set_cons_succ, i64_w, i32_w]
        rfl
       refine pure_ (i := 2) (N := some 76) (v := ?_) (a' := ?_) #[true, true, true, false, false, false, false, false, false, false, false, false, false, false, false] rfl rfl (by kernel_rfl) (fun _ _ _ h => h) (Or.inl ⟨by rfl, ?_⟩) ?_ ?_
       rotate_left
       ·intro w'
        go_simp
        with_reducible rfl
       rotate_left
       ·simp only [Act.put, List.setIfInBounds_toArray, List.set_cons_zero, List.set_cons_succ, i64_w, i32_w]
        rfl
       refine pure_ (i := 3) (N := some 77) (v := ?_) (a' := ?_) #[true, true, true, true, false, false, false, false, false, false, false, false, false, false, false] rfl rfl (by kernel_rfl) (fun _ _ _ h => h) (Or.inl ⟨by rfl, ?_⟩) ?_ ?_
       rotate_left
       ·intro w'
        go_simp
        with_reducible rfl
       rotate_left
       ·simp only [Act.put, List.setIfInBounds_toArray, List.set_cons_zero, List.set_cons_succ, i64_w, i32_w]
        rfl
       refine pure_ (i := 4) (N := some 78) (v := ?_) (a' := ?_) #[true, true, true, true, true, false, false, false, false, false, false, false, false, false, false] rfl rfl (by kernel_rfl) (fun _ _ _ h => h) (Or.inl ⟨by rfl, ?_⟩) ?_ ?_
       rotate_left
       ·intro w'
        go_simp
        with_reducible rfl
       rotate_left
       ·simp only [Act.put, List.setIfInBounds_toArray, List.set_cons_zero, List.set_cons_succ, i64_w, i32_w]
        rfl
       refine pure_ (i := 5) (N := some 79) (v := ?_) (a' := ?_) #[true, true, true, true, true, true, false, false, false, false, false, false, false, false, false] rfl rfl (by kernel_rfl) (fun _ _ _ h => h) (Or.inl ⟨by rfl, ?_⟩) ?_ ?_
       rotate_left
       ·intro w'
        go_simp
        with_reducible rfl
       rotate_left
       ·simp only [Act.put, List.setIfInBounds_toArray, List.set_cons_zero, List.set_cons_succ, i64_w, i32_w]
        rfl
       refine pure_ (i := 7) (N := some 81) (v := ?_) (a' := ?_) #[true, true, true, true, true, true, false, true, false, false, false, false, false, false, false] rfl rfl (by kernel_rfl) (fun _ _ _ h => h) (Or.inl ⟨by rfl, ?_⟩) ?_ ?_
       rotate_left
       ·intro w'
        go_simp
        with_reducible rfl
       rotate_left
       ·simp only [Act.put, List.setIfInBounds_toArray, List.set_cons_zero, List.set_cons_succ, i64_w, i32_w]
        rfl
       refine pure_ (i := 8) (N := some 82) (v := ?_) (a' := ?_) #[true, true, true, true, true, true, false, true, true, false, false, false, false, false, false] rfl rfl (by kernel_rfl) (fun _ _ _ h => h) (Or.inl ⟨by rfl, ?_⟩) ?_ ?_
       rotate_left
       ·intro w'
        go_simp
        with_reducible rfl
       rotate_left
       ·simp only [Act.put, List.setIfInBounds_toArray, List.set_cons_zero, List.set_cons_succ, i64_w, i32_w]
        rfl
       refine pure_ (i := 9) (N := some 83) (v := ?_) (a' := ?_) #[true, true, true, true, true, true, false, true, true, true, false, false, false, false, false] rfl rfl (by kernel_rfl) (fun _ _ _ h => h) (Or.inl ⟨by rfl, ?_⟩) ?_ ?_
       rotate_left
       ·intro w'
        go_simp
        with_reducible rfl
       rotate_left
       ·simp only [Act.put, List.setIfInBounds_toArray, List.set_cons_zero, List.set_cons_succ, i64_w, i32_w]
        rfl
       refine pure_ (i := 10) (N := some 84) (v := ?_) (a' := ?_) #[true, true, true, true, true, true, false, true, true, true, true, false, false, false, false] rfl rfl (by kernel_rfl) (fun _ _ _ h => h) (Or.inl ⟨by rfl, ?_⟩) ?_ ?_
       rotate_left
       ·intro w'
        go_simp
        with_reducible rfl
       rotate_left
       ·simp only [Act.put, List.setIfInBounds_toArray, List.set_cons_zero, List.set_cons_succ, i64_w, i32_w]
        rfl
       refine take_ (i := 6) (N := some 80) (v := ?_) (a' := ?_) #[true, true, true, true, true, true, true, true, true, true, true, false, false, false, false] rfl rfl (by kernel_rfl) (fun _ _ _ h => h) (Or.inl ⟨by rfl, ?_⟩) hHeld ?_ ?_
       rotate_left
       ·rintro w' ⟨s0, s1⟩
        go_simp
        with_reducible rfl
       rotate_left
       ·simp only [Act.put, List.setIfInBounds_toArray, List.set_cons_zero, List.set_cons_succ, i64_w, i32_w]
        rfl
       refine take_ (i := 11) (N := some 85) (v := ?_) (a' := ?_) #[true, true, true, true, true, true, true, true, true, true, true, true, false, false, false] rfl rfl (by kernel_rfl) (fun _ _ _ h => h) (Or.inl ⟨by rfl, ?_⟩) hHeld ?_ ?_
       rotate_left
       ·rintro w' ⟨s0, s1⟩
        go_simp
        with_reducible rfl
       rotate_left
       ·simp only [Act.put, List.setIfInBounds_toArray, List.set_cons_zero, List.set_cons_succ, i64_w, i32_w]
        rfl
       refine pure_ (i := 12) (N := some 86) (v := ?_) (a' := ?_) #[true, true, true, true, true, true, true, true, true, true, true, true, true, false, false] rfl rfl (by kernel_rfl) (fun _ _ _ h => h) (Or.inl ⟨by rfl, ?_⟩) ?_ ?_
       rotate_left
       ·intro w'
        go_simp
        with_reducible rfl
       rotate_left
       ·simp only [Act.put, List.setIfInBounds_toArray, List.set_cons_zero, List.set_cons_succ, i64_w, i32_w]
        rfl
       refine pure_ (i := 13) (N := some 87) (v := ?_) (a' := ?_) #[true, true, true, true, true, true, true, true, true, true, true, true, true, true, false] rfl rfl (by kernel_rfl) (fun _ _ _ h => h) (Or.inl ⟨by rfl, ?_⟩) ?_ ?_
       rotate_left
       ·intro w'
        go_simp
        with_reducible rfl
       rotate_left
       ·simp only [Act.put, List.setIfInBounds_toArray, List.set_cons_zero, List.set_cons_succ, i64_w, i32_w]
        rfl
       refine pure_ (i := 14) (N := some 16) (v := ?_) (a' := ?_) #[true, true, true, true, true, true, true, true, true, true, true, true, true, true, true] rfl rfl (by kernel_rfl) (fun _ _ _ h => h) (Or.inl ⟨by rfl, ?_⟩) ?_ ?_
       rotate_left
       ·intro w'
        go_simp
        with_reducible rfl
       rotate_left
       ·simp only [Act.put, List.setIfInBounds_toArray, List.set_cons_zero, List.set_cons_succ, i64_w, i32_w]
        rfl
       refine done_ (by kernel_rfl) ?_
       go_wp2_with fail
       go_roundw
       case rel => exact ⟨m + 1, (u == v), hmk, rfl, rfl, HNX.out, HP.out⟩
       case measure => simp [intOf]; omega
     ·obtain rfl : m = k := by omega
      go_wp2_with fail
      go_roundw
      case rel => exact ⟨m + 1, b2, hlt, rfl, rfl, HD.out.done, HP.out⟩
      case measure => simp [intOf]; omega
   ·obtain rfl : k = ss.length := by omega
    clear hk hlt
    have hP := HP.out
    have hd := HD.out
    obtain ⟨ge, gk, bm, y, hnd, hy, hpk, hE⟩ | ⟨hnd, hpk, hS⟩ | ⟨hnd, hy, hpk, hS⟩ := hP
    rotate_left
    ·obtain ⟨rfl, rfl⟩ := tup_inj hpk
     have hb : b = true := hd.2 (fun h => hnd (dist_nodup h HSRC.out))
     subst hb
     have HS := Go.Lib.hid hS
     clear hS hpk hd HP HD hnd
     go_wp2_with (go_at_call 21; refine (awake_st HS.out).mono ?_; rintro e wz ⟨rfl, hS⟩; replace HS := Go.Lib.hid hS; clear hS)
     go_ret
     exact ⟨rfl, HS.out.below⟩
    ·obtain ⟨rfl, rfl⟩ := tup_inj hpk
     have hb : b = false := by cases b with | false => rfl | true => exact absurd (nodup_dist HSRC.out hnd) (hd.1 rfl)
     subst hb
     have HS := Go.Lib.hid hS
     have hy2 : (findT ts first).isSome = false := by rw [hy]; rfl
     clear hS hpk hd HP HD hnd hy
     go_wp2_with (go_at_call 21; refine (awake_st HS.out).mono ?_; rintro e wz ⟨rfl, hS⟩; replace HS := Go.Lib.hid hS; clear hS)
     go_ret
     exact ⟨rfl, HS.out.below⟩
    obtain ⟨rfl, rfl⟩ := tup_inj hpk
    have hb : b = false := by cases b with | false => rfl | true => exact absurd (nodup_dist HSRC.out hnd) (hd.1 rfl)
    subst hb
    have hy2 : (findT ts first).isSome = true := by rw [hy]; rfl
    have HM := Go.Lib.hid (maps_of ts hnd)
    have HU := Go.Lib.hid (uniq_of ts hnd)
    have hy1 := findT_mem hy
    have hlo := (HT.out.ok _ hy1.1).lo
    have hG : Good ts ⟨y, first, 0, epoch, 0⟩ := ⟨hy1.1, Int.le_refl 0, by show 0 < y.fr; omega, ⟨y, hy⟩, hep0, hep1, Int.le_refl 0, hep0⟩
    have HID := Go.Lib.hid hy1.2
    have HG0 := Go.Lib.hid hG
    have HE := Go.Lib.hid hE
    clear hE hpk hd HP HD hnd hy hy1 hG
    obtain ⟨gc, j, hi, hS⟩ := HE.out
    have HIN := Go.Lib.hid hi
    have HS := Go.Lib.hid hS
    clear hi hS HE
    go_wp2_with (first | ((with_reducible refine gate_dst (N := 19) rfl ?_); refine Sl.box_st HS.out (by rfl) (cs := #[.slice none 0 0, .int .i64 0, .int .i64 0, .int .i64 0, .int .u64 0, .int .u64 0]) (t := 69) ?hr ?_; (case hr => first | (go_simp; done) | (go_simp; rfl)); intro g19 w31_ HSn HBn; clear HBn; replace HS : Hid (St (SL.blk g19 69 #[.slice none 0 0, .int .i64 0, .int .i64 0, .int .i64 0, .int .u64 0, .int .u64 0] :: SL.blk ge 108 #[.map (some bm), .pointer (some ⟨gc, 0, none⟩), .int .i64 (EM.mk y first 0 epoch 0).due, .pointer (some ⟨gk, 0, none⟩), .int .u64 (EM.mk y first 0 epoch 0).frames] :: SL.map KI bm (mapOf ts) :: SL.blk gk 132 #[.int .u64 (EM.mk y first 0 epoch 0).now] :: SL.blk gc 100 #[.pointer (some ⟨(EM.mk y first 0 epoch 0).cur.g, 0, none⟩), .int .i64 (EM.mk y first 0 epoch 0).t, .int .i64 ((j : Nat) : Int)] :: SL.row KP 31 (.slice A gs.length c) gs :: (tabL ts ++ [])) w w31_) := Go.Lib.hid HSn; clear HSn; obtain ⟨c0_0, c0_1, c0_2, c0_3, c0_4, c0_5⟩ := HS.out.c6 0 _ _ _ _ _ _ _ _ rfl) | ((with_reducible refine gate_store (p := 19) rfl ?_); refine Sl.storeAll_st HS.out 0 g19 69 _ rfl [.slice A0 ss.length c0, .int .i64 first, .int .i64 first, .int .i64 0, .int .u64 epoch, .int .u64 0] rfl (by rfl) (by rfl) ?hr ?_; (case hr => have f_ := HS.out.f6 0 _ _ _ _ _ _ _ _ rfl; (try obtain ⟨f0, f1, f2, f3, f4, f5⟩ := f_); first | (go_simp; done) | (go_simp; rfl)); intro w32_ HSn; replace HS : Hid (St (SL.blk g19 69 #[.slice A0 ss.length c0, .int .i64 first, .int .i64 first, .int .i64 0, .int .u64 epoch, .int .u64 0] :: SL.blk ge 108 #[.map (some bm), .pointer (some ⟨gc, 0, none⟩), .int .i64 (EM.mk y first 0 epoch 0).due, .pointer (some ⟨gk, 0, none⟩), .int .u64 (EM.mk y first 0 epoch 0).frames] :: SL.map KI bm (mapOf ts) :: SL.blk gk 132 #[.int .u64 (EM.mk y first 0 epoch 0).now] :: SL.blk gc 100 #[.pointer (some ⟨(EM.mk y first 0 epoch 0).cur.g, 0, none⟩), .int .i64 (EM.mk y first 0 epoch 0).t, .int .i64 ((j : Nat) : Int)] :: SL.row KP 31 (.slice A gs.length c) gs :: (tabL ts ++ [])) w w32_) := Go.Lib.hid HSn; clear HSn; clear c0_0 c0_1 c0_2 c0_3 c0_4 c0_5; obtain ⟨c0_0, c0_1, c0_2, c0_3, c0_4, c0_5⟩ := HS.out.c6 0 _ _ _ _ _ _ _ _ rfl))
    clear c0_0 c0_1 c0_2 c0_3 c0_4 c0_5
    have hE : EngSt (SL.blk g19 69 #[.slice A0 ss.length c0, .int .i64 first, .int .i64 first, .int .i64 0, .int .u64 epoch, .int .u64 0] :: SL.row KP 31 (.slice A gs.length c) gs :: (tabL ts ++ [])) ge gk bm (mapOf ts) ⟨y, first, 0, epoch, 0⟩ w w32_ := ⟨gc, j, HIN.out, (((HS.out.front 4 _ rfl).front 4 _ rfl).front 4 _ rfl).front 4 _ rfl⟩
    have hE2 : EngSt (SL.blk g19 69 #[.slice A0 ss.length c0, .int .i64 y.id, .int .i64 first, .int .i64 0, .int .u64 epoch, .int .u64 0] :: SL.row KP 31 (.slice A gs.length c) gs :: (tabL ts ++ [])) ge gk bm (mapOf ts) ⟨y, first, 0, epoch, 0⟩ w w32_ := by rw [HID.out]; exact hE
    have HE := Go.Lib.hid hE2
    clear hE hE2 HS HIN
    go_loopw [124] (fun i wr => ∃ (k : Nat) (x : EM), k ≤ os.length ∧ i = .int .i64 k ∧ Good ts x ∧ EngSt (SL.blk g19 69 #[.slice A0 ss.length c0, .int .i64 x.cur.id, .int .i64 x.due, .int .i64 x.t, .int .u64 x.now, .int .u64 x.frames] :: SL.row KP 31 (.slice A gs.length c) gs :: (tabL ts ++ [])) ge gk bm (mapOf ts) x w wr) (fun i _ => os.length - (intOf i).toNat)
    case atStart => exact ⟨0, _, Nat.zero_le _, rfl, HG0.out, HE.out⟩
    case round =>
     clear HE HG0
     obtain ⟨k, x, hk, rfl, hG, hE⟩ := hrel
     have HG0 := Go.Lib.hid hG
     have HE := Go.Lib.hid hE
     clear hG hE
     by_cases hlt : k < os.length
     ·obtain ⟨ad4, rfl, o0, o1⟩ := at_T61 HO.out (k : Int) (by omega) (by omega)
      have HWX : Hid ((Lit.int .i64 (rd_T61 os (k : Int)).f1).wf = true) := Go.Lib.hid (HWO.out _ (by unfold rd_T61; rw [Int.toNat_natCast, List.getD_eq_getElem?_getD, List.getElem?_eq_getElem hlt]; exact List.getElem_mem hlt))
      rw [Int.toNat_natCast] at o0 o1
      generalize rd_T61 os (k : Int) = z at *
      obtain ⟨zm, zi⟩ := z
      obtain ⟨gc, j, hi, hS⟩ := HE.out
      have HIN := Go.Lib.hid hi
      have HS := Go.Lib.hid hS
      replace o0 := HS.out.old o0
      replace o1 := HS.out.old o1
      clear hi hS HE
      cases zm with
      | true =>
       obtain ⟨nx, hnx⟩ : ∃ nx, nx = (x.make ts zi) := ⟨_, rfl⟩
       have HNX := Go.Lib.hid hnx
       have HGN : Hid (Good ts nx) := Go.Lib.hid (by rw [hnx]; exact HG0.out.make zi)
       clear hnx
       obtain ⟨c4_0, c4_1, c4_2, c4_3, c4_4, c4_5⟩ := HS.out.c6 4 _ _ _ _ _ _ _ _ rfl
       go_wp2_with (first | ((with_reducible refine gate_dst (N := 21) rfl ?_); refine Sl.box_st HS.out (by rfl) (cs := #[.bool false, .int .i64 0]) (t := 61) ?hr ?_; (case hr => first | (go_simp; done) | (go_simp; rfl)); intro g21 w51_ HSn HBn; clear HBn; replace HS : Hid (St (SL.blk g21 61 #[.bool false, .int .i64 0] :: SL.blk ge 108 #[.map (some bm), .pointer (some ⟨gc, 0, none⟩), .int .i64 x.due, .pointer (some ⟨gk, 0, none⟩), .int .u64 x.frames] :: SL.map KI bm (mapOf ts) :: SL.blk gk 132 #[.int .u64 x.now] :: SL.blk gc 100 #[.pointer (some ⟨x.cur.g, 0, none⟩), .int .i64 x.t, .int .i64 ((j : Nat) : Int)] :: SL.blk g19 69 #[.slice A0 ss.length c0, .int .i64 x.cur.id, .int .i64 x.due, .int .i64 x.t, .int .u64 x.now, .int .u64 x.frames] :: SL.row KP 31 (.slice A gs.length c) gs :: (tabL ts ++ [])) w w51_) := Go.Lib.hid HSn; clear HSn; clear c4_0 c4_1 c4_2 c4_3 c4_4 c4_5; obtain ⟨c0_0, c0_1⟩ := HS.out.c2 0 _ _ _ _ rfl; obtain ⟨c5_0, c5_1, c5_2, c5_3, c5_4, c5_5⟩ := HS.out.c6 5 _ _ _ _ _ _ _ _ rfl) | ((with_reducible refine gate_store (p := 21) rfl ?_); refine Sl.storeAll_st HS.out 0 g21 61 _ rfl [.bool true, .int .i64 zi] rfl (by rfl) (by rfl) ?hr ?_; (case hr => have f_ := HS.out.f2 0 _ _ _ _ rfl; (try obtain ⟨f0, f1⟩ := f_); first | (go_simp; done) | (go_simp; rfl)); intro w52_ HSn; replace HS : Hid (St (SL.blk g21 61 #[.bool true, .int .i64 zi] :: SL.blk ge 108 #[.map (some bm), .pointer (some ⟨gc, 0, none⟩), .int .i64 x.due, .pointer (some ⟨gk, 0, none⟩), .int .u64 x.frames] :: SL.map KI bm (mapOf ts) :: SL.blk gk 132 #[.int .u64 x.now] :: SL.blk gc 100 #[.pointer (some ⟨x.cur.g, 0, none⟩), .int .i64 x.t, .int .i64 ((j : Nat) : Int)] :: SL.blk g19 69 #[.slice A0 ss.length c0, .int .i64 x.cur.id, .int .i64 x.due, .int .i64 x.t, .int .u64 x.now, .int .u64 x.frames] :: SL.row KP 31 (.slice A gs.length c) gs :: (tabL ts ++ [])) w w52_) := Go.Lib.hid HSn; clear HSn; clear c0_0 c0_1 c5_0 c5_1 c5_2 c5_3 c5_4 c5_5; obtain ⟨c0_0, c0_1⟩ := HS.out.c2 0 _ _ _ _ rfl; obtain ⟨c5_0, c5_1, c5_2, c5_3, c5_4, c5_5⟩ := HS.out.c6 5 _ _ _ _ _ _ _ _ rfl) | (go_at_call 35; refine (r_make HS.out (scheds_arg HC.out) (by omega) HSRC.out zi).mono ?_; rintro e w60_ ⟨rfl, hS⟩; rw [← HNX.out]; replace HS : Hid (St (SL.blk g21 61 #[.bool true, .int .i64 zi] :: SL.blk ge 108 #[.map (some bm), .pointer (some ⟨gc, 0, none⟩), .int .i64 x.due, .pointer (some ⟨gk, 0, none⟩), .int .u64 x.frames] :: SL.map KI bm (mapOf ts) :: SL.blk gk 132 #[.int .u64 x.now] :: SL.blk gc 100 #[.pointer (some ⟨x.cur.g, 0, none⟩), .int .i64 x.t, .int .i64 ((j : Nat) : Int)] :: SL.blk g19 69 #[.slice A0 ss.length c0, .int .i64 x.cur.id, .int .i64 x.due, .int .i64 x.t, .int .u64 x.now, .int .u64 x.frames] :: SL.row KP 31 (.slice A gs.length c) gs :: (tabL ts ++ [])) w w60_) := Go.Lib.hid hS; clear hS; clear c0_0 c0_1 c5_0 c5_1 c5_2 c5_3 c5_4 c5_5; obtain ⟨c0_0, c0_1⟩ := HS.out.c2 0 _ _ _ _ rfl; obtain ⟨c5_0, c5_1, c5_2, c5_3, c5_4, c5_5⟩ := HS.out.c6 5 _ _ _ _ _ _ _ _ rfl) | ((with_reducible refine gate_dst (N := 22) rfl ?_); refine Sl.box_st HS.out (by rfl) (cs := #[.slice none 0 0, .int .i64 0, .int .i64 0, .int .i64 0, .int .u64 0, .int .u64 0]) (t := 69) ?hr ?_; (case hr => first | (go_simp; done) | (go_simp; rfl)); intro g22 w71_ HSn HBn; clear HBn; replace HS : Hid (St (SL.blk g22 69 #[.slice none 0 0, .int .i64 0, .int .i64 0, .int .i64 0, .int .u64 0, .int .u64 0] :: SL.blk g21 61 #[.bool true, .int .i64 zi] :: SL.blk ge 108 #[.map (some bm), .pointer (some ⟨gc, 0, none⟩), .int .i64 x.due, .pointer (some ⟨gk, 0, none⟩), .int .u64 x.frames] :: SL.map KI bm (mapOf ts) :: SL.blk gk 132 #[.int .u64 x.now] :: SL.blk gc 100 #[.pointer (some ⟨x.cur.g, 0, none⟩), .int .i64 x.t, .int .i64 ((j : Nat) : Int)] :: SL.blk g19 69 #[.slice A0 ss.length c0, .int .i64 x.cur.id, .int .i64 x.due, .int .i64 x.t, .int .u64 x.now, .int .u64 x.frames] :: SL.row KP 31 (.slice A gs.length c) gs :: (tabL ts ++ [])) w w71_) := Go.Lib.hid HSn; clear HSn; clear c0_0 c0_1 c5_0 c5_1 c5_2 c5_3 c5_4 c5_5; obtain ⟨c0_0, c0_1, c0_2, c0_3, c0_4, c0_5⟩ := HS.out.c6 0 _ _ _ _ _ _ _ _ rfl; obtain ⟨c1_0, c1_1⟩ := HS.out.c2 1 _ _ _ _ rfl; obtain ⟨c6_0, c6_1, c6_2, c6_3, c6_4, c6_5⟩ := HS.out.c6 6 _ _ _ _ _ _ _ _ rfl) | ((with_reducible refine gate_store (p := 22) rfl ?_); refine Sl.storeAll_st HS.out 0 g22 69 _ rfl [.slice A0 ss.length c0, .int .i64 nx.cur.id, .int .i64 nx.due, .int .i64 nx.t, .int .u64 nx.now, .int .u64 nx.frames] rfl (by rfl) (by rfl) ?hr ?_; (case hr => have f_ := HS.out.f6 0 _ _ _ _ _ _ _ _ rfl; (try obtain ⟨f0, f1, f2, f3, f4, f5⟩ := f_); first | (go_simp; done) | (go_simp; rfl)); intro w72_ HSn; replace HS : Hid (St (SL.blk g22 69 #[.slice A0 ss.length c0, .int .i64 nx.cur.id, .int .i64 nx.due, .int .i64 nx.t, .int .u64 nx.now, .int .u64 nx.frames] :: SL.blk g21 61 #[.bool true, .int .i64 zi] :: SL.blk ge 108 #[.map (some bm), .pointer (some ⟨gc, 0, none⟩), .int .i64 x.due, .pointer (some ⟨gk, 0, none⟩), .int .u64 x.frames] :: SL.map KI bm (mapOf ts) :: SL.blk gk 132 #[.int .u64 x.now] :: SL.blk gc 100 #[.pointer (some ⟨x.cur.g, 0, none⟩), .int .i64 x.t, .int .i64 ((j : Nat) : Int)] :: SL.blk g19 69 #[.slice A0 ss.length c0, .int .i64 x.cur.id, .int .i64 x.due, .int .i64 x.t, .int .u64 x.now, .int .u64 x.frames] :: SL.row KP 31 (.slice A gs.length c) gs :: (tabL ts ++ [])) w w72_) := Go.Lib.hid HSn; clear HSn; clear c0_0 c0_1 c0_2 c0_3 c0_4 c0_5 c1_0 c1_1 c6_0 c6_1 c6_2 c6_3 c6_4 c6_5; obtain ⟨c0_0, c0_1, c0_2, c0_3, c0_4, c0_5⟩ := HS.out.c6 0 _ _ _ _ _ _ _ _ rfl; obtain ⟨c1_0, c1_1⟩ := HS.out.c2 1 _ _ _ _ rfl; obtain ⟨c6_0, c6_1, c6_2, c6_3, c6_4, c6_5⟩ := HS.out.c6 6 _ _ _ _ _ _ _ _ rfl) | ((with_reducible refine gate_store (p := 19) rfl ?_); refine Sl.storeAll_st HS.out 6 g19 69 _ rfl [.slice A0 ss.length c0, .int .i64 nx.cur.id, .int .i64 nx.due, .int .i64 nx.t, .int .u64 nx.now, .int .u64 nx.frames] rfl (by rfl) (by rfl) ?hr ?_; (case hr => have f_ := HS.out.f6 6 _ _ _ _ _ _ _ _ rfl; (try obtain ⟨f0, f1, f2, f3, f4, f5⟩ := f_); first | (go_simp; done) | (go_simp; rfl)); intro w73_ HSn; replace HS : Hid (St (SL.blk g22 69 #[.slice A0 ss.length c0, .int .i64 nx.cur.id, .int .i64 nx.due, .int .i64 nx.t, .int .u64 nx.now, .int .u64 nx.frames] :: SL.blk g21 61 #[.bool true, .int .i64 zi] :: SL.blk ge 108 #[.map (some bm), .pointer (some ⟨gc, 0, none⟩), .int .i64 x.due, .pointer (some ⟨gk, 0, none⟩), .int .u64 x.frames] :: SL.map KI bm (mapOf ts) :: SL.blk gk 132 #[.int .u64 x.now] :: SL.blk gc 100 #[.pointer (some ⟨x.cur.g, 0, none⟩), .int .i64 x.t, .int .i64 ((j : Nat) : Int)] :: SL.blk g19 69 #[.slice A0 ss.length c0, .int .i64 nx.cur.id, .int .i64 nx.due, .int .i64 nx.t, .int .u64 nx.now, .int .u64 nx.frames] :: SL.row KP 31 (.slice A gs.length c) gs :: (tabL ts ++ [])) w w73_) := Go.Lib.hid HSn; clear HSn; clear c0_0 c0_1 c0_2 c0_3 c0_4 c0_5 c1_0 c1_1 c6_0 c6_1 c6_2 c6_3 c6_4 c6_5; obtain ⟨c0_0, c0_1, c0_2, c0_3, c0_4, c0_5⟩ := HS.out.c6 0 _ _ _ _ _ _ _ _ rfl; obtain ⟨c1_0, c1_1⟩ := HS.out.c2 1 _ _ _ _ rfl; obtain ⟨c6_0, c6_1, c6_2, c6_3, c6_4, c6_5⟩ := HS.out.c6 6 _ _ _ _ _ _ _ _ rfl) | (go_at_call 30; have hE_ : EngSt (SL.blk g22 69 #[.slice A0 ss.length c0, .int .i64 nx.cur.id, .int .i64 nx.due, .int .i64 nx.t, .int .u64 nx.now, .int .u64 nx.frames] :: SL.blk g21 61 #[.bool true, .int .i64 zi] :: SL.blk g19 69 #[.slice A0 ss.length c0, .int .i64 nx.cur.id, .int .i64 nx.due, .int .i64 nx.t, .int .u64 nx.now, .int .u64 nx.frames] :: SL.row KP 31 (.slice A gs.length c) gs :: (tabL ts ++ [])) ge gk bm (mapOf ts) x w w73_ := ⟨gc, j, HIN.out, (((HS.out.front 5 _ rfl).front 5 _ rfl).front 5 _ rfl).front 5 _ rfl⟩; refine (e_make hE_ HM.out zi HWX.out).mono ?_; clear hE_; rintro e w98_ ⟨rfl, hE⟩; rw [← HNX.out] at hE; have HE9 := Go.Lib.hid hE; clear hE c0_0 c0_1 c0_2 c0_3 c0_4 c0_5 c1_0 c1_1 c6_0 c6_1 c6_2 c6_3 c6_4 c6_5; obtain ⟨h19_0, h19_1, h19_2, h19_3, h19_4, h19_5⟩ := HE9.out.st.c6 2 _ _ _ _ _ _ _ _ rfl) | (go_at_call 37; refine (same_st HE9.out (((HT.out.cons (SL.blk g19 69 #[.slice A0 ss.length c0, .int .i64 nx.cur.id, .int .i64 nx.due, .int .i64 nx.t, .int .u64 nx.now, .int .u64 nx.frames])).cons (SL.blk g21 61 #[.bool true, .int .i64 zi])).cons (SL.blk g22 69 #[.slice A0 ss.length c0, .int .i64 nx.cur.id, .int .i64 nx.due, .int .i64 nx.t, .int .u64 nx.now, .int .u64 nx.frames])) (scheds_arg HC.out) (by omega) HGS.out HSRC.out HU.out HGN.out).mono ?_; rintro e w99_ ⟨rfl, hE⟩; have HEN := Go.Lib.hid hE; clear hE))
       obtain ⟨gc5, j5, hi5, hS5⟩ := HEN.out
       have HE6 : Hid (EngSt (SL.blk g19 69 #[.slice A0 ss.length c0, .int .i64 nx.cur.id, .int .i64 nx.due, .int .i64 nx.t, .int .u64 nx.now, .int .u64 nx.frames] :: SL.row KP 31 (.slice A gs.length c) gs :: (tabL ts ++ [])) ge gk bm (mapOf ts) nx w w99_) := Go.Lib.hid ⟨gc5, j5, hi5, (hS5.erase 4).erase 4⟩
       clear hi5 hS5
       go_roundw
       case rel => exact ⟨k + 1, nx, hlt, by go_num, HGN.out, HE6.out⟩
       case measure => simp [intOf]; omega
      | false =>
       obtain ⟨nx, hnx⟩ : ∃ nx, nx = (x.tick ts) := ⟨_, rfl⟩
       have HNX := Go.Lib.hid hnx
       have HGN : Hid (Good ts nx) := Go.Lib.hid (by rw [hnx]; exact HG0.out.tick HT.out.ok)
       clear hnx
       obtain ⟨c4_0, c4_1, c4_2, c4_3, c4_4, c4_5⟩ := HS.out.c6 4 _ _ _ _ _ _ _ _ rfl
       go_wp2_with (first | ((with_reducible refine gate_dst (N := 21) rfl ?_); refine Sl.box_st HS.out (by rfl) (cs := #[.bool false, .int .i64 0]) (t := 61) ?hr ?_; (case hr => first | (go_simp; done) | (go_simp; rfl)); intro g21 w51_ HSn HBn; clear HBn; replace HS : Hid (St (SL.blk g21 61 #[.bool false, .int .i64 0] :: SL.blk ge 108 #[.map (some bm), .pointer (some ⟨gc, 0, none⟩), .int .i64 x.due, .pointer (some ⟨gk, 0, none⟩), .int .u64 x.frames] :: SL.map KI bm (mapOf ts) :: SL.blk gk 132 #[.int .u64 x.now] :: SL.blk gc 100 #[.pointer (some ⟨x.cur.g, 0, none⟩), .int .i64 x.t, .int .i64 ((j : Nat) : Int)] :: SL.blk g19 69 #[.slice A0 ss.length c0, .int .i64 x.cur.id, .int .i64 x.due, .int .i64 x.t, .int .u64 x.now, .int .u64 x.frames] :: SL.row KP 31 (.slice A gs.length c) gs :: (tabL ts ++ [])) w w51_) := Go.Lib.hid HSn; clear HSn; clear c4_0 c4_1 c4_2 c4_3 c4_4 c4_5; obtain ⟨c0_0, c0_1⟩ := HS.out.c2 0 _ _ _ _ rfl; obtain ⟨c5_0, c5_1, c5_2, c5_3, c5_4, c5_5⟩ := HS.out.c6 5 _ _ _ _ _ _ _ _ rfl) | ((with_reducible refine gate_store (p := 21) rfl ?_); refine Sl.storeAll_st HS.out 0 g21 61 _ rfl [.bool false, .int .i64 zi] rfl (by rfl) (by rfl) ?hr ?_; (case hr => have f_ := HS.out.f2 0 _ _ _ _ rfl; (try obtain ⟨f0, f1⟩ := f_); first | (go_simp; done) | (go_simp; rfl)); intro w52_ HSn; replace HS : Hid (St (SL.blk g21 61 #[.bool false, .int .i64 zi] :: SL.blk ge 108 #[.map (some bm), .pointer (some ⟨gc, 0, none⟩), .int .i64 x.due, .pointer (some ⟨gk, 0, none⟩), .int .u64 x.frames] :: SL.map KI bm (mapOf ts) :: SL.blk gk 132 #[.int .u64 x.now] :: SL.blk gc 100 #[.pointer (some ⟨x.cur.g, 0, none⟩), .int .i64 x.t, .int .i64 ((j : Nat) : Int)] :: SL.blk g19 69 #[.slice A0 ss.length c0, .int .i64 x.cur.id, .int .i64 x.due, .int .i64 x.t, .int .u64 x.now, .int .u64 x.frames] :: SL.row KP 31 (.slice A gs.length c) gs :: (tabL ts ++ [])) w w52_) := Go.Lib.hid HSn; clear HSn; clear c0_0 c0_1 c5_0 c5_1 c5_2 c5_3 c5_4 c5_5; obtain ⟨c0_0, c0_1⟩ := HS.out.c2 0 _ _ _ _ rfl; obtain ⟨c5_0, c5_1, c5_2, c5_3, c5_4, c5_5⟩ := HS.out.c6 5 _ _ _ _ _ _ _ _ rfl) | (go_at_call 36; refine (r_tick HS.out (scheds_arg HC.out) (by omega) HGS.out HSRC.out HT.out.ok HU.out HG0.out).mono ?_; rintro e w60_ ⟨rfl, hS⟩; rw [← HNX.out]; replace HS : Hid (St (SL.blk g21 61 #[.bool false, .int .i64 zi] :: SL.blk ge 108 #[.map (some bm), .pointer (some ⟨gc, 0, none⟩), .int .i64 x.due, .pointer (some ⟨gk, 0, none⟩), .int .u64 x.frames] :: SL.map KI bm (mapOf ts) :: SL.blk gk 132 #[.int .u64 x.now] :: SL.blk gc 100 #[.pointer (some ⟨x.cur.g, 0, none⟩), .int .i64 x.t, .int .i64 ((j : Nat) : Int)] :: SL.blk g19 69 #[.slice A0 ss.length c0, .int .i64 x.cur.id, .int .i64 x.due, .int .i64 x.t, .int .u64 x.now, .int .u64 x.frames] :: SL.row KP 31 (.slice A gs.length c) gs :: (tabL ts ++ [])) w w60_) := Go.Lib.hid hS; clear hS; clear c0_0 c0_1 c5_0 c5_1 c5_2 c5_3 c5_4 c5_5; obtain ⟨c0_0, c0_1⟩ := HS.out.c2 0 _ _ _ _ rfl; obtain ⟨c5_0, c5_1, c5_2, c5_3, c5_4, c5_5⟩ := HS.out.c6 5 _ _ _ _ _ _ _ _ rfl) | ((with_reducible refine gate_dst (N := 24) rfl ?_); refine Sl.box_st HS.out (by rfl) (cs := #[.slice none 0 0, .int .i64 0, .int .i64 0, .int .i64 0, .int .u64 0, .int .u64 0]) (t := 69) ?hr ?_; (case hr => first | (go_simp; done) | (go_simp; rfl)); intro g24 w71_ HSn HBn; clear HBn; replace HS : Hid (St (SL.blk g24 69 #[.slice none 0 0, .int .i64 0, .int .i64 0, .int .i64 0, .int .u64 0, .int .u64 0] :: SL.blk g21 61 #[.bool false, .int .i64 zi] :: SL.blk ge 108 #[.map (some bm), .pointer (some ⟨gc, 0, none⟩), .int .i64 x.due, .pointer (some ⟨gk, 0, none⟩), .int .u64 x.frames] :: SL.map KI bm (mapOf ts) :: SL.blk gk 132 #[.int .u64 x.now] :: SL.blk gc 100 #[.pointer (some ⟨x.cur.g, 0, none⟩), .int .i64 x.t, .int .i64 ((j : Nat) : Int)] :: SL.blk g19 69 #[.slice A0 ss.length c0, .int .i64 x.cur.id, .int .i64 x.due, .int .i64 x.t, .int .u64 x.now, .int .u64 x.frames] :: SL.row KP 31 (.slice A gs.length c) gs :: (tabL ts ++ [])) w w71_) := Go.Lib.hid HSn; clear HSn; clear c0_0 c0_1 c5_0 c5_1 c5_2 c5_3 c5_4 c5_5; obtain ⟨c0_0, c0_1, c0_2, c0_3, c0_4, c0_5⟩ := HS.out.c6 0 _ _ _ _ _ _ _ _ rfl; obtain ⟨c1_0, c1_1⟩ := HS.out.c2 1 _ _ _ _ rfl; obtain ⟨c6_0, c6_1, c6_2, c6_3, c6_4, c6_5⟩ := HS.out.c6 6 _ _ _ _ _ _ _ _ rfl) | ((with_reducible refine gate_store (p := 24) rfl ?_); refine Sl.storeAll_st HS.out 0 g24 69 _ rfl [.slice A0 ss.length c0, .int .i64 nx.cur.id, .int .i64 nx.due, .int .i64 nx.t, .int .u64 nx.now, .int .u64 nx.frames] rfl (by rfl) (by rfl) ?hr ?_; (case hr => have f_ := HS.out.f6 0 _ _ _ _ _ _ _ _ rfl; (try obtain ⟨f0, f1, f2, f3, f4, f5⟩ := f_); first | (go_simp; done) | (go_simp; rfl)); intro w72_ HSn; replace HS : Hid (St (SL.blk g24 69 #[.slice A0 ss.length c0, .int .i64 nx.cur.id, .int .i64 nx.due, .int .i64 nx.t, .int .u64 nx.now, .int .u64 nx.frames] :: SL.blk g21 61 #[.bool false, .int .i64 zi] :: SL.blk ge 108 #[.map (some bm), .pointer (some ⟨gc, 0, none⟩), .int .i64 x.due, .pointer (some ⟨gk, 0, none⟩), .int .u64 x.frames] :: SL.map KI bm (mapOf ts) :: SL.blk gk 132 #[.int .u64 x.now] :: SL.blk gc 100 #[.pointer (some ⟨x.cur.g, 0, none⟩), .int .i64 x.t, .int .i64 ((j : Nat) : Int)] :: SL.blk g19 69 #[.slice A0 ss.length c0, .int .i64 x.cur.id, .int .i64 x.due, .int .i64 x.t, .int .u64 x.now, .int .u64 x.frames] :: SL.row KP 31 (.slice A gs.length c) gs :: (tabL ts ++ [])) w w72_) := Go.Lib.hid HSn; clear HSn; clear c0_0 c0_1 c0_2 c0_3 c0_4 c0_5 c1_0 c1_1 c6_0 c6_1 c6_2 c6_3 c6_4 c6_5; obtain ⟨c0_0, c0_1, c0_2, c0_3, c0_4, c0_5⟩ := HS.out.c6 0 _ _ _ _ _ _ _ _ rfl; obtain ⟨c1_0, c1_1⟩ := HS.out.c2 1 _ _ _ _ rfl; obtain ⟨c6_0, c6_1, c6_2, c6_3, c6_4, c6_5⟩ := HS.out.c6 6 _ _ _ _ _ _ _ _ rfl) | ((with_reducible refine gate_store (p := 19) rfl ?_); refine Sl.storeAll_st HS.out 6 g19 69 _ rfl [.slice A0 ss.length c0, .int .i64 nx.cur.id, .int .i64 nx.due, .int .i64 nx.t, .int .u64 nx.now, .int .u64 nx.frames] rfl (by rfl) (by rfl) ?hr ?_; (case hr => have f_ := HS.out.f6 6 _ _ _ _ _ _ _ _ rfl; (try obtain ⟨f0, f1, f2, f3, f4, f5⟩ := f_); first | (go_simp; done) | (go_simp; rfl)); intro w73_ HSn; replace HS : Hid (St (SL.blk g24 69 #[.slice A0 ss.length c0, .int .i64 nx.cur.id, .int .i64 nx.due, .int .i64 nx.t, .int .u64 nx.now, .int .u64 nx.frames] :: SL.blk g21 61 #[.bool false, .int .i64 zi] :: SL.blk ge 108 #[.map (some bm), .pointer (some ⟨gc, 0, none⟩), .int .i64 x.due, .pointer (some ⟨gk, 0, none⟩), .int .u64 x.frames] :: SL.map KI bm (mapOf ts) :: SL.blk gk 132 #[.int .u64 x.now] :: SL.blk gc 100 #[.pointer (some ⟨x.cur.g, 0, none⟩), .int .i64 x.t, .int .i64 ((j : Nat) : Int)] :: SL.blk g19 69 #[.slice A0 ss.length c0, .int .i64 nx.cur.id, .int .i64 nx.due, .int .i64 nx.t, .int .u64 nx.now, .int .u64 nx.frames] :: SL.row KP 31 (.slice A gs.length c) gs :: (tabL ts ++ [])) w w73_) := Go.Lib.hid HSn; clear HSn; clear c0_0 c0_1 c0_2 c0_3 c0_4 c0_5 c1_0 c1_1 c6_0 c6_1 c6_2 c6_3 c6_4 c6_5; obtain ⟨c0_0, c0_1, c0_2, c0_3, c0_4, c0_5⟩ := HS.out.c6 0 _ _ _ _ _ _ _ _ rfl; obtain ⟨c1_0, c1_1⟩ := HS.out.c2 1 _ _ _ _ rfl; obtain ⟨c6_0, c6_1, c6_2, c6_3, c6_4, c6_5⟩ := HS.out.c6 6 _ _ _ _ _ _ _ _ rfl) | (go_at_call 24; have hE_ : EngSt (SL.blk g24 69 #[.slice A0 ss.length c0, .int .i64 nx.cur.id, .int .i64 nx.due, .int .i64 nx.t, .int .u64 nx.now, .int .u64 nx.frames] :: SL.blk g21 61 #[.bool false, .int .i64 zi] :: SL.blk g19 69 #[.slice A0 ss.length c0, .int .i64 nx.cur.id, .int .i64 nx.due, .int .i64 nx.t, .int .u64 nx.now, .int .u64 nx.frames] :: SL.row KP 31 (.slice A gs.length c) gs :: (tabL ts ++ [])) ge gk bm (mapOf ts) x w w73_ := ⟨gc, j, HIN.out, (((HS.out.front 5 _ rfl).front 5 _ rfl).front 5 _ rfl).front 5 _ rfl⟩; refine (tick_st hE_ (((HT.out.cons (SL.blk g19 69 #[.slice A0 ss.length c0, .int .i64 nx.cur.id, .int .i64 nx.due, .int .i64 nx.t, .int .u64 nx.now, .int .u64 nx.frames])).cons (SL.blk g21 61 #[.bool false, .int .i64 zi])).cons (SL.blk g24 69 #[.slice A0 ss.length c0, .int .i64 nx.cur.id, .int .i64 nx.due, .int .i64 nx.t, .int .u64 nx.now, .int .u64 nx.frames])) HM.out HU.out HG0.out).mono ?_; clear hE_; rintro e w98_ ⟨rfl, hE⟩; rw [← HNX.out] at hE; have HE9 := Go.Lib.hid hE; clear hE c0_0 c0_1 c0_2 c0_3 c0_4 c0_5 c1_0 c1_1 c6_0 c6_1 c6_2 c6_3 c6_4 c6_5; obtain ⟨h19_0, h19_1, h19_2, h19_3, h19_4, h19_5⟩ := HE9.out.st.c6 2 _ _ _ _ _ _ _ _ rfl) | (go_at_call 37; refine (same_st HE9.out (((HT.out.cons (SL.blk g19 69 #[.slice A0 ss.length c0, .int .i64 nx.cur.id, .int .i64 nx.due, .int .i64 nx.t, .int .u64 nx.now, .int .u64 nx.frames])).cons (SL.blk g21 61 #[.bool false, .int .i64 zi])).cons (SL.blk g24 69 #[.slice A0 ss.length c0, .int .i64 nx.cur.id, .int .i64 nx.due, .int .i64 nx.t, .int .u64 nx.now, .int .u64 nx.frames])) (scheds_arg HC.out) (by omega) HGS.out HSRC.out HU.out HGN.out).mono ?_; rintro e w99_ ⟨rfl, hE⟩; have HEN := Go.Lib.hid hE; clear hE))
       obtain ⟨gc5, j5, hi5, hS5⟩ := HEN.out
       have HE6 : Hid (EngSt (SL.blk g19 69 #[.slice A0 ss.length c0, .int .i64 nx.cur.id, .int .i64 nx.due, .int .i64 nx.t, .int .u64 nx.now, .int .u64 nx.frames] :: SL.row KP 31 (.slice A gs.length c) gs :: (tabL ts ++ [])) ge gk bm (mapOf ts) nx w w99_) := Go.Lib.hid ⟨gc5, j5, hi5, (hS5.erase 4).erase 4⟩
       clear hi5 hS5
       go_roundw
       case rel => exact ⟨k + 1, nx, hlt, by go_num, HGN.out, HE6.out⟩
       case measure => simp [intOf]; omega
     ·obtain rfl : k = os.length := by omega
      have HGN := HG0
      obtain ⟨h19_0, h19_1, h19_2, h19_3, h19_4, h19_5⟩ := HE.out.st.c6 0 _ _ _ _ _ _ _ _ rfl
      go_upto_region 42 with (go_at_call 38; refine (copy_st HE.out).mono ?_; rintro e w70_ ⟨g2, gk2, gc6, j6, rfl, hi6, hE2⟩; have HI6 := Go.Lib.hid hi6; have HE2 := Go.Lib.hid hE2; clear hi6 hE2 HE h19_0 h19_1 h19_2 h19_3 h19_4 h19_5; obtain ⟨h19_0, h19_1, h19_2, h19_3, h19_4, h19_5⟩ := HE2.out.st.c6 3 _ _ _ _ _ _ _ _ rfl)
      go_upto_region 44 with (go_at_call 37; refine (same_st HE2.out ((((HT.out.cons (SL.blk g19 69 #[.slice A0 ss.length c0, .int .i64 x.cur.id, .int .i64 x.due, .int .i64 x.t, .int .u64 x.now, .int .u64 x.frames])).cons (SL.blk gc6 100 #[.pointer (some ⟨x.cur.g, 0, none⟩), .int .i64 x.t, .int .i64 ((j6 : Nat) : Int)])).cons (SL.blk gk 132 #[.int .u64 x.now])).cons (SL.blk ge 108 #[.map (some bm), .pointer (some ⟨gc6, 0, none⟩), .int .i64 x.due, .pointer (some ⟨gk, 0, none⟩), .int .u64 x.frames])) (scheds_arg HC.out) (by omega) HGS.out HSRC.out HU.out HGN.out).mono ?_; rintro e w71_ ⟨rfl, hE⟩; replace HE2 := Go.Lib.hid hE; clear hE)
      go_upto_region 45 with (go_at_call 24; refine (tick_st HE2.out ((((HT.out.cons (SL.blk g19 69 #[.slice A0 ss.length c0, .int .i64 x.cur.id, .int .i64 x.due, .int .i64 x.t, .int .u64 x.now, .int .u64 x.frames])).cons (SL.blk gc6 100 #[.pointer (some ⟨x.cur.g, 0, none⟩), .int .i64 x.t, .int .i64 ((j6 : Nat) : Int)])).cons (SL.blk gk 132 #[.int .u64 x.now])).cons (SL.blk ge 108 #[.map (some bm), .pointer (some ⟨gc6, 0, none⟩), .int .i64 x.due, .pointer (some ⟨gk, 0, none⟩), .int .u64 x.frames])) HM.out HU.out HG0.out).mono ?_; rintro e w72_ ⟨rfl, hE⟩; replace HE2 := Go.Lib.hid hE; clear hE)
      clear h19_0 h19_1 h19_2 h19_3 h19_4 h19_5
      obtain ⟨gc7, j7, hi7, hS7⟩ := HE2.out
      have HE : Hid (EngSt (SL.blk g19 69 #[.slice A0 ss.length c0, .int .i64 x.cur.id, .int .i64 x.due, .int .i64 x.t, .int .u64 x.now, .int .u64 x.frames] :: SL.row KP 31 (.slice A gs.length c) gs :: (tabL ts ++ [])) ge gk bm (mapOf ts) x w w72_) := Go.Lib.hid ⟨gc6, j6, HI6.out, ((((hS7.erase 0).erase 1).erase 1)).front 1 _ rfl⟩
      clear hi7 hS7 HE2
      have HS := Go.Lib.hid (St.start w72_)
      go_wp2_with (first | ((with_reducible refine gate_dst (N := 189) rfl ?_); refine slit_st HS.out (by rfl) (cs := #[.pointer none]) (t := 31) (n := 1) ?hr ?_; (case hr => first | (go_simp; done) | (go_simp; rfl)); intro g w80_ HSn HBn; clear HBn; replace HS := Go.Lib.hid HSn; clear HSn) | (go_at_call 22; refine (new_nil HS.out 0 rfl).mono ?_; rintro e w81_ ⟨rfl, hS⟩; have HE9 := Go.Lib.hid (HE.out.then_ hS.below); obtain ⟨h19_0, h19_1, h19_2, h19_3, h19_4, h19_5⟩ := HE9.out.st.c6 0 _ _ _ _ _ _ _ _ rfl; clear hS HS) | (go_at_call 37; refine (same_st HE9.out (HT.out.cons (SL.blk g19 69 #[.slice A0 ss.length c0, .int .i64 x.cur.id, .int .i64 x.due, .int .i64 x.t, .int .u64 x.now, .int .u64 x.frames])) (scheds_arg HC.out) (by omega) HGS.out HSRC.out HU.out HGN.out).mono ?_; rintro e w99_ ⟨rfl, hE⟩; have HEN := Go.Lib.hid hE; clear hE) | (go_at_call 21; refine (awake_st HEN.out.st).mono ?_; rintro e wz ⟨rfl, hS⟩; have HS := Go.Lib.hid hS; clear hS))
      go_ret
      exact ⟨rfl, HS.out.below⟩
end Go.Proofs.Ytnpjbdaaoknkbaa.Frm

/-! Arguments of struct types, opened to rows. -/
namespace Go.Proofs.Ytnpjbdaaoknkbaa.Opp
open Go.RowKit Go.ChangeShapes Go.WideShapes Go.Deep Go.Proofs.YtnpjbdaaoknkbaaW.PrintWords Go.Proofs.YtnpjbdaaoknkbaaW.PrintLast Go.Proofs.YtnpjbdaaoknkbaaW.PrintMore Go.Proofs.Ytnpjbdaaoknkbaa.PTableFrames Go.Proofs.Ytnpjbdaaoknkbaa.Frm
set_option linter.unusedVariables false
set_option maxRecDepth 100000
theorem open59 {H : Type} {enc : TypeId × Value → H} {w : World} {base b0 : Nat} {spare : Nat → Bool} {held : Bool} {r : Go.Reach} {v : Value} {x : DataW H} {p : List MemPlace} (hv : Value.okWide Try.prog w r b0 59 v)
  (h : DataW.Trod enc Try.prog w base spare held 59 v x p) : ∃ A n c, v = .slice A n c ∧ ∃ xs, n ≤ c ∧ k61.C w A n xs ∧ ∀ z ∈ xs, (Lit.int .i64 z.f1).wf = true := by
 obtain ⟨A, n, c, rfl⟩ := okWide_slice Try.underlying59 hv
 obtain ⟨fuel, hf⟩ := h
 obtain ⟨A', n', c', hcs, hl, xs, hC, hg⟩ := Opn.open_row k61 (fun z => (Lit.int .i64 z.f1).wf = true) Try.underlying59 (by kernel_rfl) (fun n cs' y hy hlen => by
  obtain ⟨m, hfs⟩ := Opn.fields_of Try.underlying61 (by kernel_rfl) hy
  match cs', hlen with
  | [c0, c1], _ =>
   obtain ⟨y0, h0⟩ := hfs 0 _ c0 rfl rfl
   obtain ⟨y1, h1⟩ := hfs 1 _ c1 rfl rfl
   obtain ⟨n0, e0, _⟩ := DataW.trod_bool Try.underlying4 h0
   obtain ⟨n1, e1, _, w1⟩ := DataW.trod_int Try.underlying3 h1
   obtain rfl : c0 = _ := by simpa using e0
   obtain rfl : c1 = _ := by simpa using e1
   exact ⟨⟨n0, n1⟩, k61_mk _ _, w1⟩) hf
 simp [Value.cells] at hcs
 obtain ⟨rfl, rfl, rfl⟩ := hcs
 exact ⟨_, _, _, rfl, xs, hl, hC, hg⟩
end Go.Proofs.Ytnpjbdaaoknkbaa.Opp

/-! FramePlays, over its arguments. -/
namespace Go.Proofs.Ytnpjbdaaoknkbaa.Frm
open Go.RowKit Go.Proofs.YtnpjbdaaoknkbaaW.PrintWords Go.Proofs.YtnpjbdaaoknkbaaW.PrintLast Go.Proofs.YtnpjbdaaoknkbaaW.PrintMore Go.Proofs.Ytnpjbdaaoknkbaa.Mine Go.Proofs.Ytnpjbdaaoknkbaa.PTableFrames
open Go.Proofs.Ytnpjbdaaoknkbaa.Tab (Small)
set_option linter.unusedVariables false
theorem smalls {w : World} {A : Option Addr} {n : Nat} {ss : List S25} (h : Kd.C k25 w A n ss) : ∀ s ∈ ss, Small s.f2 ∧ Small s.f3 := by
 intro s hs
 obtain rfl := h.1
 obtain ⟨k, hk, rfl⟩ := List.getElem_of_mem hs
 obtain ⟨ad, A2, c2, A3, c3, _, _, _, _, _, _, C2, _, C3⟩ := at_T25 h (k : Int) (by omega) (by omega)
 have hx : rd_T25 ss (k : Int) = ss[k] := by unfold rd_T25; rw [Int.toNat_natCast, List.getD_eq_getElem?_getD, List.getElem?_eq_getElem hk]; rfl
 rw [hx] at C2 C3
 exact ⟨C2.2.1, C3.2.1⟩
theorem u64_bd {n : Int} (h : (Lit.int .u64 n).wf = true) : 0 ≤ n ∧ n ≤ 18446744073709551615 := by
 simpa [Lit.wf, IntKind.min, IntKind.max, IntKind.signed, IntKind.bits] using h
theorem framePlays_walk (w : World) (A0 : Option Addr) (n0 c0 : Nat) (ss : List S25) (hO : n0 ≤ c0 ∧ k25.C w A0 n0 ss ∧ ∀ y ∈ ss, Opf.Good25 y) (A1 : Option Addr) (n1 c1 : Nat) (ids : List Int) (hI : n1 ≤ c1 ∧ (Kd.int .i64).C w A1 n1 ids ∧ ∀ z ∈ ids, (Lit.int .i64 z).wf = true)
  (first : Int) (hfi : (Lit.int .i64 first).wf = true) (epoch : Int) (hep : (Lit.int .u64 epoch).wf = true) (A2 : Option Addr) (n2 c2 : Nat) (os : List S61) (hP : n2 ≤ c2 ∧ k61.C w A2 n2 os ∧ ∀ z ∈ os, (Lit.int .i64 z.f1).wf = true) :
  Calls Try.prog 6 #[.slice A0 n0 c0, .slice A1 n1 c1, .int .i64 first, .int .u64 epoch, .slice A2 n2 c2] w fun e w' => e = .returned (.bool true) ∧ Below w.heap.size w w' := by
 obtain ⟨h1, h2, h3⟩ := hO
 obtain ⟨h4, h5, _⟩ := hI
 obtain ⟨h6, h7, h8⟩ := hP
 have hs := smalls h2
 obtain rfl := h2.1
 obtain rfl := h5.1
 obtain rfl := h7.1
 exact plays_raw w A0 c0 ss h2 h1 hs A1 c1 ids h5 h4 first epoch hfi (u64_bd hep).1 (u64_bd hep).2 A2 c2 os h7 h6 h8
end Go.Proofs.Ytnpjbdaaoknkbaa.Frm
