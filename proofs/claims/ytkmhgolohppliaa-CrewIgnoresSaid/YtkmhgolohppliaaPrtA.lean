/- PrtA: texts of one matter, laid together. -/
import Derived.Test.YtkmhgolohppliaaClsA
import Derived.Test.YtkmhgolohppliaaMod2
import Derived.Test.YtkmhgolohppliaaSlm
import Derived.Lib.SmallJoins
import Derived.Test.YtkmhgolohppliaaOpn
/-! A partition in memory: what each call of it comes to. -/
namespace Go.Proofs.Ytkmhgolohppliaa.Prt
open Go.RowKit Go.Proofs.Ytkmhgolohppliaa.PCellsPlays Go.Proofs.YtkmhgolohppliaaW.PrintWords Go.Proofs.YtkmhgolohppliaaW.PrintLast Go.Proofs.YtkmhgolohppliaaW.PrintMore Go.Proofs.Ytkmhgolohppliaa.Mine Go.Proofs.Ytkmhgolohppliaa.Cel Go.Proofs.Ytkmhgolohppliaa.Cls
open Go.Proofs.Ytkmhgolohppliaa.Sl (SL Stp St No)
open Go.Proofs.Ytkmhgolohppliaa.Mod (mode_Set.f mode_Act.f mode_Runs.f mode_Set.calls mode_Act.calls mode_Runs.calls mode_Set.mono mode_Act.mono strt actM runs right askd set_at act_at)
set_option linter.unusedVariables false
set_option linter.unusedSimpArgs false
attribute [local go_sem] max2_int min2_int max_two min_two max_three min_three max_four min_four
variable {l : List SL} {w0 w : World} {g : Nat}

/-- What Set and Act make of a mode. -/
abbrev mset := Go.Proofs.Ytkmhgolohppliaa.Mod.setM
theorem mset_calls (now want : Int) (w : World) : Calls Try.prog 19 #[.int .i64 now, .int .i64 want] w fun e w' => e = .returned (.agg #[.int .i64 (mset now want).1, .int .i64 (mset now want).2.1, .int .i64 (mset now want).2.2]) ∧ Below w.heap.size w w' :=
  mode_Set.calls 5 now want _ _ _ w (at_rounds (fun k => mode_Set.mono now want k) (by omega) (set_at now want))
theorem mact_calls (now a : Int) (w : World) : Calls Try.prog 20 #[.int .i64 now, .int .i64 a] w fun e w' => e = .returned (.agg #[.int .i64 (actM now a).1, .int .i64 (actM now a).2.1, .int .i64 (actM now a).2.2]) ∧ Below w.heap.size w w' :=
  mode_Act.calls 5 now a _ _ _ w (at_rounds (fun k => mode_Act.mono now a k) (by omega) (act_at now a))
theorem mset_st (h : St l w0 w) (now want : Int) : Calls Try.prog 19 #[.int .i64 now, .int .i64 want] w fun e w' => e = .returned (.agg #[.int .i64 (mset now want).1, .int .i64 (mset now want).2.1, .int .i64 (mset now want).2.2]) ∧ St l w0 w' :=
  (mset_calls now want w).mono fun _ _ ⟨he, hb⟩ => ⟨he, h.then_ hb⟩
theorem mact_st (h : St l w0 w) (now a : Int) : Calls Try.prog 20 #[.int .i64 now, .int .i64 a] w fun e w' => e = .returned (.agg #[.int .i64 (actM now a).1, .int .i64 (actM now a).2.1, .int .i64 (actM now a).2.2]) ∧ St l w0 w' :=
  (mact_calls now a w).mono fun _ _ ⟨he, hb⟩ => ⟨he, h.then_ hb⟩
theorem runs_st (h : St l w0 w) (m : Int) : Calls Try.prog 21 #[.int .i64 m] w fun e w' => e = .returned (.bool (runs m)) ∧ St l w0 w' :=
  (mode_Runs.calls m _ w (Go.Proofs.Ytkmhgolohppliaa.Mod.runs_at m)).mono fun _ _ ⟨he, hd⟩ => ⟨he, h.drawn hd⟩

/-- What a partition is: its mode, its starts, their cause, its cells' numbers, how often these were written. -/
structure PS where
  mode : Int
  starts : Int
  cause : Int
  now : List Int
  wr : Int
/-- A start: none, warm, cold. -/
def PS.become (fst : List S43) (s : PS) (m start cause : Int) : PS :=
  if start = 0 then ⟨m, s.starts, s.cause, s.now, s.wr⟩ else if start = 1 then ⟨m, s.starts + 1, cause, back false fst s.now fst.length, s.wr⟩ else ⟨m, s.starts + 1, cause, fst.map (·.f0), 0⟩
def PS.setMode (fst : List S43) (s : PS) (want : Int) : PS := if (mset s.mode want).2.2 = 0 then s.become fst (mset s.mode want).1 (mset s.mode want).2.1 1 else s
def PS.act (fst : List S43) (s : PS) (a : Int) : PS := if (actM s.mode a).2.1 = 0 then s else s.become fst (actM s.mode a).1 (actM s.mode a).2.1 2
def PS.cell (s : PS) (i : Int) : Int := if runs s.mode = true then (if inB i s.now.length = true then 0 else 3) else 5
def PS.write (s : PS) (i v : Int) : PS := if s.cell i = 0 then ⟨s.mode, s.starts, s.cause, setN s.now i v, setM s.now i s.wr⟩ else s
def PS.init (fst : List S43) : PS := ⟨1, 1, 0, fst.map (·.f0), 0⟩
theorem mset_start (now want : Int) : (mset now want).2.1 = 0 ∨ (mset now want).2.1 = 1 ∨ (mset now want).2.1 = 2 := by
  unfold mset Go.Proofs.Ytkmhgolohppliaa.Mod.setM strt
  split <;> (try (split <;> (try split))) <;> simp
theorem act_start (now a : Int) : (actM now a).2.1 = 0 ∨ (actM now a).2.1 = 1 ∨ (actM now a).2.1 = 2 := by
  unfold actM
  repeat' split
  all_goals simp
/-- A partition, owned. -/
def part (g : Nat) (id : Int) (name : ByteArray) (may : Bool) (fst : List S43) (s : PS) : SL :=
  SL.ex fun A : Option Addr => SL.ex fun n : Nat => SL.ex fun c : Nat => SL.ex fun cg : Nat =>
    SL.star (SL.blk g 73 #[.int .i64 s.mode, .int .i64 s.starts, .int .i64 s.cause, .int .i64 id, .string name, .bool may, .slice A n c, .pointer (some ⟨cg, 0, none⟩)]) (cells cg fst s.now s.wr)
variable {id : Int} {name : ByteArray} {may : Bool} {fst : List S43} {s : PS}
theorem open_part (h : St (part g id name may fst s :: l) w0 w) : ∃ A n c cg, St (SL.blk g 73 #[.int .i64 s.mode, .int .i64 s.starts, .int .i64 s.cause, .int .i64 id, .string name, .bool may, .slice A n c, .pointer (some ⟨cg, 0, none⟩)] :: cells cg fst s.now s.wr :: l) w0 w := by
  obtain ⟨A, h⟩ := h.unex
  obtain ⟨n, h⟩ := h.unex
  obtain ⟨c, h⟩ := h.unex
  obtain ⟨cg, h⟩ := h.unex
  exact ⟨A, n, c, cg, h.part⟩
theorem shut_part {A : Option Addr} {n c cg : Nat} (h : St (SL.blk g 73 #[.int .i64 s.mode, .int .i64 s.starts, .int .i64 s.cause, .int .i64 id, .string name, .bool may, .slice A n c, .pointer (some ⟨cg, 0, none⟩)] :: cells cg fst s.now s.wr :: l) w0 w) : St (part g id name may fst s :: l) w0 w :=
  St.mkex A (St.mkex n (St.mkex c (St.mkex cg h.pair)))
theorem starts_hd (h : St (part g id name may fst s :: l) w0 w) : Calls Try.prog 43 #[.pointer (some ⟨g, 0, none⟩)] w fun e w' => e = .returned (.int .i64 s.starts) ∧ w = w' := by
  obtain ⟨m0, s0, u0, now0, q0⟩ := s
  obtain ⟨A, n, c, cg, hS⟩ := open_part h
  have HS := Go.Lib.hid hS
  clear hS h
  obtain ⟨c0_0, c0_1, c0_2, c0_3, c0_4, c0_5, c0_6, c0_7⟩ := HS.out.c8 0 _ _ _ _ _ _ _ _ _ _ rfl
  go_enter Try.func43, Try.ntmps43
  go_wp2_with fail
  go_ret
  exact ⟨rfl, rfl⟩
theorem starts_st (h : St l w0 w) (n : Nat) (e : l[n]? = some (part g id name may fst s)) : Calls Try.prog 43 #[.pointer (some ⟨g, 0, none⟩)] w fun e w' => e = .returned (.int .i64 s.starts) ∧ w = w' := starts_hd (h.front n _ e)
theorem cause_hd (h : St (part g id name may fst s :: l) w0 w) : Calls Try.prog 44 #[.pointer (some ⟨g, 0, none⟩)] w fun e w' => e = .returned (.int .i64 s.cause) ∧ w = w' := by
  obtain ⟨m0, s0, u0, now0, q0⟩ := s
  obtain ⟨A, n, c, cg, hS⟩ := open_part h
  have HS := Go.Lib.hid hS
  clear hS h
  obtain ⟨c0_0, c0_1, c0_2, c0_3, c0_4, c0_5, c0_6, c0_7⟩ := HS.out.c8 0 _ _ _ _ _ _ _ _ _ _ rfl
  go_enter Try.func44, Try.ntmps44
  go_wp2_with fail
  go_ret
  exact ⟨rfl, rfl⟩
theorem cause_st (h : St l w0 w) (n : Nat) (e : l[n]? = some (part g id name may fst s)) : Calls Try.prog 44 #[.pointer (some ⟨g, 0, none⟩)] w fun e w' => e = .returned (.int .i64 s.cause) ∧ w = w' := cause_hd (h.front n _ e)
theorem mode_hd (h : St (part g id name may fst s :: l) w0 w) : Calls Try.prog 53 #[.pointer (some ⟨g, 0, none⟩)] w fun e w' => e = .returned (.int .i64 s.mode) ∧ w = w' := by
  obtain ⟨m0, s0, u0, now0, q0⟩ := s
  obtain ⟨A, n, c, cg, hS⟩ := open_part h
  have HS := Go.Lib.hid hS
  clear hS h
  obtain ⟨c0_0, c0_1, c0_2, c0_3, c0_4, c0_5, c0_6, c0_7⟩ := HS.out.c8 0 _ _ _ _ _ _ _ _ _ _ rfl
  go_enter Try.func53, Try.ntmps53
  go_wp2_with fail
  go_ret
  exact ⟨rfl, rfl⟩
theorem mode_st (h : St l w0 w) (n : Nat) (e : l[n]? = some (part g id name may fst s)) : Calls Try.prog 53 #[.pointer (some ⟨g, 0, none⟩)] w fun e w' => e = .returned (.int .i64 s.mode) ∧ w = w' := mode_hd (h.front n _ e)
theorem id_hd (h : St (part g id name may fst s :: l) w0 w) : Calls Try.prog 50 #[.pointer (some ⟨g, 0, none⟩)] w fun e w' => e = .returned (.int .i64 id) ∧ w = w' := by
  obtain ⟨m0, s0, u0, now0, q0⟩ := s
  obtain ⟨A, n, c, cg, hS⟩ := open_part h
  have HS := Go.Lib.hid hS
  clear hS h
  obtain ⟨c0_0, c0_1, c0_2, c0_3, c0_4, c0_5, c0_6, c0_7⟩ := HS.out.c8 0 _ _ _ _ _ _ _ _ _ _ rfl
  go_enter Try.func50, Try.ntmps50
  go_wp2_with fail
  go_ret
  exact ⟨rfl, rfl⟩
theorem id_st (h : St l w0 w) (n : Nat) (e : l[n]? = some (part g id name may fst s)) : Calls Try.prog 50 #[.pointer (some ⟨g, 0, none⟩)] w fun e w' => e = .returned (.int .i64 id) ∧ w = w' := id_hd (h.front n _ e)
theorem name_hd (h : St (part g id name may fst s :: l) w0 w) : Calls Try.prog 51 #[.pointer (some ⟨g, 0, none⟩)] w fun e w' => e = .returned (.string name) ∧ w = w' := by
  obtain ⟨m0, s0, u0, now0, q0⟩ := s
  obtain ⟨A, n, c, cg, hS⟩ := open_part h
  have HS := Go.Lib.hid hS
  clear hS h
  obtain ⟨c0_0, c0_1, c0_2, c0_3, c0_4, c0_5, c0_6, c0_7⟩ := HS.out.c8 0 _ _ _ _ _ _ _ _ _ _ rfl
  go_enter Try.func51, Try.ntmps51
  go_wp2_with fail
  go_ret
  exact ⟨rfl, rfl⟩
theorem name_st (h : St l w0 w) (n : Nat) (e : l[n]? = some (part g id name may fst s)) : Calls Try.prog 51 #[.pointer (some ⟨g, 0, none⟩)] w fun e w' => e = .returned (.string name) ∧ w = w' := name_hd (h.front n _ e)
theorem may_hd (h : St (part g id name may fst s :: l) w0 w) : Calls Try.prog 52 #[.pointer (some ⟨g, 0, none⟩)] w fun e w' => e = .returned (.bool may) ∧ w = w' := by
  obtain ⟨m0, s0, u0, now0, q0⟩ := s
  obtain ⟨A, n, c, cg, hS⟩ := open_part h
  have HS := Go.Lib.hid hS
  clear hS h
  obtain ⟨c0_0, c0_1, c0_2, c0_3, c0_4, c0_5, c0_6, c0_7⟩ := HS.out.c8 0 _ _ _ _ _ _ _ _ _ _ rfl
  go_enter Try.func52, Try.ntmps52
  go_wp2_with fail
  go_ret
  exact ⟨rfl, rfl⟩
theorem may_st (h : St l w0 w) (n : Nat) (e : l[n]? = some (part g id name may fst s)) : Calls Try.prog 52 #[.pointer (some ⟨g, 0, none⟩)] w fun e w' => e = .returned (.bool may) ∧ w = w' := may_hd (h.front n _ e)
theorem results_none {fn : Func} (h : fn.results = #[]) (tmps : Array Value) (P : Program) (w : World) : (results fn tmps).run P w = .ok (.tuple #[]) w := by simp [results, h]
set_option maxHeartbeats 800000 in
theorem become_0 (h : St (part g id name may fst s :: l) w0 w) (m code cause : Int) (hs0 : 0 ≤ s.starts) (hs1 : s.starts ≤ 1000000) (hn : fst.length ≤ 1000000) : Calls Try.prog 99 #[.pointer (some ⟨g, 0, none⟩), .agg #[.int .i64 m, .int .i64 0, .int .i64 code], .int .i64 cause] w fun e w' => e = .returned (.tuple #[]) ∧ St (part g id name may fst (s.become fst m 0 cause) :: l) w0 w' := by
  obtain ⟨m0, s0, u0, now0, q0⟩ := s
  obtain ⟨A, n, c, cg, hS⟩ := open_part h
  have HS := Go.Lib.hid hS
  clear hS h
  have hs0' : 0 ≤ s0 := hs0
  have hs1' : s0 ≤ 1000000 := hs1
  clear hs0 hs1
  obtain ⟨c0_0, c0_1, c0_2, c0_3, c0_4, c0_5, c0_6, c0_7⟩ := HS.out.c8 0 _ _ _ _ _ _ _ _ _ _ rfl
  go_enter Try.func99, Try.ntmps99
  go_wp2_with (first | ((with_reducible refine gate_dst (N := 4) rfl ?_); refine Sl.box_st HS.out (by rfl) (cs := #[.int .i64 m, .int .i64 0, .int .i64 code]) (t := 30) ?hr ?_; (case hr => first | (go_simp; done) | (go_simp; rfl)); intro g4 w1_ HSn HBn; clear HBn; replace HS : Hid (St (SL.blk g4 30 #[.int .i64 m, .int .i64 0, .int .i64 code] :: SL.blk g 73 #[.int .i64 m0, .int .i64 s0, .int .i64 u0, .int .i64 id, .string name, .bool may, .slice A n c, .pointer (some ⟨cg, 0, none⟩)] :: cells cg fst now0 q0 :: l) w0 w1_) := Go.Lib.hid HSn; clear HSn; clear c0_0 c0_1 c0_2 c0_3 c0_4 c0_5 c0_6 c0_7; obtain ⟨c0_0, c0_1, c0_2⟩ := HS.out.c3 0 _ _ _ _ _ rfl; obtain ⟨c1_0, c1_1, c1_2, c1_3, c1_4, c1_5, c1_6, c1_7⟩ := HS.out.c8 1 _ _ _ _ _ _ _ _ _ _ rfl) | ((with_reducible refine gate_store (p := 11) rfl ?_); refine Sl.store_st HS.out 1 g 73 _ rfl 0 (.int .i64 m) (by rfl) (by rfl) ?hr ?_; (case hr => have f_ := HS.out.free 1 _ _ _ rfl 0; first | (go_simp; done) | (go_simp; rfl)); intro w2_ HSn; replace HS : Hid (St (SL.blk g4 30 #[.int .i64 m, .int .i64 0, .int .i64 code] :: SL.blk g 73 #[.int .i64 m, .int .i64 s0, .int .i64 u0, .int .i64 id, .string name, .bool may, .slice A n c, .pointer (some ⟨cg, 0, none⟩)] :: cells cg fst now0 q0 :: l) w0 w2_) := Go.Lib.hid HSn; clear HSn; clear c0_0 c0_1 c0_2 c1_0 c1_1 c1_2 c1_3 c1_4 c1_5 c1_6 c1_7; obtain ⟨c0_0, c0_1, c0_2⟩ := HS.out.c3 0 _ _ _ _ _ rfl; obtain ⟨c1_0, c1_1, c1_2, c1_3, c1_4, c1_5, c1_6, c1_7⟩ := HS.out.c8 1 _ _ _ _ _ _ _ _ _ _ rfl))
  have h9 : St (part g id name may fst ⟨m, s0, u0, now0, q0⟩ :: l) w0 w2_ := shut_part HS.out.drop
  have H9 := Go.Lib.hid h9
  clear h9
  refine bodyPost_ret (results_none rfl _ _ _) rfl ⟨rfl, H9.out⟩
set_option maxHeartbeats 800000 in
theorem become_1 (h : St (part g id name may fst s :: l) w0 w) (m code cause : Int) (hs0 : 0 ≤ s.starts) (hs1 : s.starts ≤ 1000000) (hn : fst.length ≤ 1000000) : Calls Try.prog 99 #[.pointer (some ⟨g, 0, none⟩), .agg #[.int .i64 m, .int .i64 1, .int .i64 code], .int .i64 cause] w fun e w' => e = .returned (.tuple #[]) ∧ St (part g id name may fst (s.become fst m 1 cause) :: l) w0 w' := by
  obtain ⟨m0, s0, u0, now0, q0⟩ := s
  obtain ⟨A, n, c, cg, hS⟩ := open_part h
  have HS := Go.Lib.hid hS
  clear hS h
  have hs0' : 0 ≤ s0 := hs0
  have hs1' : s0 ≤ 1000000 := hs1
  clear hs0 hs1
  obtain ⟨c0_0, c0_1, c0_2, c0_3, c0_4, c0_5, c0_6, c0_7⟩ := HS.out.c8 0 _ _ _ _ _ _ _ _ _ _ rfl
  go_enter Try.func99, Try.ntmps99
  go_wp2_with (first | ((with_reducible refine gate_dst (N := 4) rfl ?_); refine Sl.box_st HS.out (by rfl) (cs := #[.int .i64 m, .int .i64 1, .int .i64 code]) (t := 30) ?hr ?_; (case hr => first | (go_simp; done) | (go_simp; rfl)); intro g4 w1_ HSn HBn; clear HBn; replace HS : Hid (St (SL.blk g4 30 #[.int .i64 m, .int .i64 1, .int .i64 code] :: SL.blk g 73 #[.int .i64 m0, .int .i64 s0, .int .i64 u0, .int .i64 id, .string name, .bool may, .slice A n c, .pointer (some ⟨cg, 0, none⟩)] :: cells cg fst now0 q0 :: l) w0 w1_) := Go.Lib.hid HSn; clear HSn; clear c0_0 c0_1 c0_2 c0_3 c0_4 c0_5 c0_6 c0_7; obtain ⟨c0_0, c0_1, c0_2⟩ := HS.out.c3 0 _ _ _ _ _ rfl; obtain ⟨c1_0, c1_1, c1_2, c1_3, c1_4, c1_5, c1_6, c1_7⟩ := HS.out.c8 1 _ _ _ _ _ _ _ _ _ _ rfl) | ((with_reducible refine gate_store (p := 11) rfl ?_); refine Sl.store_st HS.out 1 g 73 _ rfl 0 (.int .i64 m) (by rfl) (by rfl) ?hr ?_; (case hr => have f_ := HS.out.free 1 _ _ _ rfl 0; first | (go_simp; done) | (go_simp; rfl)); intro w2_ HSn; replace HS : Hid (St (SL.blk g4 30 #[.int .i64 m, .int .i64 1, .int .i64 code] :: SL.blk g 73 #[.int .i64 m, .int .i64 s0, .int .i64 u0, .int .i64 id, .string name, .bool may, .slice A n c, .pointer (some ⟨cg, 0, none⟩)] :: cells cg fst now0 q0 :: l) w0 w2_) := Go.Lib.hid HSn; clear HSn; clear c0_0 c0_1 c0_2 c1_0 c1_1 c1_2 c1_3 c1_4 c1_5 c1_6 c1_7; obtain ⟨c0_0, c0_1, c0_2⟩ := HS.out.c3 0 _ _ _ _ _ rfl; obtain ⟨c1_0, c1_1, c1_2, c1_3, c1_4, c1_5, c1_6, c1_7⟩ := HS.out.c8 1 _ _ _ _ _ _ _ _ _ _ rfl) | (go_at_call 27; refine (warm_st HS.out 2 rfl hn).mono ?_; rintro e w3_ ⟨rfl, HSn⟩; replace HS : Hid (St (SL.blk g4 30 #[.int .i64 m, .int .i64 1, .int .i64 code] :: SL.blk g 73 #[.int .i64 m, .int .i64 s0, .int .i64 u0, .int .i64 id, .string name, .bool may, .slice A n c, .pointer (some ⟨cg, 0, none⟩)] :: cells cg fst (back false fst now0 fst.length) q0 :: l) w0 w3_) := Go.Lib.hid HSn; clear HSn; clear c0_0 c0_1 c0_2 c1_0 c1_1 c1_2 c1_3 c1_4 c1_5 c1_6 c1_7; obtain ⟨c0_0, c0_1, c0_2⟩ := HS.out.c3 0 _ _ _ _ _ rfl; obtain ⟨c1_0, c1_1, c1_2, c1_3, c1_4, c1_5, c1_6, c1_7⟩ := HS.out.c8 1 _ _ _ _ _ _ _ _ _ _ rfl) | ((with_reducible refine gate_store (p := 38) rfl ?_); refine Sl.store_st HS.out 1 g 73 _ rfl 1 (.int .i64 (s0 + 1)) (by rfl) (by rfl) ?hr ?_; (case hr => have f_ := HS.out.free 1 _ _ _ rfl 1; first | (go_simp; done) | (go_simp; rfl)); intro w4_ HSn; replace HS : Hid (St (SL.blk g4 30 #[.int .i64 m, .int .i64 1, .int .i64 code] :: SL.blk g 73 #[.int .i64 m, .int .i64 (s0 + 1), .int .i64 u0, .int .i64 id, .string name, .bool may, .slice A n c, .pointer (some ⟨cg, 0, none⟩)] :: cells cg fst (back false fst now0 fst.length) q0 :: l) w0 w4_) := Go.Lib.hid HSn; clear HSn; clear c0_0 c0_1 c0_2 c1_0 c1_1 c1_2 c1_3 c1_4 c1_5 c1_6 c1_7; obtain ⟨c0_0, c0_1, c0_2⟩ := HS.out.c3 0 _ _ _ _ _ rfl; obtain ⟨c1_0, c1_1, c1_2, c1_3, c1_4, c1_5, c1_6, c1_7⟩ := HS.out.c8 1 _ _ _ _ _ _ _ _ _ _ rfl) | ((with_reducible refine gate_store (p := 43) rfl ?_); refine Sl.store_st HS.out 1 g 73 _ rfl 2 (.int .i64 cause) (by rfl) (by rfl) ?hr ?_; (case hr => have f_ := HS.out.free 1 _ _ _ rfl 2; first | (go_simp; done) | (go_simp; rfl)); intro w5_ HSn; replace HS : Hid (St (SL.blk g4 30 #[.int .i64 m, .int .i64 1, .int .i64 code] :: SL.blk g 73 #[.int .i64 m, .int .i64 (s0 + 1), .int .i64 cause, .int .i64 id, .string name, .bool may, .slice A n c, .pointer (some ⟨cg, 0, none⟩)] :: cells cg fst (back false fst now0 fst.length) q0 :: l) w0 w5_) := Go.Lib.hid HSn; clear HSn; clear c0_0 c0_1 c0_2 c1_0 c1_1 c1_2 c1_3 c1_4 c1_5 c1_6 c1_7; obtain ⟨c0_0, c0_1, c0_2⟩ := HS.out.c3 0 _ _ _ _ _ rfl; obtain ⟨c1_0, c1_1, c1_2, c1_3, c1_4, c1_5, c1_6, c1_7⟩ := HS.out.c8 1 _ _ _ _ _ _ _ _ _ _ rfl))
  have h9 : St (part g id name may fst ⟨m, s0 + 1, cause, back false fst now0 fst.length, q0⟩ :: l) w0 w5_ := shut_part HS.out.drop
  have H9 := Go.Lib.hid h9
  clear h9
  go_end0; exact ⟨rfl, H9.out⟩
set_option maxHeartbeats 800000 in
theorem become_2 (h : St (part g id name may fst s :: l) w0 w) (m code cause : Int) (hs0 : 0 ≤ s.starts) (hs1 : s.starts ≤ 1000000) (hn : fst.length ≤ 1000000) : Calls Try.prog 99 #[.pointer (some ⟨g, 0, none⟩), .agg #[.int .i64 m, .int .i64 2, .int .i64 code], .int .i64 cause] w fun e w' => e = .returned (.tuple #[]) ∧ St (part g id name may fst (s.become fst m 2 cause) :: l) w0 w' := by
  obtain ⟨m0, s0, u0, now0, q0⟩ := s
  obtain ⟨A, n, c, cg, hS⟩ := open_part h
  have HS := Go.Lib.hid hS
  clear hS h
  have hs0' : 0 ≤ s0 := hs0
  have hs1' : s0 ≤ 1000000 := hs1
  clear hs0 hs1
  obtain ⟨c0_0, c0_1, c0_2, c0_3, c0_4, c0_5, c0_6, c0_7⟩ := HS.out.c8 0 _ _ _ _ _ _ _ _ _ _ rfl
  go_enter Try.func99, Try.ntmps99
  go_wp2_with (first | ((with_reducible refine gate_dst (N := 4) rfl ?_); refine Sl.box_st HS.out (by rfl) (cs := #[.int .i64 m, .int .i64 2, .int .i64 code]) (t := 30) ?hr ?_; (case hr => first | (go_simp; done) | (go_simp; rfl)); intro g4 w1_ HSn HBn; clear HBn; replace HS : Hid (St (SL.blk g4 30 #[.int .i64 m, .int .i64 2, .int .i64 code] :: SL.blk g 73 #[.int .i64 m0, .int .i64 s0, .int .i64 u0, .int .i64 id, .string name, .bool may, .slice A n c, .pointer (some ⟨cg, 0, none⟩)] :: cells cg fst now0 q0 :: l) w0 w1_) := Go.Lib.hid HSn; clear HSn; clear c0_0 c0_1 c0_2 c0_3 c0_4 c0_5 c0_6 c0_7; obtain ⟨c0_0, c0_1, c0_2⟩ := HS.out.c3 0 _ _ _ _ _ rfl; obtain ⟨c1_0, c1_1, c1_2, c1_3, c1_4, c1_5, c1_6, c1_7⟩ := HS.out.c8 1 _ _ _ _ _ _ _ _ _ _ rfl) | ((with_reducible refine gate_store (p := 11) rfl ?_); refine Sl.store_st HS.out 1 g 73 _ rfl 0 (.int .i64 m) (by rfl) (by rfl) ?hr ?_; (case hr => have f_ := HS.out.free 1 _ _ _ rfl 0; first | (go_simp; done) | (go_simp; rfl)); intro w2_ HSn; replace HS : Hid (St (SL.blk g4 30 #[.int .i64 m, .int .i64 2, .int .i64 code] :: SL.blk g 73 #[.int .i64 m, .int .i64 s0, .int .i64 u0, .int .i64 id, .string name, .bool may, .slice A n c, .pointer (some ⟨cg, 0, none⟩)] :: cells cg fst now0 q0 :: l) w0 w2_) := Go.Lib.hid HSn; clear HSn; clear c0_0 c0_1 c0_2 c1_0 c1_1 c1_2 c1_3 c1_4 c1_5 c1_6 c1_7; obtain ⟨c0_0, c0_1, c0_2⟩ := HS.out.c3 0 _ _ _ _ _ rfl; obtain ⟨c1_0, c1_1, c1_2, c1_3, c1_4, c1_5, c1_6, c1_7⟩ := HS.out.c8 1 _ _ _ _ _ _ _ _ _ _ rfl) | (go_at_call 28; refine (cold_st HS.out 2 rfl hn).mono ?_; rintro e w3_ ⟨rfl, HSn⟩; replace HS : Hid (St (SL.blk g4 30 #[.int .i64 m, .int .i64 2, .int .i64 code] :: SL.blk g 73 #[.int .i64 m, .int .i64 s0, .int .i64 u0, .int .i64 id, .string name, .bool may, .slice A n c, .pointer (some ⟨cg, 0, none⟩)] :: cells cg fst (fst.map (·.f0)) 0 :: l) w0 w3_) := Go.Lib.hid HSn; clear HSn; clear c0_0 c0_1 c0_2 c1_0 c1_1 c1_2 c1_3 c1_4 c1_5 c1_6 c1_7; obtain ⟨c0_0, c0_1, c0_2⟩ := HS.out.c3 0 _ _ _ _ _ rfl; obtain ⟨c1_0, c1_1, c1_2, c1_3, c1_4, c1_5, c1_6, c1_7⟩ := HS.out.c8 1 _ _ _ _ _ _ _ _ _ _ rfl) | ((with_reducible refine gate_store (p := 38) rfl ?_); refine Sl.store_st HS.out 1 g 73 _ rfl 1 (.int .i64 (s0 + 1)) (by rfl) (by rfl) ?hr ?_; (case hr => have f_ := HS.out.free 1 _ _ _ rfl 1; first | (go_simp; done) | (go_simp; rfl)); intro w4_ HSn; replace HS : Hid (St (SL.blk g4 30 #[.int .i64 m, .int .i64 2, .int .i64 code] :: SL.blk g 73 #[.int .i64 m, .int .i64 (s0 + 1), .int .i64 u0, .int .i64 id, .string name, .bool may, .slice A n c, .pointer (some ⟨cg, 0, none⟩)] :: cells cg fst (fst.map (·.f0)) 0 :: l) w0 w4_) := Go.Lib.hid HSn; clear HSn; clear c0_0 c0_1 c0_2 c1_0 c1_1 c1_2 c1_3 c1_4 c1_5 c1_6 c1_7; obtain ⟨c0_0, c0_1, c0_2⟩ := HS.out.c3 0 _ _ _ _ _ rfl; obtain ⟨c1_0, c1_1, c1_2, c1_3, c1_4, c1_5, c1_6, c1_7⟩ := HS.out.c8 1 _ _ _ _ _ _ _ _ _ _ rfl) | ((with_reducible refine gate_store (p := 43) rfl ?_); refine Sl.store_st HS.out 1 g 73 _ rfl 2 (.int .i64 cause) (by rfl) (by rfl) ?hr ?_; (case hr => have f_ := HS.out.free 1 _ _ _ rfl 2; first | (go_simp; done) | (go_simp; rfl)); intro w5_ HSn; replace HS : Hid (St (SL.blk g4 30 #[.int .i64 m, .int .i64 2, .int .i64 code] :: SL.blk g 73 #[.int .i64 m, .int .i64 (s0 + 1), .int .i64 cause, .int .i64 id, .string name, .bool may, .slice A n c, .pointer (some ⟨cg, 0, none⟩)] :: cells cg fst (fst.map (·.f0)) 0 :: l) w0 w5_) := Go.Lib.hid HSn; clear HSn; clear c0_0 c0_1 c0_2 c1_0 c1_1 c1_2 c1_3 c1_4 c1_5 c1_6 c1_7; obtain ⟨c0_0, c0_1, c0_2⟩ := HS.out.c3 0 _ _ _ _ _ rfl; obtain ⟨c1_0, c1_1, c1_2, c1_3, c1_4, c1_5, c1_6, c1_7⟩ := HS.out.c8 1 _ _ _ _ _ _ _ _ _ _ rfl))
  have h9 : St (part g id name may fst ⟨m, s0 + 1, cause, fst.map (·.f0), 0⟩ :: l) w0 w5_ := shut_part HS.out.drop
  have H9 := Go.Lib.hid h9
  clear h9
  go_end0; exact ⟨rfl, H9.out⟩
theorem become_hd (h : St (part g id name may fst s :: l) w0 w) (m st code cause : Int) (hst : st = 0 ∨ st = 1 ∨ st = 2) (hs0 : 0 ≤ s.starts) (hs1 : s.starts ≤ 1000000) (hn : fst.length ≤ 1000000) : Calls Try.prog 99 #[.pointer (some ⟨g, 0, none⟩), .agg #[.int .i64 m, .int .i64 st, .int .i64 code], .int .i64 cause] w fun e w' => e = .returned (.tuple #[]) ∧ St (part g id name may fst (s.become fst m st cause) :: l) w0 w' := by
  rcases hst with rfl | rfl | rfl
  · exact become_0 h m code cause hs0 hs1 hn
  · exact become_1 h m code cause hs0 hs1 hn
  · exact become_2 h m code cause hs0 hs1 hn
theorem become_at (h : St l w0 w) (k : Nat) (e : l[k]? = some (part g id name may fst s)) (m st code cause : Int) (hst : st = 0 ∨ st = 1 ∨ st = 2) (hs0 : 0 ≤ s.starts) (hs1 : s.starts ≤ 1000000) (hn : fst.length ≤ 1000000) : Calls Try.prog 99 #[.pointer (some ⟨g, 0, none⟩), .agg #[.int .i64 m, .int .i64 st, .int .i64 code], .int .i64 cause] w fun e w' => e = .returned (.tuple #[]) ∧ St (l.set k (part g id name may fst (s.become fst m st cause))) w0 w' :=
  (become_hd (h.front k _ e) m st code cause hst hs0 hs1 hn).mono fun _ _ ⟨he, hS⟩ => ⟨he, St.back k (List.getElem?_eq_some_iff.1 e).1 hS⟩
end Go.Proofs.Ytkmhgolohppliaa.Prt

/-! A partition in memory: SetMode, Act, Read, Write, Shot, Copy, New. -/
namespace Go.Proofs.Ytkmhgolohppliaa.Prt
open Go.RowKit Go.Proofs.Ytkmhgolohppliaa.PCellsPlays Go.Proofs.YtkmhgolohppliaaW.PrintWords Go.Proofs.YtkmhgolohppliaaW.PrintLast Go.Proofs.YtkmhgolohppliaaW.PrintMore Go.Proofs.Ytkmhgolohppliaa.Mine Go.Proofs.Ytkmhgolohppliaa.Cel Go.Proofs.Ytkmhgolohppliaa.Cls
open Go.Proofs.Ytkmhgolohppliaa.Sl (SL Stp St No)
open Go.Proofs.Ytkmhgolohppliaa.Mod (strt actM runs right askd)
set_option linter.unusedVariables false
set_option linter.unusedSimpArgs false
attribute [local go_sem] max2_int min2_int max_two min_two max_three min_three max_four min_four
variable {l : List SL} {w0 w : World} {g : Nat} {id : Int} {name : ByteArray} {may : Bool} {fst : List S43} {s : PS}
set_option maxHeartbeats 800000 in
theorem setMode_no (h : St (part g id name may fst s :: l) w0 w) (want c1 c2 c3 : Int) (hm : ∀ (l : List SL) (w : World), St l w0 w → Calls Try.prog 19 #[.int .i64 s.mode, .int .i64 want] w fun e w' => e = .returned (.agg #[.int .i64 c1, .int .i64 c2, .int .i64 c3]) ∧ St l w0 w') (hst : c2 = 0 ∨ c2 = 1 ∨ c2 = 2) (hc : (c3 == 0) = false) (hs0 : 0 ≤ s.starts) (hs1 : s.starts ≤ 1000000) (hn : fst.length ≤ 1000000) :
    Calls Try.prog 40 #[.pointer (some ⟨g, 0, none⟩), .int .i64 want] w fun e w' => e = .returned (.int .i64 c3) ∧ St (part g id name may fst (s) :: l) w0 w' := by
  obtain ⟨m0, s0, u0, now0, q0⟩ := s
  obtain ⟨A, n, c, cg, hS⟩ := open_part h
  have HS := Go.Lib.hid hS
  clear hS h
  have hs0' : 0 ≤ s0 := hs0
  have hs1' : s0 ≤ 1000000 := hs1
  clear hs0 hs1
  have HM := Go.Lib.hid hm
  clear hm
  obtain ⟨c0_0, c0_1, c0_2, c0_3, c0_4, c0_5, c0_6, c0_7⟩ := HS.out.c8 0 _ _ _ _ _ _ _ _ _ _ rfl
  go_enter Try.func40, Try.ntmps40
  go_wp2_with (first | (go_at_call 19; refine (HM.out _ _ HS.out).mono ?_; rintro e w1_ ⟨rfl, HSn⟩; replace HS : Hid (St (SL.blk g 73 #[.int .i64 m0, .int .i64 s0, .int .i64 u0, .int .i64 id, .string name, .bool may, .slice A n c, .pointer (some ⟨cg, 0, none⟩)] :: cells cg fst now0 q0 :: l) w0 w1_) := Go.Lib.hid HSn; clear HSn; clear c0_0 c0_1 c0_2 c0_3 c0_4 c0_5 c0_6 c0_7; obtain ⟨c0_0, c0_1, c0_2, c0_3, c0_4, c0_5, c0_6, c0_7⟩ := HS.out.c8 0 _ _ _ _ _ _ _ _ _ _ rfl) | ((with_reducible refine gate_dst (N := 5) rfl ?_); refine Sl.box_st HS.out (by rfl) (cs := #[.int .i64 0, .int .i64 0, .int .i64 0]) (t := 30) ?hr ?_; (case hr => first | (go_simp; done) | (go_simp; rfl)); intro g5 w2_ HSn HBn; clear HBn; replace HS : Hid (St (SL.blk g5 30 #[.int .i64 0, .int .i64 0, .int .i64 0] :: SL.blk g 73 #[.int .i64 m0, .int .i64 s0, .int .i64 u0, .int .i64 id, .string name, .bool may, .slice A n c, .pointer (some ⟨cg, 0, none⟩)] :: cells cg fst now0 q0 :: l) w0 w2_) := Go.Lib.hid HSn; clear HSn; clear c0_0 c0_1 c0_2 c0_3 c0_4 c0_5 c0_6 c0_7; obtain ⟨c0_0, c0_1, c0_2⟩ := HS.out.c3 0 _ _ _ _ _ rfl; obtain ⟨c1_0, c1_1, c1_2, c1_3, c1_4, c1_5, c1_6, c1_7⟩ := HS.out.c8 1 _ _ _ _ _ _ _ _ _ _ rfl) | ((with_reducible refine gate_store (p := 5) rfl ?_); refine Sl.storeAll_st HS.out 0 g5 30 _ rfl [.int .i64 c1, .int .i64 c2, .int .i64 c3] rfl (by rfl) (by rfl) ?hr ?_; (case hr => have f_ := HS.out.f3 0 _ _ _ _ _ rfl; (try obtain ⟨f0, f1, f2⟩ := f_); first | (go_simp; done) | (go_simp; rfl)); intro w3_ HSn; replace HS : Hid (St (SL.blk g5 30 #[.int .i64 c1, .int .i64 c2, .int .i64 c3] :: SL.blk g 73 #[.int .i64 m0, .int .i64 s0, .int .i64 u0, .int .i64 id, .string name, .bool may, .slice A n c, .pointer (some ⟨cg, 0, none⟩)] :: cells cg fst now0 q0 :: l) w0 w3_) := Go.Lib.hid HSn; clear HSn; clear c0_0 c0_1 c0_2 c1_0 c1_1 c1_2 c1_3 c1_4 c1_5 c1_6 c1_7; obtain ⟨c0_0, c0_1, c0_2⟩ := HS.out.c3 0 _ _ _ _ _ rfl; obtain ⟨c1_0, c1_1, c1_2, c1_3, c1_4, c1_5, c1_6, c1_7⟩ := HS.out.c8 1 _ _ _ _ _ _ _ _ _ _ rfl))
  go_ret
  exact ⟨rfl, shut_part (HS.out.drop)⟩
set_option maxHeartbeats 800000 in
theorem setMode_yes (h : St (part g id name may fst s :: l) w0 w) (want c1 c2 c3 : Int) (hm : ∀ (l : List SL) (w : World), St l w0 w → Calls Try.prog 19 #[.int .i64 s.mode, .int .i64 want] w fun e w' => e = .returned (.agg #[.int .i64 c1, .int .i64 c2, .int .i64 c3]) ∧ St l w0 w') (hst : c2 = 0 ∨ c2 = 1 ∨ c2 = 2) (hc : (c3 == 0) = true) (hs0 : 0 ≤ s.starts) (hs1 : s.starts ≤ 1000000) (hn : fst.length ≤ 1000000) :
    Calls Try.prog 40 #[.pointer (some ⟨g, 0, none⟩), .int .i64 want] w fun e w' => e = .returned (.int .i64 c3) ∧ St (part g id name may fst (PS.become fst s c1 c2 1) :: l) w0 w' := by
  obtain ⟨m0, s0, u0, now0, q0⟩ := s
  obtain ⟨A, n, c, cg, hS⟩ := open_part h
  have HS := Go.Lib.hid hS
  clear hS h
  have hs0' : 0 ≤ s0 := hs0
  have hs1' : s0 ≤ 1000000 := hs1
  clear hs0 hs1
  have HM := Go.Lib.hid hm
  clear hm
  obtain ⟨c0_0, c0_1, c0_2, c0_3, c0_4, c0_5, c0_6, c0_7⟩ := HS.out.c8 0 _ _ _ _ _ _ _ _ _ _ rfl
  go_enter Try.func40, Try.ntmps40
  go_wp2_with (first | (go_at_call 19; refine (HM.out _ _ HS.out).mono ?_; rintro e w1_ ⟨rfl, HSn⟩; replace HS : Hid (St (SL.blk g 73 #[.int .i64 m0, .int .i64 s0, .int .i64 u0, .int .i64 id, .string name, .bool may, .slice A n c, .pointer (some ⟨cg, 0, none⟩)] :: cells cg fst now0 q0 :: l) w0 w1_) := Go.Lib.hid HSn; clear HSn; clear c0_0 c0_1 c0_2 c0_3 c0_4 c0_5 c0_6 c0_7; obtain ⟨c0_0, c0_1, c0_2, c0_3, c0_4, c0_5, c0_6, c0_7⟩ := HS.out.c8 0 _ _ _ _ _ _ _ _ _ _ rfl) | ((with_reducible refine gate_dst (N := 5) rfl ?_); refine Sl.box_st HS.out (by rfl) (cs := #[.int .i64 0, .int .i64 0, .int .i64 0]) (t := 30) ?hr ?_; (case hr => first | (go_simp; done) | (go_simp; rfl)); intro g5 w2_ HSn HBn; clear HBn; replace HS : Hid (St (SL.blk g5 30 #[.int .i64 0, .int .i64 0, .int .i64 0] :: SL.blk g 73 #[.int .i64 m0, .int .i64 s0, .int .i64 u0, .int .i64 id, .string name, .bool may, .slice A n c, .pointer (some ⟨cg, 0, none⟩)] :: cells cg fst now0 q0 :: l) w0 w2_) := Go.Lib.hid HSn; clear HSn; clear c0_0 c0_1 c0_2 c0_3 c0_4 c0_5 c0_6 c0_7; obtain ⟨c0_0, c0_1, c0_2⟩ := HS.out.c3 0 _ _ _ _ _ rfl; obtain ⟨c1_0, c1_1, c1_2, c1_3, c1_4, c1_5, c1_6, c1_7⟩ := HS.out.c8 1 _ _ _ _ _ _ _ _ _ _ rfl) | ((with_reducible refine gate_store (p := 5) rfl ?_); refine Sl.storeAll_st HS.out 0 g5 30 _ rfl [.int .i64 c1, .int .i64 c2, .int .i64 c3] rfl (by rfl) (by rfl) ?hr ?_; (case hr => have f_ := HS.out.f3 0 _ _ _ _ _ rfl; (try obtain ⟨f0, f1, f2⟩ := f_); first | (go_simp; done) | (go_simp; rfl)); intro w3_ HSn; replace HS : Hid (St (SL.blk g5 30 #[.int .i64 c1, .int .i64 c2, .int .i64 c3] :: SL.blk g 73 #[.int .i64 m0, .int .i64 s0, .int .i64 u0, .int .i64 id, .string name, .bool may, .slice A n c, .pointer (some ⟨cg, 0, none⟩)] :: cells cg fst now0 q0 :: l) w0 w3_) := Go.Lib.hid HSn; clear HSn; clear c0_0 c0_1 c0_2 c1_0 c1_1 c1_2 c1_3 c1_4 c1_5 c1_6 c1_7; obtain ⟨c0_0, c0_1, c0_2⟩ := HS.out.c3 0 _ _ _ _ _ rfl; obtain ⟨c1_0, c1_1, c1_2, c1_3, c1_4, c1_5, c1_6, c1_7⟩ := HS.out.c8 1 _ _ _ _ _ _ _ _ _ _ rfl) | (go_at_call 99; refine (become_hd (s := ⟨m0, s0, u0, now0, q0⟩) (shut_part (HS.out.down)) c1 c2 c3 1 hst hs0' hs1' hn).mono ?_; rintro e w4_ ⟨rfl, HSm⟩; have HSn := St.swap HSm; replace HS : Hid (St (SL.blk g5 30 #[.int .i64 c1, .int .i64 c2, .int .i64 c3] :: part g id name may fst (PS.become fst ⟨m0, s0, u0, now0, q0⟩ c1 c2 1) :: l) w0 w4_) := Go.Lib.hid HSn; clear HSn HSm; clear c0_0 c0_1 c0_2 c1_0 c1_1 c1_2 c1_3 c1_4 c1_5 c1_6 c1_7; obtain ⟨c0_0, c0_1, c0_2⟩ := HS.out.c3 0 _ _ _ _ _ rfl))
  go_ret
  exact ⟨rfl, HS.out.drop⟩
set_option maxHeartbeats 800000 in
theorem act_no (h : St (part g id name may fst s :: l) w0 w) (want c1 c2 c3 : Int) (hm : ∀ (l : List SL) (w : World), St l w0 w → Calls Try.prog 20 #[.int .i64 s.mode, .int .i64 want] w fun e w' => e = .returned (.agg #[.int .i64 c1, .int .i64 c2, .int .i64 c3]) ∧ St l w0 w') (hst : c2 = 0 ∨ c2 = 1 ∨ c2 = 2) (hc : (c2 == 0) = true) (hs0 : 0 ≤ s.starts) (hs1 : s.starts ≤ 1000000) (hn : fst.length ≤ 1000000) :
    Calls Try.prog 41 #[.pointer (some ⟨g, 0, none⟩), .int .i64 want] w fun e w' => e = .returned (.bool false) ∧ St (part g id name may fst (s) :: l) w0 w' := by
  obtain ⟨m0, s0, u0, now0, q0⟩ := s
  obtain ⟨A, n, c, cg, hS⟩ := open_part h
  have HS := Go.Lib.hid hS
  clear hS h
  have hs0' : 0 ≤ s0 := hs0
  have hs1' : s0 ≤ 1000000 := hs1
  clear hs0 hs1
  have HM := Go.Lib.hid hm
  clear hm
  obtain ⟨c0_0, c0_1, c0_2, c0_3, c0_4, c0_5, c0_6, c0_7⟩ := HS.out.c8 0 _ _ _ _ _ _ _ _ _ _ rfl
  go_enter Try.func41, Try.ntmps41
  go_wp2_with (first | (go_at_call 20; refine (HM.out _ _ HS.out).mono ?_; rintro e w1_ ⟨rfl, HSn⟩; replace HS : Hid (St (SL.blk g 73 #[.int .i64 m0, .int .i64 s0, .int .i64 u0, .int .i64 id, .string name, .bool may, .slice A n c, .pointer (some ⟨cg, 0, none⟩)] :: cells cg fst now0 q0 :: l) w0 w1_) := Go.Lib.hid HSn; clear HSn; clear c0_0 c0_1 c0_2 c0_3 c0_4 c0_5 c0_6 c0_7; obtain ⟨c0_0, c0_1, c0_2, c0_3, c0_4, c0_5, c0_6, c0_7⟩ := HS.out.c8 0 _ _ _ _ _ _ _ _ _ _ rfl) | ((with_reducible refine gate_dst (N := 5) rfl ?_); refine Sl.box_st HS.out (by rfl) (cs := #[.int .i64 0, .int .i64 0, .int .i64 0]) (t := 30) ?hr ?_; (case hr => first | (go_simp; done) | (go_simp; rfl)); intro g5 w2_ HSn HBn; clear HBn; replace HS : Hid (St (SL.blk g5 30 #[.int .i64 0, .int .i64 0, .int .i64 0] :: SL.blk g 73 #[.int .i64 m0, .int .i64 s0, .int .i64 u0, .int .i64 id, .string name, .bool may, .slice A n c, .pointer (some ⟨cg, 0, none⟩)] :: cells cg fst now0 q0 :: l) w0 w2_) := Go.Lib.hid HSn; clear HSn; clear c0_0 c0_1 c0_2 c0_3 c0_4 c0_5 c0_6 c0_7; obtain ⟨c0_0, c0_1, c0_2⟩ := HS.out.c3 0 _ _ _ _ _ rfl; obtain ⟨c1_0, c1_1, c1_2, c1_3, c1_4, c1_5, c1_6, c1_7⟩ := HS.out.c8 1 _ _ _ _ _ _ _ _ _ _ rfl) | ((with_reducible refine gate_store (p := 5) rfl ?_); refine Sl.storeAll_st HS.out 0 g5 30 _ rfl [.int .i64 c1, .int .i64 c2, .int .i64 c3] rfl (by rfl) (by rfl) ?hr ?_; (case hr => have f_ := HS.out.f3 0 _ _ _ _ _ rfl; (try obtain ⟨f0, f1, f2⟩ := f_); first | (go_simp; done) | (go_simp; rfl)); intro w3_ HSn; replace HS : Hid (St (SL.blk g5 30 #[.int .i64 c1, .int .i64 c2, .int .i64 c3] :: SL.blk g 73 #[.int .i64 m0, .int .i64 s0, .int .i64 u0, .int .i64 id, .string name, .bool may, .slice A n c, .pointer (some ⟨cg, 0, none⟩)] :: cells cg fst now0 q0 :: l) w0 w3_) := Go.Lib.hid HSn; clear HSn; clear c0_0 c0_1 c0_2 c1_0 c1_1 c1_2 c1_3 c1_4 c1_5 c1_6 c1_7; obtain ⟨c0_0, c0_1, c0_2⟩ := HS.out.c3 0 _ _ _ _ _ rfl; obtain ⟨c1_0, c1_1, c1_2, c1_3, c1_4, c1_5, c1_6, c1_7⟩ := HS.out.c8 1 _ _ _ _ _ _ _ _ _ _ rfl))
  go_ret
  exact ⟨rfl, shut_part (HS.out.drop)⟩
set_option maxHeartbeats 800000 in
theorem act_yes (h : St (part g id name may fst s :: l) w0 w) (want c1 c2 c3 : Int) (hm : ∀ (l : List SL) (w : World), St l w0 w → Calls Try.prog 20 #[.int .i64 s.mode, .int .i64 want] w fun e w' => e = .returned (.agg #[.int .i64 c1, .int .i64 c2, .int .i64 c3]) ∧ St l w0 w') (hst : c2 = 0 ∨ c2 = 1 ∨ c2 = 2) (hc : (c2 == 0) = false) (hs0 : 0 ≤ s.starts) (hs1 : s.starts ≤ 1000000) (hn : fst.length ≤ 1000000) :
    Calls Try.prog 41 #[.pointer (some ⟨g, 0, none⟩), .int .i64 want] w fun e w' => e = .returned (.bool true) ∧ St (part g id name may fst (PS.become fst s c1 c2 2) :: l) w0 w' := by
  obtain ⟨m0, s0, u0, now0, q0⟩ := s
  obtain ⟨A, n, c, cg, hS⟩ := open_part h
  have HS := Go.Lib.hid hS
  clear hS h
  have hs0' : 0 ≤ s0 := hs0
  have hs1' : s0 ≤ 1000000 := hs1
  clear hs0 hs1
  have HM := Go.Lib.hid hm
  clear hm
  obtain ⟨c0_0, c0_1, c0_2, c0_3, c0_4, c0_5, c0_6, c0_7⟩ := HS.out.c8 0 _ _ _ _ _ _ _ _ _ _ rfl
  go_enter Try.func41, Try.ntmps41
  go_wp2_with (first | (go_at_call 20; refine (HM.out _ _ HS.out).mono ?_; rintro e w1_ ⟨rfl, HSn⟩; replace HS : Hid (St (SL.blk g 73 #[.int .i64 m0, .int .i64 s0, .int .i64 u0, .int .i64 id, .string name, .bool may, .slice A n c, .pointer (some ⟨cg, 0, none⟩)] :: cells cg fst now0 q0 :: l) w0 w1_) := Go.Lib.hid HSn; clear HSn; clear c0_0 c0_1 c0_2 c0_3 c0_4 c0_5 c0_6 c0_7; obtain ⟨c0_0, c0_1, c0_2, c0_3, c0_4, c0_5, c0_6, c0_7⟩ := HS.out.c8 0 _ _ _ _ _ _ _ _ _ _ rfl) | ((with_reducible refine gate_dst (N := 5) rfl ?_); refine Sl.box_st HS.out (by rfl) (cs := #[.int .i64 0, .int .i64 0, .int .i64 0]) (t := 30) ?hr ?_; (case hr => first | (go_simp; done) | (go_simp; rfl)); intro g5 w2_ HSn HBn; clear HBn; replace HS : Hid (St (SL.blk g5 30 #[.int .i64 0, .int .i64 0, .int .i64 0] :: SL.blk g 73 #[.int .i64 m0, .int .i64 s0, .int .i64 u0, .int .i64 id, .string name, .bool may, .slice A n c, .pointer (some ⟨cg, 0, none⟩)] :: cells cg fst now0 q0 :: l) w0 w2_) := Go.Lib.hid HSn; clear HSn; clear c0_0 c0_1 c0_2 c0_3 c0_4 c0_5 c0_6 c0_7; obtain ⟨c0_0, c0_1, c0_2⟩ := HS.out.c3 0 _ _ _ _ _ rfl; obtain ⟨c1_0, c1_1, c1_2, c1_3, c1_4, c1_5, c1_6, c1_7⟩ := HS.out.c8 1 _ _ _ _ _ _ _ _ _ _ rfl) | ((with_reducible refine gate_store (p := 5) rfl ?_); refine Sl.storeAll_st HS.out 0 g5 30 _ rfl [.int .i64 c1, .int .i64 c2, .int .i64 c3] rfl (by rfl) (by rfl) ?hr ?_; (case hr => have f_ := HS.out.f3 0 _ _ _ _ _ rfl; (try obtain ⟨f0, f1, f2⟩ := f_); first | (go_simp; done) | (go_simp; rfl)); intro w3_ HSn; replace HS : Hid (St (SL.blk g5 30 #[.int .i64 c1, .int .i64 c2, .int .i64 c3] :: SL.blk g 73 #[.int .i64 m0, .int .i64 s0, .int .i64 u0, .int .i64 id, .string name, .bool may, .slice A n c, .pointer (some ⟨cg, 0, none⟩)] :: cells cg fst now0 q0 :: l) w0 w3_) := Go.Lib.hid HSn; clear HSn; clear c0_0 c0_1 c0_2 c1_0 c1_1 c1_2 c1_3 c1_4 c1_5 c1_6 c1_7; obtain ⟨c0_0, c0_1, c0_2⟩ := HS.out.c3 0 _ _ _ _ _ rfl; obtain ⟨c1_0, c1_1, c1_2, c1_3, c1_4, c1_5, c1_6, c1_7⟩ := HS.out.c8 1 _ _ _ _ _ _ _ _ _ _ rfl) | (go_at_call 99; refine (become_hd (s := ⟨m0, s0, u0, now0, q0⟩) (shut_part (HS.out.down)) c1 c2 c3 2 hst hs0' hs1' hn).mono ?_; rintro e w4_ ⟨rfl, HSm⟩; have HSn := St.swap HSm; replace HS : Hid (St (SL.blk g5 30 #[.int .i64 c1, .int .i64 c2, .int .i64 c3] :: part g id name may fst (PS.become fst ⟨m0, s0, u0, now0, q0⟩ c1 c2 2) :: l) w0 w4_) := Go.Lib.hid HSn; clear HSn HSm; clear c0_0 c0_1 c0_2 c1_0 c1_1 c1_2 c1_3 c1_4 c1_5 c1_6 c1_7; obtain ⟨c0_0, c0_1, c0_2⟩ := HS.out.c3 0 _ _ _ _ _ rfl))
  go_ret
  exact ⟨rfl, HS.out.drop⟩
theorem setMode_hd (h : St (part g id name may fst s :: l) w0 w) (want : Int) (hs0 : 0 ≤ s.starts) (hs1 : s.starts ≤ 1000000) (hn : fst.length ≤ 1000000) :
    Calls Try.prog 40 #[.pointer (some ⟨g, 0, none⟩), .int .i64 want] w fun e w' => e = .returned (.int .i64 (mset s.mode want).2.2) ∧ St (part g id name may fst (s.setMode fst want) :: l) w0 w' := by
  unfold PS.setMode
  by_cases hc : (mset s.mode want).2.2 = 0
  · rw [if_pos hc]
    exact setMode_yes h want _ _ _ (fun l w hS => mset_st hS s.mode want) (mset_start _ _) (beq_iff_eq.2 hc) hs0 hs1 hn
  · rw [if_neg hc]
    exact setMode_no h want _ _ _ (fun l w hS => mset_st hS s.mode want) (mset_start _ _) (beq_eq_false_iff_ne.2 hc) hs0 hs1 hn
theorem act_hd (h : St (part g id name may fst s :: l) w0 w) (want : Int) (hs0 : 0 ≤ s.starts) (hs1 : s.starts ≤ 1000000) (hn : fst.length ≤ 1000000) :
    Calls Try.prog 41 #[.pointer (some ⟨g, 0, none⟩), .int .i64 want] w fun e w' => e = .returned (.bool (!decide ((actM s.mode want).2.1 = 0))) ∧ St (part g id name may fst (s.act fst want) :: l) w0 w' := by
  unfold PS.act
  by_cases hc : (actM s.mode want).2.1 = 0
  · rw [if_pos hc, decide_eq_true hc]
    exact act_no h want _ _ _ (fun l w hS => mact_st hS s.mode want) (act_start _ _) (beq_iff_eq.2 hc) hs0 hs1 hn
  · rw [if_neg hc, decide_eq_false hc]
    exact act_yes h want _ _ _ (fun l w hS => mact_st hS s.mode want) (act_start _ _) (beq_eq_false_iff_ne.2 hc) hs0 hs1 hn
theorem setMode_at (h : St l w0 w) (k : Nat) (e : l[k]? = some (part g id name may fst s)) (want : Int) (hs0 : 0 ≤ s.starts) (hs1 : s.starts ≤ 1000000) (hn : fst.length ≤ 1000000) : Calls Try.prog 40 #[.pointer (some ⟨g, 0, none⟩), .int .i64 want] w fun e w' => e = .returned (.int .i64 (mset s.mode want).2.2) ∧ St (l.set k (part g id name may fst (s.setMode fst want))) w0 w' :=
  (setMode_hd (h.front k _ e) want hs0 hs1 hn).mono fun _ _ ⟨he, hS⟩ => ⟨he, St.back k (List.getElem?_eq_some_iff.1 e).1 hS⟩
theorem act_at (h : St l w0 w) (k : Nat) (e : l[k]? = some (part g id name may fst s)) (want : Int) (hs0 : 0 ≤ s.starts) (hs1 : s.starts ≤ 1000000) (hn : fst.length ≤ 1000000) : Calls Try.prog 41 #[.pointer (some ⟨g, 0, none⟩), .int .i64 want] w fun e w' => e = .returned (.bool (!decide ((actM s.mode want).2.1 = 0))) ∧ St (l.set k (part g id name may fst (s.act fst want))) w0 w' :=
  (act_hd (h.front k _ e) want hs0 hs1 hn).mono fun _ _ ⟨he, hS⟩ => ⟨he, St.back k (List.getElem?_eq_some_iff.1 e).1 hS⟩
theorem cell_0 (h : St (part g id name may fst s :: l) w0 w) (i : Int) (hr : runs s.mode = false) :
    Calls Try.prog 100 #[.pointer (some ⟨g, 0, none⟩), .int .i64 i] w fun e w' => e = .returned (.int .i64 5) ∧ St (part g id name may fst s :: l) w0 w' := by
  have HR : Hid (∀ (l : List SL) (w : World), St l w0 w → Calls Try.prog 21 #[.int .i64 s.mode] w fun e w' => e = .returned (.bool false) ∧ St l w0 w') := Go.Lib.hid (fun l w hS => by rw [← hr]; exact runs_st hS s.mode)
  clear hr
  obtain ⟨m0, s0, u0, now0, q0⟩ := s
  obtain ⟨A, n, c, cg, hS⟩ := open_part h
  have HS := Go.Lib.hid hS
  clear hS h
  obtain ⟨c0_0, c0_1, c0_2, c0_3, c0_4, c0_5, c0_6, c0_7⟩ := HS.out.c8 0 _ _ _ _ _ _ _ _ _ _ rfl
  go_enter Try.func100, Try.ntmps100
  go_wp2_with (first | (go_at_call 21; refine (HR.out _ _ HS.out).mono ?_; rintro e w1_ ⟨rfl, HSn⟩; replace HS : Hid (St (SL.blk g 73 #[.int .i64 m0, .int .i64 s0, .int .i64 u0, .int .i64 id, .string name, .bool may, .slice A n c, .pointer (some ⟨cg, 0, none⟩)] :: cells cg fst now0 q0 :: l) w0 w1_) := Go.Lib.hid HSn; clear HSn; clear c0_0 c0_1 c0_2 c0_3 c0_4 c0_5 c0_6 c0_7; obtain ⟨c0_0, c0_1, c0_2, c0_3, c0_4, c0_5, c0_6, c0_7⟩ := HS.out.c8 0 _ _ _ _ _ _ _ _ _ _ rfl))
  go_ret
  exact ⟨rfl, shut_part HS.out⟩
theorem cell_1 (h : St (part g id name may fst s :: l) w0 w) (i : Int) (hr : runs s.mode = true) (hi : i < 0 ∨ s.now.length ≤ i) :
    Calls Try.prog 100 #[.pointer (some ⟨g, 0, none⟩), .int .i64 i] w fun e w' => e = .returned (.int .i64 3) ∧ St (part g id name may fst s :: l) w0 w' := by
  have HR : Hid (∀ (l : List SL) (w : World), St l w0 w → Calls Try.prog 21 #[.int .i64 s.mode] w fun e w' => e = .returned (.bool true) ∧ St l w0 w') := Go.Lib.hid (fun l w hS => by rw [← hr]; exact runs_st hS s.mode)
  clear hr
  obtain ⟨m0, s0, u0, now0, q0⟩ := s
  obtain ⟨A, n, c, cg, hS⟩ := open_part h
  have HS := Go.Lib.hid hS
  clear hS h
  obtain ⟨c0_0, c0_1, c0_2, c0_3, c0_4, c0_5, c0_6, c0_7⟩ := HS.out.c8 0 _ _ _ _ _ _ _ _ _ _ rfl
  go_enter Try.func100, Try.ntmps100
  go_wp2_with (first | (go_at_call 21; refine (HR.out _ _ HS.out).mono ?_; rintro e w1_ ⟨rfl, HSn⟩; replace HS : Hid (St (SL.blk g 73 #[.int .i64 m0, .int .i64 s0, .int .i64 u0, .int .i64 id, .string name, .bool may, .slice A n c, .pointer (some ⟨cg, 0, none⟩)] :: cells cg fst now0 q0 :: l) w0 w1_) := Go.Lib.hid HSn; clear HSn; clear c0_0 c0_1 c0_2 c0_3 c0_4 c0_5 c0_6 c0_7; obtain ⟨c0_0, c0_1, c0_2, c0_3, c0_4, c0_5, c0_6, c0_7⟩ := HS.out.c8 0 _ _ _ _ _ _ _ _ _ _ rfl) | (go_at_call 35; refine (get_out HS.out 1 rfl i hi).mono ?_; rintro e w' ⟨rfl, rfl⟩))
  go_ret
  exact ⟨rfl, shut_part HS.out⟩
theorem cell_2 (h : St (part g id name may fst s :: l) w0 w) (i : Int) (hr : runs s.mode = true) (h0 : 0 ≤ i) (h1 : i < s.now.length) :
    Calls Try.prog 100 #[.pointer (some ⟨g, 0, none⟩), .int .i64 i] w fun e w' => e = .returned (.int .i64 0) ∧ St (part g id name may fst s :: l) w0 w' := by
  have HR : Hid (∀ (l : List SL) (w : World), St l w0 w → Calls Try.prog 21 #[.int .i64 s.mode] w fun e w' => e = .returned (.bool true) ∧ St l w0 w') := Go.Lib.hid (fun l w hS => by rw [← hr]; exact runs_st hS s.mode)
  clear hr
  obtain ⟨m0, s0, u0, now0, q0⟩ := s
  obtain ⟨A, n, c, cg, hS⟩ := open_part h
  have HS := Go.Lib.hid hS
  clear hS h
  obtain ⟨c0_0, c0_1, c0_2, c0_3, c0_4, c0_5, c0_6, c0_7⟩ := HS.out.c8 0 _ _ _ _ _ _ _ _ _ _ rfl
  go_enter Try.func100, Try.ntmps100
  go_wp2_with (first | (go_at_call 21; refine (HR.out _ _ HS.out).mono ?_; rintro e w1_ ⟨rfl, HSn⟩; replace HS : Hid (St (SL.blk g 73 #[.int .i64 m0, .int .i64 s0, .int .i64 u0, .int .i64 id, .string name, .bool may, .slice A n c, .pointer (some ⟨cg, 0, none⟩)] :: cells cg fst now0 q0 :: l) w0 w1_) := Go.Lib.hid HSn; clear HSn; clear c0_0 c0_1 c0_2 c0_3 c0_4 c0_5 c0_6 c0_7; obtain ⟨c0_0, c0_1, c0_2, c0_3, c0_4, c0_5, c0_6, c0_7⟩ := HS.out.c8 0 _ _ _ _ _ _ _ _ _ _ rfl) | (go_at_call 35; refine (get_in HS.out 1 rfl i h0 h1).mono ?_; rintro e w' ⟨rfl, rfl⟩))
  go_ret
  exact ⟨rfl, shut_part HS.out⟩
theorem cell_hd (h : St (part g id name may fst s :: l) w0 w) (i : Int) :
    Calls Try.prog 100 #[.pointer (some ⟨g, 0, none⟩), .int .i64 i] w fun e w' => e = .returned (.int .i64 (s.cell i)) ∧ St (part g id name may fst s :: l) w0 w' := by
  unfold PS.cell
  cases hr : runs s.mode with
  | false => exact cell_0 h i hr
  | true =>
    cases hb : inB i s.now.length with
    | true =>
      have h0 : 0 ≤ i := by unfold inB at hb; simp at hb; omega
      have h1 : i < s.now.length := by unfold inB at hb; simp at hb; omega
      exact cell_2 h i hr h0 h1
    | false =>
      exact cell_1 h i hr (by unfold inB at hb; simp at hb; omega)
theorem read_no (h : St (part g id name may fst s :: l) w0 w) (i k : Int) (hk : s.cell i = k) (h0 : (k != 0) = true) :
    Calls Try.prog 98 #[.pointer (some ⟨g, 0, none⟩), .int .i64 i] w fun e w' => e = .returned (.tuple #[.int .u32 0, .int .i64 k]) ∧ St (part g id name may fst s :: l) w0 w' := by
  have HC : Hid (∀ (l : List SL) (w : World), St (part g id name may fst s :: l) w0 w → Calls Try.prog 100 #[.pointer (some ⟨g, 0, none⟩), .int .i64 i] w fun e w' => e = .returned (.int .i64 k) ∧ St (part g id name may fst s :: l) w0 w') := Go.Lib.hid (fun l w hS => by rw [← hk]; exact cell_hd hS i)
  have HS := Go.Lib.hid h
  clear h hk
  go_enter Try.func98, Try.ntmps98
  go_wp2_with (first | (go_at_call 100; refine (HC.out _ _ HS.out).mono ?_; rintro e w1_ ⟨rfl, HSn⟩; replace HS : Hid (St (part g id name may fst s :: l) w0 w1_) := Go.Lib.hid HSn; clear HSn))
  go_ret2
  exact ⟨rfl, HS.out⟩
theorem read_yes (h : St (part g id name may fst s :: l) w0 w) (i : Int) (hk : s.cell i = 0) (h0 : 0 ≤ i) (h1 : i < s.now.length) :
    Calls Try.prog 98 #[.pointer (some ⟨g, 0, none⟩), .int .i64 i] w fun e w' => e = .returned (.tuple #[.int .u32 (rd s.now i), .int .i64 0]) ∧ St (part g id name may fst s :: l) w0 w' := by
  have HC : Hid (∀ (l : List SL) (w : World), St (part g id name may fst s :: l) w0 w → Calls Try.prog 100 #[.pointer (some ⟨g, 0, none⟩), .int .i64 i] w fun e w' => e = .returned (.int .i64 0) ∧ St (part g id name may fst s :: l) w0 w') := Go.Lib.hid (fun l w hS => by rw [← hk]; exact cell_hd hS i)
  have HS := Go.Lib.hid h
  clear h hk
  go_enter Try.func98, Try.ntmps98
  go_wp2_with fail
  refine (HC.out _ _ HS.out).mono ?_
  rintro e w1_ ⟨rfl, h⟩
  obtain ⟨m0, s0, u0, now0, q0⟩ := s
  obtain ⟨A, n, c, cg, hS⟩ := open_part h
  replace HS := Go.Lib.hid hS
  clear hS h
  obtain ⟨c0_0, c0_1, c0_2, c0_3, c0_4, c0_5, c0_6, c0_7⟩ := HS.out.c8 0 _ _ _ _ _ _ _ _ _ _ rfl
  go_wp2_with (first | (go_at_call 35; refine (get_in HS.out 1 rfl i h0 h1).mono ?_; rintro e w' ⟨rfl, rfl⟩))
  go_ret2
  exact ⟨rfl, shut_part HS.out⟩
theorem write_no (h : St (part g id name may fst s :: l) w0 w) (i x k : Int) (hk : s.cell i = k) (h0 : (k == 0) = false) (hq0 : 0 ≤ s.wr) (hq1 : s.wr ≤ 1000000) :
    Calls Try.prog 42 #[.pointer (some ⟨g, 0, none⟩), .int .i64 i, .int .u32 x] w fun e w' => e = .returned (.int .i64 k) ∧ St (part g id name may fst (s) :: l) w0 w' := by
  have HC : Hid (∀ (l : List SL) (w : World), St (part g id name may fst s :: l) w0 w → Calls Try.prog 100 #[.pointer (some ⟨g, 0, none⟩), .int .i64 i] w fun e w' => e = .returned (.int .i64 k) ∧ St (part g id name may fst s :: l) w0 w') := Go.Lib.hid (fun l w hS => by rw [← hk]; exact cell_hd hS i)
  have HS := Go.Lib.hid h
  clear h hk
  go_enter Try.func42, Try.ntmps42
  go_wp2_with fail
  refine (HC.out _ _ HS.out).mono ?_
  rintro e w1_ ⟨rfl, h⟩
  replace HS := Go.Lib.hid h
  clear h
  go_wp2_with fail
  go_ret
  exact ⟨rfl, HS.out⟩
theorem write_yes (h : St (part g id name may fst s :: l) w0 w) (i x : Int) (hk : s.cell i = 0) (hq0 : 0 ≤ s.wr) (hq1 : s.wr ≤ 1000000) :
    Calls Try.prog 42 #[.pointer (some ⟨g, 0, none⟩), .int .i64 i, .int .u32 x] w fun e w' => e = .returned (.int .i64 0) ∧ St (part g id name may fst (⟨s.mode, s.starts, s.cause, setN s.now i x, setM s.now i s.wr⟩) :: l) w0 w' := by
  have HC : Hid (∀ (l : List SL) (w : World), St (part g id name may fst s :: l) w0 w → Calls Try.prog 100 #[.pointer (some ⟨g, 0, none⟩), .int .i64 i] w fun e w' => e = .returned (.int .i64 0) ∧ St (part g id name may fst s :: l) w0 w') := Go.Lib.hid (fun l w hS => by rw [← hk]; exact cell_hd hS i)
  have HS := Go.Lib.hid h
  clear h hk
  go_enter Try.func42, Try.ntmps42
  go_wp2_with fail
  refine (HC.out _ _ HS.out).mono ?_
  rintro e w1_ ⟨rfl, h⟩
  obtain ⟨m0, s0, u0, now0, q0⟩ := s
  obtain ⟨A, n, c, cg, hS⟩ := open_part h
  replace HS := Go.Lib.hid hS
  clear hS h
  have hq0' : 0 ≤ q0 := hq0
  have hq1' : q0 ≤ 1000000 := hq1
  obtain ⟨c0_0, c0_1, c0_2, c0_3, c0_4, c0_5, c0_6, c0_7⟩ := HS.out.c8 0 _ _ _ _ _ _ _ _ _ _ rfl
  go_wp2_with (first | (go_at_call 25; refine (set_st HS.out 1 rfl i x hq0 hq1).mono ?_; rintro e w21_ ⟨rfl, HSn⟩; replace HS : Hid (St (SL.blk g 73 #[.int .i64 m0, .int .i64 s0, .int .i64 u0, .int .i64 id, .string name, .bool may, .slice A n c, .pointer (some ⟨cg, 0, none⟩)] :: cells cg fst (setN now0 i x) (setM now0 i q0) :: l) w0 w21_) := Go.Lib.hid HSn; clear HSn; clear c0_0 c0_1 c0_2 c0_3 c0_4 c0_5 c0_6 c0_7; obtain ⟨c0_0, c0_1, c0_2, c0_3, c0_4, c0_5, c0_6, c0_7⟩ := HS.out.c8 0 _ _ _ _ _ _ _ _ _ _ rfl))
  go_ret
  exact ⟨rfl, shut_part (s := ⟨m0, s0, u0, setN now0 i x, setM now0 i q0⟩) HS.out⟩
theorem write_hd (h : St (part g id name may fst s :: l) w0 w) (i x : Int) (hq0 : 0 ≤ s.wr) (hq1 : s.wr ≤ 1000000) :
    Calls Try.prog 42 #[.pointer (some ⟨g, 0, none⟩), .int .i64 i, .int .u32 x] w fun e w' => e = .returned (.int .i64 (s.cell i)) ∧ St (part g id name may fst (s.write i x) :: l) w0 w' := by
  unfold PS.write
  by_cases hk : s.cell i = 0
  · rw [if_pos hk, hk]
    exact write_yes h i x hk hq0 hq1
  · rw [if_neg hk]
    exact write_no h i x _ rfl (beq_eq_false_iff_ne.2 hk) hq0 hq1
theorem cell_zero (s : PS) (i : Int) (h : s.cell i = 0) : 0 ≤ i ∧ i < s.now.length := by
  unfold PS.cell at h
  split at h
  · split at h
    · rename_i h2; unfold inB at h2; simp at h2; omega
    · omega
  · omega
theorem read_hd (h : St (part g id name may fst s :: l) w0 w) (i : Int) :
    Calls Try.prog 98 #[.pointer (some ⟨g, 0, none⟩), .int .i64 i] w fun e w' => e = .returned (.tuple #[.int .u32 (if s.cell i = 0 then rd s.now i else 0), .int .i64 (s.cell i)]) ∧ St (part g id name may fst s :: l) w0 w' := by
  by_cases hk : s.cell i = 0
  · rw [if_pos hk, hk]
    exact read_yes h i hk (cell_zero s i hk).1 (cell_zero s i hk).2
  · rw [if_neg hk]
    exact read_no h i _ rfl (by rw [bne_iff_ne]; exact hk)
theorem write_at (h : St l w0 w) (k : Nat) (e : l[k]? = some (part g id name may fst s)) (i x : Int) (hq0 : 0 ≤ s.wr) (hq1 : s.wr ≤ 1000000) : Calls Try.prog 42 #[.pointer (some ⟨g, 0, none⟩), .int .i64 i, .int .u32 x] w fun e w' => e = .returned (.int .i64 (s.cell i)) ∧ St (l.set k (part g id name may fst (s.write i x))) w0 w' :=
  (write_hd (h.front k _ e) i x hq0 hq1).mono fun _ _ ⟨he, hS⟩ => ⟨he, St.back k (List.getElem?_eq_some_iff.1 e).1 hS⟩
theorem read_at (h : St l w0 w) (k : Nat) (e : l[k]? = some (part g id name may fst s)) (i : Int) :
    Calls Try.prog 98 #[.pointer (some ⟨g, 0, none⟩), .int .i64 i] w fun e w' => e = .returned (.tuple #[.int .u32 (if s.cell i = 0 then rd s.now i else 0), .int .i64 (s.cell i)]) ∧ St (l.set k (part g id name may fst s)) w0 w' :=
  (read_hd (h.front k _ e) i).mono fun _ _ ⟨he, hS⟩ => ⟨he, St.back k (List.getElem?_eq_some_iff.1 e).1 hS⟩
end Go.Proofs.Ytkmhgolohppliaa.Prt

/-! A partition in memory: New, Shot, Copy, SameShot. -/
namespace Go.Proofs.Ytkmhgolohppliaa.Prt
open Go.RowKit Go.Proofs.Ytkmhgolohppliaa.PCellsPlays Go.Proofs.YtkmhgolohppliaaW.PrintWords Go.Proofs.YtkmhgolohppliaaW.PrintLast Go.Proofs.YtkmhgolohppliaaW.PrintMore Go.Proofs.Ytkmhgolohppliaa.Mine Go.Proofs.Ytkmhgolohppliaa.Cel Go.Proofs.Ytkmhgolohppliaa.Cls
open Go.Proofs.Ytkmhgolohppliaa.Sl (SL Stp St No)
open Go.Proofs.Ytkmhgolohppliaa.Mod (strt actM runs right askd)
set_option linter.unusedVariables false
set_option linter.unusedSimpArgs false
attribute [local go_sem] max2_int min2_int max_two min_two max_three min_three max_four min_four
variable {l : List SL} {w0 w : World} {g : Nat} {id : Int} {name : ByteArray} {may : Bool} {fst : List S43} {s : PS}

theorem clone89_st (h : St l w0 w) (A : Option Addr) (n c : Nat) (xs : List S43) (hC : (k43).C w A n xs) (hn : n ≤ 1000000) :
    Calls Try.prog 89 #[.slice A n c] w fun e w' => ∃ A' c', e = .returned (.slice A' xs.length c') ∧ St (SL.row k43 43 (.slice A' xs.length c') xs :: l) w0 w' := by
  refine (clone89_calls A n c xs w hC (by omega)).mono ?_
  rintro e w1 ⟨v, rfl, hR, hB⟩
  have hS := h.row hR hB
  obtain ⟨A', c', rfl, _, _⟩ := hS.rowC 0 rfl
  exact ⟨A', c', rfl, hS⟩

set_option maxHeartbeats 1600000 in
set_option maxRecDepth 100000 in
theorem new_hd (h : St l w0 w) (A : Option Addr) (c : Nat) (hC : k43.C w A fst.length fst) (hn2 : fst.length ≤ 1000) :
    Calls Try.prog 39 #[.agg #[.int .i64 id, .string name, .bool may, .slice A fst.length c]] w fun e w' => ∃ g, e = .returned (.pointer (some ⟨g, 0, none⟩)) ∧ St (part g id name may fst (PS.init fst) :: l) w0 w' := by
  have HC := Go.Lib.hid hC
  have HS := Go.Lib.hid h
  have hn : fst.length ≤ 1000000 := by omega
  have HR5 : Hid (∀ {A5 : Option Addr} {c5 : Nat} {l : List SL} (w : World), St (SL.row k43 43 (.slice A5 fst.length c5) fst :: l) w0 w → k43.C w A5 fst.length fst) := Go.Lib.hid (fun w hS => by
    obtain ⟨A', c', hv, _, hC'⟩ := hS.rowC 0 rfl
    injection hv with q1 _ _
    subst q1
    exact hC')
  clear hC h
  go_enter Try.func39, Try.ntmps39
  go_wp2_with (first | ((with_reducible refine gate_dst (N := 1) rfl ?_); refine Sl.box_st HS.out (by rfl) (cs := #[.int .i64 id, .string name, .bool may, .slice A fst.length c]) (t := 63) ?hr ?_; (case hr => first | (go_simp; done) | (go_simp; rfl)); intro g1 w1_ HSn HBn; have HB1 := Go.Lib.hid HBn; clear HBn; replace HS : Hid (St (SL.blk g1 63 #[.int .i64 id, .string name, .bool may, .slice A fst.length c] :: l) w0 w1_) := Go.Lib.hid HSn; clear HSn; obtain ⟨c0_0, c0_1, c0_2, c0_3⟩ := HS.out.c4 0 _ _ _ _ _ _ rfl) | (go_at_call 89; refine (clone89_st HS.out A fst.length c fst (Kd.C_below HC.out HB1.out) hn).mono ?_; rintro e w2_ ⟨A5, c5, rfl, HSn⟩; replace HS : Hid (St (SL.row k43 43 (.slice A5 fst.length c5) fst :: SL.blk g1 63 #[.int .i64 id, .string name, .bool may, .slice A fst.length c] :: l) w0 w2_) := Go.Lib.hid HSn; clear HSn; clear c0_0 c0_1 c0_2 c0_3; obtain ⟨c1_0, c1_1, c1_2, c1_3⟩ := HS.out.c4 1 _ _ _ _ _ _ rfl) | ((with_reducible refine gate_store (p := 6) rfl ?_); refine Sl.store_st HS.out 1 g1 63 _ rfl 3 (.slice A5 fst.length c5) (by rfl) (by rfl) ?hr ?_; (case hr => have f_ := HS.out.free 1 _ _ _ rfl 3; first | (go_simp; done) | (go_simp; rfl)); intro w3_ HSn; replace HS : Hid (St (SL.row k43 43 (.slice A5 fst.length c5) fst :: SL.blk g1 63 #[.int .i64 id, .string name, .bool may, .slice A5 fst.length c5] :: l) w0 w3_) := Go.Lib.hid HSn; clear HSn; clear c1_0 c1_1 c1_2 c1_3; obtain ⟨c1_0, c1_1, c1_2, c1_3⟩ := HS.out.c4 1 _ _ _ _ _ _ rfl))
  clear c1_0 c1_1 c1_2 c1_3
  replace HS := Go.Lib.hid HS.out.drew
  refine start_ (n := 8) (S := fun w' => w'.cell? ⟨g1, 0, none⟩ = some (.int .i64 id) ∧ w'.cell? ⟨g1, 1, none⟩ = some (.string name) ∧ w'.cell? ⟨g1, 2, none⟩ = some (.bool may) ∧ w'.cell? ⟨g1, 3, none⟩ = some (.slice A5 fst.length c5)) (ds := []) #[false, false, false, false, false, false, false, false] (by kernel_rfl) rfl rfl ⟨HS.out.cell 1 _ _ _ rfl 0, HS.out.cell 1 _ _ _ rfl 1, HS.out.cell 1 _ _ _ rfl 2, HS.out.cell 1 _ _ _ rfl 3⟩ (fun hHeld => ?_)
  generalize w3_.drew = W_ at *
  refine pure_ (i := 0) (N := some 7) (v := ?_) (a' := ?_) #[true, false, false, false, false, false, false, false] rfl rfl (by kernel_rfl) (fun _ _ _ h => h) (Or.inl ⟨by rfl, ?_⟩) ?_ ?_
  rotate_left
  · intro w'
    go_simp
    with_reducible rfl
  rotate_left
  · simp only [Act.put, List.setIfInBounds_toArray, List.set_cons_zero, List.set_cons_succ, i64_w, i32_w]
    rfl
  refine pure_ (i := 2) (N := some 9) (v := ?_) (a' := ?_) #[true, false, true, false, false, false, false, false] rfl rfl (by kernel_rfl) (fun _ _ _ h => h) (Or.inl ⟨by rfl, ?_⟩) ?_ ?_
  rotate_left
  · intro w'
    go_simp
    with_reducible rfl
  rotate_left
  · simp only [Act.put, List.setIfInBounds_toArray, List.set_cons_zero, List.set_cons_succ, i64_w, i32_w]
    rfl
  refine take_ (i := 1) (N := some 8) (v := ?_) (a' := ?_) #[true, true, true, false, false, false, false, false] rfl rfl (by kernel_rfl) (fun _ _ _ h => h) (Or.inl ⟨by rfl, ?_⟩) hHeld ?_ ?_
  rotate_left
  · rintro w' ⟨s0, s1, s2, s3⟩
    go_simp
    with_reducible rfl
  rotate_left
  · simp only [Act.put, List.setIfInBounds_toArray, List.set_cons_zero, List.set_cons_succ, i64_w, i32_w]
    rfl
  refine take_ (i := 3) (N := some 10) (v := ?_) (a' := ?_) #[true, true, true, true, false, false, false, false] rfl rfl (by kernel_rfl) (fun _ _ _ h => h) (Or.inl ⟨by rfl, ?_⟩) hHeld ?_ ?_
  rotate_left
  · rintro w' ⟨s0, s1, s2, s3⟩
    go_simp
    with_reducible rfl
  rotate_left
  · simp only [Act.put, List.setIfInBounds_toArray, List.set_cons_zero, List.set_cons_succ, i64_w, i32_w]
    rfl
  refine one_ (i := 4) (N := some 11) #[true, true, true, true, true, false, false, false] rfl rfl (by kernel_rfl) (by decide) (fun K hK => ?_)
  refine goes_ Try.func23 (by kernel_rfl) rfl #[.slice A5 fst.length c5] (by rfl) rfl rfl (by (try simp only [List.map_toArray, List.map_cons, List.map_nil]); first | done | rfl) ?_
  refine (new_st HS.out A5 c5 (HR5.out _ HS.out) hn2).mono ?_
  rintro e w91 ⟨cg, rfl, hS91⟩
  have HS91 := Go.Lib.hid hS91
  clear hS91
  refine ⟨_, rfl, ?_⟩
  refine hK.out _ _ ⟨HS91.out.cell 2 _ _ _ rfl 0, HS91.out.cell 2 _ _ _ rfl 1, HS91.out.cell 2 _ _ _ rfl 2, HS91.out.cell 2 _ _ _ rfl 3⟩ (fun hHeld => ?_)
  clear hK K
  refine norm_ (a' := ?_) ?_ ?_
  rotate_left
  · show Act.put _ (some 11) _ = _
    simp only [Act.put, List.setIfInBounds_toArray, List.set_cons_zero, List.set_cons_succ, i64_w, i32_w]
    rfl
  refine pure_ (i := 5) (N := some 12) (v := ?_) (a' := ?_) #[true, true, true, true, true, true, false, false] rfl rfl (by kernel_rfl) (fun _ _ _ h => h) (Or.inl ⟨by rfl, ?_⟩) ?_ ?_
  rotate_left
  · intro w'
    go_simp
    with_reducible rfl
  rotate_left
  · simp only [Act.put, List.setIfInBounds_toArray, List.set_cons_zero, List.set_cons_succ, i64_w, i32_w]
    rfl
  refine one_ (i := 6) (N := some 13) #[true, true, true, true, true, true, true, false] rfl rfl (by kernel_rfl) (by decide) (fun K hK => ?_)
  refine Sl.box_stp HS91.out (by rfl) (cs := #[.int .i64 1, .int .i64 1, .int .i64 0, .int .i64 id, .string name, .bool may, .slice A5 fst.length c5, .pointer (some ⟨cg, 0, none⟩)]) (t := 73) ?hr ?_
  case hr => first | (go_simp; done) | (go_simp; rfl)
  intro g2 w92 hS92 hB92
  have HS92 := Go.Lib.hid hS92
  clear hS92 hB92
  refine hK.out _ _ ⟨HS92.out.cell 3 _ _ _ rfl 0, HS92.out.cell 3 _ _ _ rfl 1, HS92.out.cell 3 _ _ _ rfl 2, HS92.out.cell 3 _ _ _ rfl 3⟩ (fun hHeld => ?_)
  clear hK K
  refine norm_ (a' := ?_) ?_ ?_
  rotate_left
  · show Act.put _ (some 13) _ = _
    simp only [Act.put, List.setIfInBounds_toArray, List.set_cons_zero, List.set_cons_succ, i64_w, i32_w]
    rfl
  refine pure_ (i := 7) (N := some 2) (v := ?_) (a' := ?_) #[true, true, true, true, true, true, true, true] rfl rfl (by kernel_rfl) (fun _ _ _ h => h) (Or.inl ⟨by rfl, ?_⟩) ?_ ?_
  rotate_left
  · intro w'
    go_simp
    with_reducible rfl
  rotate_left
  · simp only [Act.put, List.setIfInBounds_toArray, List.set_cons_zero, List.set_cons_succ, i64_w, i32_w]
    rfl
  refine done_ (by kernel_rfl) ?_
  go_wp2_with fail
  go_ret
  exact ⟨_, rfl, shut_part (s := PS.init fst) ((HS92.out.erase 2).erase 2)⟩
theorem new_lit {A8 : Option Addr} {c8 : Nat} (h : St (SL.row k43 43 (.slice A8 1 c8) [⟨5, false⟩] :: l) w0 w) :
    Calls Try.prog 39 #[.agg #[.int .i64 0, .string ⟨#[]⟩, .bool false, .slice A8 1 c8]] w fun e w' => ∃ g, e = .returned (.pointer (some ⟨g, 0, none⟩)) ∧ St (part g 0 ⟨#[]⟩ false [⟨5, false⟩] ⟨1, 1, 0, [5], 0⟩ :: SL.row k43 43 (.slice A8 1 c8) [⟨5, false⟩] :: l) w0 w' := by
  obtain ⟨A', c', hv, _, hC⟩ := h.rowC 0 rfl
  injection hv with q1 _ _
  subst q1
  exact new_hd (fst := [⟨5, false⟩]) h A8 c8 hC (by decide)
theorem setMode_3 {A8 : Option Addr} {c8 : Nat} (h : St (part g 0 ⟨#[]⟩ false [⟨5, false⟩] ⟨1, 1, 0, [9], 1⟩ :: SL.row k43 43 (.slice A8 1 c8) [⟨5, false⟩] :: l) w0 w) :
    Calls Try.prog 40 #[.pointer (some ⟨g, 0, none⟩), .int .i64 3] w fun e w' => e = .returned (.int .i64 0) ∧ St (part g 0 ⟨#[]⟩ false [⟨5, false⟩] ⟨3, 1, 0, [9], 1⟩ :: SL.row k43 43 (.slice A8 1 c8) [⟨5, false⟩] :: l) w0 w' :=
  setMode_hd (s := ⟨1, 1, 0, [9], 1⟩) h 3 (by decide) (by decide) (by decide)
set_option maxHeartbeats 1600000 in
set_option maxRecDepth 100000 in
theorem awake_st (h : St l w0 w) : Calls Try.prog 38 #[] w fun e w' => e = .returned (.bool true) ∧ St l w0 w' := by
  have HS := Go.Lib.hid h
  clear h
  go_enter Try.func38, Try.ntmps38
  go_wp2_with (first | ((with_reducible refine gate_dst (N := 8) rfl ?_); refine Sl.lit_st (k43) (flat_iso (flat_pair (flat_int .u32) flat_bool)) HS.out 43 (by rfl) (xs := ([⟨5, false⟩] : List S43)) (inner := [.int .u32 5, .bool false]) ?hr ?hp ?hm ?_; (case hr => first | (go_simp; done) | (go_simp; rfl)); (case hp => exact Reps.snoc (Reps.none _ _) (k43_mk _ ⟨5, false⟩) rfl); (case hm => first | decide | (simp; done)); intro v8_ w1_ HSn; obtain ⟨A8, c8, hv8, _⟩ := HSn.rowC 0 rfl; subst hv8; replace HS : Hid (St (SL.row k43 43 (.slice A8 1 c8) [⟨5, false⟩] :: l) w0 w1_) := Go.Lib.hid HSn; clear HSn) | (go_at_call 39; refine (new_lit HS.out).mono ?_; rintro e w2_ ⟨g, rfl, HSn⟩; replace HS : Hid (St (part g 0 ⟨#[]⟩ false [⟨5, false⟩] ⟨1, 1, 0, [5], 0⟩ :: SL.row k43 43 (.slice A8 1 c8) [⟨5, false⟩] :: l) w0 w2_) := Go.Lib.hid HSn; clear HSn) | (go_at_call 42; refine ((write_hd (s := ⟨1, 1, 0, [5], 0⟩) HS.out 0 9 (by decide) (by decide) : Calls Try.prog 42 #[.pointer (some ⟨g, 0, none⟩), .int .i64 0, .int .u32 9] _ fun e w' => e = .returned (.int .i64 0) ∧ St (part g 0 ⟨#[]⟩ false [⟨5, false⟩] ⟨1, 1, 0, [9], 1⟩ :: SL.row k43 43 (.slice A8 1 c8) [⟨5, false⟩] :: l) w0 w')).mono ?_; rintro e w3_ ⟨rfl, HSn⟩; replace HS : Hid (St (part g 0 ⟨#[]⟩ false [⟨5, false⟩] ⟨1, 1, 0, [9], 1⟩ :: SL.row k43 43 (.slice A8 1 c8) [⟨5, false⟩] :: l) w0 w3_) := Go.Lib.hid HSn; clear HSn))
  refine (setMode_3 HS.out).mono ?_
  rintro e w4_ ⟨rfl, HSn⟩
  replace HS : Hid (St (part g 0 ⟨#[]⟩ false [⟨5, false⟩] ⟨3, 1, 0, [9], 1⟩ :: SL.row k43 43 (.slice A8 1 c8) [⟨5, false⟩] :: l) w0 w4_) := Go.Lib.hid HSn
  clear HSn
  go_wp2_with fail
  refine ((setMode_hd (s := ⟨3, 1, 0, [9], 1⟩) HS.out 1 (by decide) (by decide) (by decide) : Calls Try.prog 40 #[.pointer (some ⟨g, 0, none⟩), .int .i64 1] _ fun e w' => e = .returned (.int .i64 0) ∧ St (part g 0 ⟨#[]⟩ false [⟨5, false⟩] ⟨1, 2, 1, [5], 0⟩ :: SL.row k43 43 (.slice A8 1 c8) [⟨5, false⟩] :: l) w0 w')).mono ?_
  rintro e w5_ ⟨rfl, HSn⟩
  replace HS : Hid (St (part g 0 ⟨#[]⟩ false [⟨5, false⟩] ⟨1, 2, 1, [5], 0⟩ :: SL.row k43 43 (.slice A8 1 c8) [⟨5, false⟩] :: l) w0 w5_) := Go.Lib.hid HSn
  clear HSn
  go_wp2_with (first | (go_at_call 98; refine ((read_hd (s := ⟨1, 2, 1, [5], 0⟩) HS.out 0 : Calls Try.prog 98 #[.pointer (some ⟨g, 0, none⟩), .int .i64 0] _ fun e w' => e = .returned (.tuple #[.int .u32 5, .int .i64 0]) ∧ St (part g 0 ⟨#[]⟩ false [⟨5, false⟩] ⟨1, 2, 1, [5], 0⟩ :: SL.row k43 43 (.slice A8 1 c8) [⟨5, false⟩] :: l) w0 w')).mono ?_; rintro e w6_ ⟨rfl, HSn⟩; replace HS : Hid (St (part g 0 ⟨#[]⟩ false [⟨5, false⟩] ⟨1, 2, 1, [5], 0⟩ :: SL.row k43 43 (.slice A8 1 c8) [⟨5, false⟩] :: l) w0 w6_) := Go.Lib.hid HSn; clear HSn) | (go_at_call 53; refine (mode_st (s := ⟨1, 2, 1, [5], 0⟩) HS.out 0 rfl).mono ?_; rintro e w' ⟨rfl, rfl⟩) | (go_at_call 43; refine (starts_st (s := ⟨1, 2, 1, [5], 0⟩) HS.out 0 rfl).mono ?_; rintro e w' ⟨rfl, rfl⟩))
  go_ret
  exact ⟨rfl, HS.out.drop.drop⟩
end Go.Proofs.Ytkmhgolohppliaa.Prt

/-! A partition that is given, and the laws' calls, opened; what changes of a partition's state. -/
namespace Go.Proofs.Ytkmhgolohppliaa.Prt
open Go.RowKit Go.WideShapes Go.ChangeShapes Go.Deep Go.Joins Go.Proofs.Ytkmhgolohppliaa.PCellsPlays Go.Proofs.YtkmhgolohppliaaW.PrintWords Go.Proofs.YtkmhgolohppliaaW.PrintLast Go.Proofs.YtkmhgolohppliaaW.PrintMore Go.Proofs.Ytkmhgolohppliaa.Mine Go.Proofs.Ytkmhgolohppliaa.Cel Go.Proofs.Ytkmhgolohppliaa.Cls
open Go.Proofs.Ytkmhgolohppliaa.Sl (SL Stp St No)
open Go.Proofs.Ytkmhgolohppliaa.Mod (strt actM runs right askd)
set_option linter.unusedVariables false
set_option linter.unusedSimpArgs false
attribute [local go_sem] max2_int min2_int max_two min_two max_three min_three max_four min_four
set_option maxRecDepth 100000
variable {l : List SL} {w0 w : World} {g : Nat} {id : Int} {name : ByteArray} {may : Bool} {fst : List S43} {s : PS}
/-- A call of the law: its kind, its place, its number. -/
structure S67 where
  f0 : Int
  f1 : Int
  f2 : Int
def z67 : S67 := ⟨0, 0, 0⟩
def k67 : Kd S67 := Kd.iso (Kd.pair (Kd.int .i64) (Kd.pair (Kd.int .i64) (Kd.int .u32))) (fun x : S67 => (x.f0, x.f1, x.f2))
theorem k67_open {w : World} {x : S67} {cs : List Value} (h : k67.K w x cs) : cs = [.int .i64 x.f0, .int .i64 x.f1, .int .u32 x.f2] := by
  obtain ⟨_, _, rfl, rfl, ⟨_, _, rfl, rfl, rfl⟩⟩ := h
  exact rfl
theorem k67_mk (w : World) (x : S67) : k67.K w x [.int .i64 x.f0, .int .i64 x.f1, .int .u32 x.f2] := ⟨[.int .i64 x.f0], [.int .i64 x.f1, .int .u32 x.f2], rfl, rfl, ⟨[.int .i64 x.f1], [.int .u32 x.f2], rfl, rfl, rfl⟩⟩
def rd_T67 (xs : List S67) (i : Int) : S67 := xs.getD i.toNat z67
theorem at_T67 {w : World} {A : Option Addr} {n : Nat} {xs : List S67} (h : Kd.C k67 w A n xs) (i : Int) (h0 : 0 ≤ i) (h1 : i < n) : ∃ ad , A = some ad ∧ w.cell? (ad.add (i.toNat * 3)) = some (.int .i64 (rd_T67 xs i).f0) ∧
    w.cell? ⟨(ad.add (i.toNat * 3)).block, (ad.add (i.toNat * 3)).off + 1, none⟩ = some (.int .i64 (rd_T67 xs i).f1) ∧
    w.cell? ⟨(ad.add (i.toNat * 3)).block, (ad.add (i.toNat * 3)).off + 2, none⟩ = some (.int .u32 (rd_T67 xs i).f2) := by
  obtain ⟨ad, c, e, _, hK, hc0⟩ := Kd.C_get h z67 i h0 h1
  have hc : ∀ j u, c[j]? = some u → w.cell? (ad.add (i.toNat * 3 + j)) = some u := hc0
  obtain rfl := k67_open hK
  exact ⟨ad, e, hc 0 _ rfl, by rw [← add_field _ _ 1 (by omega)]; exact hc 1 _ rfl, by rw [← add_field _ _ 2 (by omega)]; exact hc 2 _ rfl⟩
theorem open64 {H : Type} {enc : TypeId × Value → H} {w : World} {base b0 : Nat} {spare : Nat → Bool} {held : Bool} {r : Go.Reach} {v : Value} {x : DataW H} {p : List MemPlace} (hv : Value.okWide Try.prog w r b0 64 v)
    (h : DataW.Trod enc Try.prog w base spare held 64 v x p) : ∃ A n c, v = .slice A n c ∧ ∃ xs, n ≤ c ∧ k67.C w A n xs ∧ ∀ z ∈ xs, (Lit.int .i64 z.f0).wf = true ∧ (Lit.int .i64 z.f1).wf = true ∧ (Lit.int .u32 z.f2).wf = true := by
  obtain ⟨A, n, c, rfl⟩ := okWide_slice Try.underlying64 hv
  obtain ⟨fuel, hf⟩ := h
  obtain ⟨A', n', c', hcs, hl, xs, hC, hg⟩ := Opn.open_row k67 (fun z => (Lit.int .i64 z.f0).wf = true ∧ (Lit.int .i64 z.f1).wf = true ∧ (Lit.int .u32 z.f2).wf = true) Try.underlying64 (by kernel_rfl) (fun n cs' y hy hlen => by
    obtain ⟨m, hfs⟩ := Opn.fields_of Try.underlying67 (by kernel_rfl) hy
    match cs', hlen with
    | [c0, c1, c2], _ =>
      obtain ⟨y0, h0⟩ := hfs 0 _ c0 rfl rfl
      obtain ⟨y1, h1⟩ := hfs 1 _ c1 rfl rfl
      obtain ⟨y2, h2⟩ := hfs 2 _ c2 rfl rfl
      obtain ⟨n0, e0, _, w0⟩ := DataW.trod_int Try.underlying3 h0
      obtain ⟨n1, e1, _, w1⟩ := DataW.trod_int Try.underlying3 h1
      obtain ⟨n2, e2, _, w2⟩ := DataW.trod_int Try.underlying39 h2
      obtain rfl : c0 = _ := by simpa using e0
      obtain rfl : c1 = _ := by simpa using e1
      obtain rfl : c2 = _ := by simpa using e2
      exact ⟨⟨n0, n1, n2⟩, k67_mk _ _, w0, w1, w2⟩) hf
  simp [Value.cells] at hcs
  obtain ⟨rfl, rfl, rfl⟩ := hcs
  exact ⟨_, _, _, rfl, xs, hl, hC, hg⟩

theorem open63 {H : Type} {enc : TypeId × Value → H} {w : World} {base b0 : Nat} {spare : Nat → Bool} {held : Bool} {r : Go.Reach} {v : Value} {x : DataW H} {p : List MemPlace} (hv : Value.okWide Try.prog w r b0 63 v)
    (h : DataW.Trod enc Try.prog w base spare held 63 v x p) : ∃ id name may A n c xs, v = .agg #[.int .i64 id, .string name, .bool may, .slice A n c] ∧ n ≤ c ∧ k43.C w A n xs ∧ name.size ≤ maxLen ∧ (Lit.int .i64 id).wf = true ∧ ∀ z ∈ xs, (Lit.int .u32 z.f0).wf = true := by
  obtain ⟨v0, v1, v2, v3, y0, y1, y2, y3, n, rfl, _, _, h0, h1, h2, h3⟩ := open_agg4 Try.underlying63 (by kernel_rfl) (by kernel_rfl) hv h
  obtain ⟨id, e0, _, w0⟩ := DataW.trod_int Try.underlying3 h0
  obtain ⟨name, e1, _, w1⟩ := DataW.trod_string Try.underlying9 h1
  obtain ⟨may, e2, _⟩ := DataW.trod_bool Try.underlying4 h2
  obtain rfl : v0 = _ := by simpa using e0
  obtain rfl : v1 = _ := by simpa using e1
  obtain rfl : v2 = _ := by simpa using e2
  obtain ⟨A', n', c', hcs, hl, xs, hC, hg⟩ := Opn.open_row k43 (fun z => (Lit.int .u32 z.f0).wf = true) Try.underlying35 (by kernel_rfl) (fun n cs' y hy hlen => by
    obtain ⟨m, hfs⟩ := Opn.fields_of Try.underlying43 (by kernel_rfl) hy
    match cs', hlen with
    | [c0, c1], _ =>
      obtain ⟨y0, h0⟩ := hfs 0 _ c0 rfl rfl
      obtain ⟨y1, h1⟩ := hfs 1 _ c1 rfl rfl
      obtain ⟨n0, e0, _, w0⟩ := DataW.trod_int Try.underlying39 h0
      obtain ⟨b1, e1, _⟩ := DataW.trod_bool Try.underlying4 h1
      obtain rfl : c0 = _ := by simpa using e0
      obtain rfl : c1 = _ := by simpa using e1
      exact ⟨⟨n0, b1⟩, k43_mk _ _, w0⟩) h3
  obtain rfl : v3 = _ := by simpa using hcs
  exact ⟨id, name, may, A', n', c', xs, rfl, hl, hC, w1, w0, hg⟩
theorem become_wr (fst : List S43) (s : PS) (m st c : Int) (h : 0 ≤ s.wr) : 0 ≤ (s.become fst m st c).wr ∧ (s.become fst m st c).wr ≤ s.wr := by
  unfold PS.become; split <;> (try split) <;> simp <;> omega
theorem become_starts (fst : List S43) (s : PS) (m st c : Int) : (s.become fst m st c).starts = if st = 0 then s.starts else s.starts + 1 := by
  unfold PS.become; split <;> (try split) <;> simp_all
theorem become_cause (fst : List S43) (s : PS) (m st c : Int) : (s.become fst m st c).cause = if st = 0 then s.cause else c := by
  unfold PS.become; split <;> (try split) <;> simp_all
theorem become_len (fst : List S43) (s : PS) (m st c : Int) (h : s.now.length = fst.length) : (s.become fst m st c).now.length = fst.length := by
  unfold PS.become; split <;> (try split) <;> simp [back_len, h]
theorem setMode_wr (fst : List S43) (s : PS) (want : Int) (h : 0 ≤ s.wr) : 0 ≤ (s.setMode fst want).wr ∧ (s.setMode fst want).wr ≤ s.wr := by
  unfold PS.setMode; split
  · exact become_wr _ _ _ _ _ h
  · exact ⟨h, Int.le_refl _⟩
theorem act_wr (fst : List S43) (s : PS) (a : Int) (h : 0 ≤ s.wr) : 0 ≤ (s.act fst a).wr ∧ (s.act fst a).wr ≤ s.wr := by
  unfold PS.act; split
  · exact ⟨h, Int.le_refl _⟩
  · exact become_wr _ _ _ _ _ h
theorem write_wr (s : PS) (i x : Int) (h : 0 ≤ s.wr) : 0 ≤ (s.write i x).wr ∧ (s.write i x).wr ≤ s.wr + 1 := by
  unfold PS.write; split
  · exact ⟨setM_lo _ _ _ h, setM_hi _ _ _ _ (Int.le_refl _)⟩
  · exact ⟨h, by omega⟩
theorem setMode_len (fst : List S43) (s : PS) (want : Int) (h : s.now.length = fst.length) : (s.setMode fst want).now.length = fst.length := by
  unfold PS.setMode; split
  · exact become_len _ _ _ _ _ h
  · exact h
theorem act_len (fst : List S43) (s : PS) (a : Int) (h : s.now.length = fst.length) : (s.act fst a).now.length = fst.length := by
  unfold PS.act; split
  · exact h
  · exact become_len _ _ _ _ _ h
theorem write_len (fst : List S43) (s : PS) (i x : Int) (h : s.now.length = fst.length) : (s.write i x).now.length = fst.length := by
  unfold PS.write; split
  · exact (setN_len _ _ _).trans h
  · exact h
theorem write_starts (s : PS) (i x : Int) : (s.write i x).starts = s.starts ∧ (s.write i x).cause = s.cause ∧ (s.write i x).mode = s.mode := by
  unfold PS.write; split <;> simp
theorem mset_ok_start (now want : Int) (h : (mset now want).2.2 = 0) : (mset now want).2.1 = strt want := by
  unfold mset Go.Proofs.Ytkmhgolohppliaa.Mod.setM at h ⊢
  split
  · rfl
  · rename_i hn; rw [if_neg hn] at h; exact absurd h hn
theorem setMode_grant (fst : List S43) (s : PS) (want : Int) (h : (mset s.mode want).2.2 = 0) (hw : want = 1 ∨ want = 2) : (s.setMode fst want).starts = s.starts + 1 ∧ (s.setMode fst want).cause = 1 := by
  unfold PS.setMode
  rw [if_pos h, become_starts, become_cause, mset_ok_start _ _ h]
  rcases hw with rfl | rfl <;> simp [strt]
theorem setMode_plain (fst : List S43) (s : PS) (want : Int) (hw : (mset s.mode want).2.2 ≠ 0 ∨ (want ≠ 1 ∧ want ≠ 2)) : (s.setMode fst want).starts = s.starts ∧ (s.setMode fst want).cause = s.cause := by
  unfold PS.setMode
  split
  · rename_i h
    have hw2 := hw.resolve_left (fun hn => hn h)
    rw [become_starts, become_cause, mset_ok_start _ _ h]
    simp [strt, hw2.1, hw2.2]
  · exact ⟨rfl, rfl⟩
theorem act_grant (fst : List S43) (s : PS) (a : Int) (h : (actM s.mode a).2.1 ≠ 0) : (s.act fst a).starts = s.starts + 1 ∧ (s.act fst a).cause = 2 := by
  unfold PS.act
  rw [if_neg h, become_starts, become_cause, if_neg h, if_neg h]; exact ⟨rfl, rfl⟩
theorem act_plain (fst : List S43) (s : PS) (a : Int) (h : (actM s.mode a).2.1 = 0) : (s.act fst a) = s := by
  unfold PS.act
  rw [if_pos h]
theorem setMode_code (h : St l w0 w) (k : Nat) (e : l[k]? = some (part g id name may fst s)) (want c3 : Int) (hc : c3 = (mset s.mode want).2.2) (hs0 : 0 ≤ s.starts) (hs1 : s.starts ≤ 1000000) (hn : fst.length ≤ 1000000) : Calls Try.prog 40 #[.pointer (some ⟨g, 0, none⟩), .int .i64 want] w fun e w' => e = .returned (.int .i64 c3) ∧ St (l.set k (part g id name may fst (s.setMode fst want))) w0 w' := by
  rw [hc]; exact setMode_at h k e want hs0 hs1 hn
theorem act_told (h : St l w0 w) (k : Nat) (e : l[k]? = some (part g id name may fst s)) (want : Int) (b : Bool) (hb : b = !decide ((actM s.mode want).2.1 = 0)) (hs0 : 0 ≤ s.starts) (hs1 : s.starts ≤ 1000000) (hn : fst.length ≤ 1000000) : Calls Try.prog 41 #[.pointer (some ⟨g, 0, none⟩), .int .i64 want] w fun e w' => e = .returned (.bool b) ∧ St (l.set k (part g id name may fst (s.act fst want))) w0 w' := by
  rw [hb]; exact act_at h k e want hs0 hs1 hn
theorem starts_is (h : St l w0 w) (n : Nat) (e : l[n]? = some (part g id name may fst s)) (k : Int) (hk : s.starts = k) : Calls Try.prog 43 #[.pointer (some ⟨g, 0, none⟩)] w fun e w' => e = .returned (.int .i64 k) ∧ w = w' := by
  rw [← hk]; exact starts_st h n e
theorem cause_is (h : St l w0 w) (n : Nat) (e : l[n]? = some (part g id name may fst s)) (k : Int) (hk : s.cause = k) : Calls Try.prog 44 #[.pointer (some ⟨g, 0, none⟩)] w fun e w' => e = .returned (.int .i64 k) ∧ w = w' := by
  rw [← hk]; exact cause_st h n e
end Go.Proofs.Ytkmhgolohppliaa.Prt
