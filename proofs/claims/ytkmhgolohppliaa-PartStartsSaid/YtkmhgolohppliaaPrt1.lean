/- A partition in memory: what each call of it comes to. -/
import Derived.Test.YtkmhgolohppliaaCl3
import Derived.Test.YtkmhgolohppliaaMod2
import Derived.Test.YtkmhgolohppliaaSlm
namespace Go.Proofs.Ytkmhgolohppliaa.Prt
open Go.RowKit Go.Proofs.Ytkmhgolohppliaa.PCellsPlays Go.Proofs.YtkmhgolohppliaaW.PrintWords Go.Proofs.YtkmhgolohppliaaW.PrintLast Go.Proofs.YtkmhgolohppliaaW.PrintMore Go.Proofs.Ytkmhgolohppliaa.Mine Go.Proofs.Ytkmhgolohppliaa.Cel Go.Proofs.Ytkmhgolohppliaa.Cls
open Go.Proofs.Ytkmhgolohppliaa.Sl (SL Stp St No)
open Go.Proofs.Ytkmhgolohppliaa.Mod (mode_Set.f mode_Act.f mode_Runs.f mode_Set.calls mode_Act.calls mode_Runs.calls mode_Set.mono mode_Act.mono strt actM runs right askd set_at act_at)
set_option linter.unusedVariables false
set_option linter.unusedSimpArgs false
attribute [local go_sem] max2_int min2_int max_two min_two max_three min_three max_four min_four
variable {l : List SL} {w0 w : World} {g : Nat}

/-- What Set and Act make of a mode. -/
abbrev mset := Go.Proofs.Ytkmhgolohppliaa.Mod.setM
theorem mset_calls (now want : Int) (w : World) : Calls Try.prog 19 #[.int .i64 now, .int .i64 want] w fun e w' => e = .returned (.agg #[.int .i64 (mset now want).1, .int .i64 (mset now want).2.1, .int .i64 (mset now want).2.2]) ∧ Below w.heap.size w w' :=
  mode_Set.calls 5 now want _ _ _ w (at_rounds (fun k => mode_Set.mono now want k) (by omega) (set_at now want))
theorem mact_calls (now a : Int) (w : World) : Calls Try.prog 20 #[.int .i64 now, .int .i64 a] w fun e w' => e = .returned (.agg #[.int .i64 (actM now a).1, .int .i64 (actM now a).2.1, .int .i64 (actM now a).2.2]) ∧ Below w.heap.size w w' :=
  mode_Act.calls 5 now a _ _ _ w (at_rounds (fun k => mode_Act.mono now a k) (by omega) (act_at now a))
theorem mset_st (h : St l w0 w) (now want : Int) : Calls Try.prog 19 #[.int .i64 now, .int .i64 want] w fun e w' => e = .returned (.agg #[.int .i64 (mset now want).1, .int .i64 (mset now want).2.1, .int .i64 (mset now want).2.2]) ∧ St l w0 w' :=
  (mset_calls now want w).mono fun _ _ ⟨he, hb⟩ => ⟨he, h.then_ hb⟩
theorem mact_st (h : St l w0 w) (now a : Int) : Calls Try.prog 20 #[.int .i64 now, .int .i64 a] w fun e w' => e = .returned (.agg #[.int .i64 (actM now a).1, .int .i64 (actM now a).2.1, .int .i64 (actM now a).2.2]) ∧ St l w0 w' :=
  (mact_calls now a w).mono fun _ _ ⟨he, hb⟩ => ⟨he, h.then_ hb⟩
theorem runs_st (h : St l w0 w) (m : Int) : Calls Try.prog 21 #[.int .i64 m] w fun e w' => e = .returned (.bool (runs m)) ∧ St l w0 w' :=
  (mode_Runs.calls m _ w (Go.Proofs.Ytkmhgolohppliaa.Mod.runs_at m)).mono fun _ _ ⟨he, hd⟩ => ⟨he, h.drawn hd⟩

/-- What a partition is: its mode, its starts, their cause, its cells' numbers, how often these were written. -/
structure PS where
  mode : Int
  starts : Int
  cause : Int
  now : List Int
  wr : Int
/-- A start: none, warm, cold. -/
def PS.become (fst : List S43) (s : PS) (m start cause : Int) : PS :=
  if start = 0 then ⟨m, s.starts, s.cause, s.now, s.wr⟩ else if start = 1 then ⟨m, s.starts + 1, cause, back false fst s.now fst.length, s.wr⟩ else ⟨m, s.starts + 1, cause, fst.map (·.f0), 0⟩
def PS.setMode (fst : List S43) (s : PS) (want : Int) : PS := if (mset s.mode want).2.2 = 0 then s.become fst (mset s.mode want).1 (mset s.mode want).2.1 1 else s
def PS.act (fst : List S43) (s : PS) (a : Int) : PS := if (actM s.mode a).2.1 = 0 then s else s.become fst (actM s.mode a).1 (actM s.mode a).2.1 2
def PS.cell (s : PS) (i : Int) : Int := if runs s.mode = true then (if inB i s.now.length = true then 0 else 3) else 5
def PS.write (s : PS) (i v : Int) : PS := if s.cell i = 0 then ⟨s.mode, s.starts, s.cause, setN s.now i v, setM s.now i s.wr⟩ else s
def PS.init (fst : List S43) : PS := ⟨1, 1, 0, fst.map (·.f0), 0⟩
theorem mset_start (now want : Int) : (mset now want).2.1 = 0 ∨ (mset now want).2.1 = 1 ∨ (mset now want).2.1 = 2 := by
  unfold mset Go.Proofs.Ytkmhgolohppliaa.Mod.setM strt
  split <;> (try (split <;> (try split))) <;> simp
theorem act_start (now a : Int) : (actM now a).2.1 = 0 ∨ (actM now a).2.1 = 1 ∨ (actM now a).2.1 = 2 := by
  unfold actM
  repeat' split
  all_goals simp
/-- A partition, owned. -/
def part (g : Nat) (id : Int) (name : ByteArray) (may : Bool) (fst : List S43) (s : PS) : SL :=
  SL.ex fun A : Option Addr => SL.ex fun n : Nat => SL.ex fun c : Nat => SL.ex fun cg : Nat =>
    SL.star (SL.blk g 73 #[.int .i64 s.mode, .int .i64 s.starts, .int .i64 s.cause, .int .i64 id, .string name, .bool may, .slice A n c, .pointer (some ⟨cg, 0, none⟩)]) (cells cg fst s.now s.wr)
variable {id : Int} {name : ByteArray} {may : Bool} {fst : List S43} {s : PS}
theorem open_part (h : St (part g id name may fst s :: l) w0 w) : ∃ A n c cg, St (SL.blk g 73 #[.int .i64 s.mode, .int .i64 s.starts, .int .i64 s.cause, .int .i64 id, .string name, .bool may, .slice A n c, .pointer (some ⟨cg, 0, none⟩)] :: cells cg fst s.now s.wr :: l) w0 w := by
  obtain ⟨A, h⟩ := h.unex
  obtain ⟨n, h⟩ := h.unex
  obtain ⟨c, h⟩ := h.unex
  obtain ⟨cg, h⟩ := h.unex
  exact ⟨A, n, c, cg, h.part⟩
theorem shut_part {A : Option Addr} {n c cg : Nat} (h : St (SL.blk g 73 #[.int .i64 s.mode, .int .i64 s.starts, .int .i64 s.cause, .int .i64 id, .string name, .bool may, .slice A n c, .pointer (some ⟨cg, 0, none⟩)] :: cells cg fst s.now s.wr :: l) w0 w) : St (part g id name may fst s :: l) w0 w :=
  St.mkex A (St.mkex n (St.mkex c (St.mkex cg h.pair)))
theorem starts_hd (h : St (part g id name may fst s :: l) w0 w) : Calls Try.prog 43 #[.pointer (some ⟨g, 0, none⟩)] w fun e w' => e = .returned (.int .i64 s.starts) ∧ w = w' := by
  obtain ⟨m0, s0, u0, now0, q0⟩ := s
  obtain ⟨A, n, c, cg, hS⟩ := open_part h
  have HS := Go.Lib.hid hS
  clear hS h
  have c0_0 : w.cell? ⟨g, 0, none⟩ = some (.int .i64 m0) := HS.out.cell 0 _ _ _ rfl 0
  have f0_0 : w.frozen? ⟨g, 0, none⟩ = false := HS.out.free 0 _ _ _ rfl 0
  have c0_1 : w.cell? ⟨g, 1, none⟩ = some (.int .i64 s0) := HS.out.cell 0 _ _ _ rfl 1
  have f0_1 : w.frozen? ⟨g, 1, none⟩ = false := HS.out.free 0 _ _ _ rfl 1
  have c0_2 : w.cell? ⟨g, 2, none⟩ = some (.int .i64 u0) := HS.out.cell 0 _ _ _ rfl 2
  have f0_2 : w.frozen? ⟨g, 2, none⟩ = false := HS.out.free 0 _ _ _ rfl 2
  have c0_3 : w.cell? ⟨g, 3, none⟩ = some (.int .i64 id) := HS.out.cell 0 _ _ _ rfl 3
  have f0_3 : w.frozen? ⟨g, 3, none⟩ = false := HS.out.free 0 _ _ _ rfl 3
  have c0_4 : w.cell? ⟨g, 4, none⟩ = some (.string name) := HS.out.cell 0 _ _ _ rfl 4
  have f0_4 : w.frozen? ⟨g, 4, none⟩ = false := HS.out.free 0 _ _ _ rfl 4
  have c0_5 : w.cell? ⟨g, 5, none⟩ = some (.bool may) := HS.out.cell 0 _ _ _ rfl 5
  have f0_5 : w.frozen? ⟨g, 5, none⟩ = false := HS.out.free 0 _ _ _ rfl 5
  have c0_6 : w.cell? ⟨g, 6, none⟩ = some (.slice A n c) := HS.out.cell 0 _ _ _ rfl 6
  have f0_6 : w.frozen? ⟨g, 6, none⟩ = false := HS.out.free 0 _ _ _ rfl 6
  have c0_7 : w.cell? ⟨g, 7, none⟩ = some (.pointer (some ⟨cg, 0, none⟩)) := HS.out.cell 0 _ _ _ rfl 7
  have f0_7 : w.frozen? ⟨g, 7, none⟩ = false := HS.out.free 0 _ _ _ rfl 7
  go_enter Try.func43, Try.ntmps43
  go_wp2_with fail
  go_ret
  exact ⟨rfl, rfl⟩
theorem starts_st (h : St l w0 w) (n : Nat) (e : l[n]? = some (part g id name may fst s)) : Calls Try.prog 43 #[.pointer (some ⟨g, 0, none⟩)] w fun e w' => e = .returned (.int .i64 s.starts) ∧ w = w' := starts_hd (h.front n _ e)
theorem cause_hd (h : St (part g id name may fst s :: l) w0 w) : Calls Try.prog 44 #[.pointer (some ⟨g, 0, none⟩)] w fun e w' => e = .returned (.int .i64 s.cause) ∧ w = w' := by
  obtain ⟨m0, s0, u0, now0, q0⟩ := s
  obtain ⟨A, n, c, cg, hS⟩ := open_part h
  have HS := Go.Lib.hid hS
  clear hS h
  have c0_0 : w.cell? ⟨g, 0, none⟩ = some (.int .i64 m0) := HS.out.cell 0 _ _ _ rfl 0
  have f0_0 : w.frozen? ⟨g, 0, none⟩ = false := HS.out.free 0 _ _ _ rfl 0
  have c0_1 : w.cell? ⟨g, 1, none⟩ = some (.int .i64 s0) := HS.out.cell 0 _ _ _ rfl 1
  have f0_1 : w.frozen? ⟨g, 1, none⟩ = false := HS.out.free 0 _ _ _ rfl 1
  have c0_2 : w.cell? ⟨g, 2, none⟩ = some (.int .i64 u0) := HS.out.cell 0 _ _ _ rfl 2
  have f0_2 : w.frozen? ⟨g, 2, none⟩ = false := HS.out.free 0 _ _ _ rfl 2
  have c0_3 : w.cell? ⟨g, 3, none⟩ = some (.int .i64 id) := HS.out.cell 0 _ _ _ rfl 3
  have f0_3 : w.frozen? ⟨g, 3, none⟩ = false := HS.out.free 0 _ _ _ rfl 3
  have c0_4 : w.cell? ⟨g, 4, none⟩ = some (.string name) := HS.out.cell 0 _ _ _ rfl 4
  have f0_4 : w.frozen? ⟨g, 4, none⟩ = false := HS.out.free 0 _ _ _ rfl 4
  have c0_5 : w.cell? ⟨g, 5, none⟩ = some (.bool may) := HS.out.cell 0 _ _ _ rfl 5
  have f0_5 : w.frozen? ⟨g, 5, none⟩ = false := HS.out.free 0 _ _ _ rfl 5
  have c0_6 : w.cell? ⟨g, 6, none⟩ = some (.slice A n c) := HS.out.cell 0 _ _ _ rfl 6
  have f0_6 : w.frozen? ⟨g, 6, none⟩ = false := HS.out.free 0 _ _ _ rfl 6
  have c0_7 : w.cell? ⟨g, 7, none⟩ = some (.pointer (some ⟨cg, 0, none⟩)) := HS.out.cell 0 _ _ _ rfl 7
  have f0_7 : w.frozen? ⟨g, 7, none⟩ = false := HS.out.free 0 _ _ _ rfl 7
  go_enter Try.func44, Try.ntmps44
  go_wp2_with fail
  go_ret
  exact ⟨rfl, rfl⟩
theorem cause_st (h : St l w0 w) (n : Nat) (e : l[n]? = some (part g id name may fst s)) : Calls Try.prog 44 #[.pointer (some ⟨g, 0, none⟩)] w fun e w' => e = .returned (.int .i64 s.cause) ∧ w = w' := cause_hd (h.front n _ e)
theorem mode_hd (h : St (part g id name may fst s :: l) w0 w) : Calls Try.prog 53 #[.pointer (some ⟨g, 0, none⟩)] w fun e w' => e = .returned (.int .i64 s.mode) ∧ w = w' := by
  obtain ⟨m0, s0, u0, now0, q0⟩ := s
  obtain ⟨A, n, c, cg, hS⟩ := open_part h
  have HS := Go.Lib.hid hS
  clear hS h
  have c0_0 : w.cell? ⟨g, 0, none⟩ = some (.int .i64 m0) := HS.out.cell 0 _ _ _ rfl 0
  have f0_0 : w.frozen? ⟨g, 0, none⟩ = false := HS.out.free 0 _ _ _ rfl 0
  have c0_1 : w.cell? ⟨g, 1, none⟩ = some (.int .i64 s0) := HS.out.cell 0 _ _ _ rfl 1
  have f0_1 : w.frozen? ⟨g, 1, none⟩ = false := HS.out.free 0 _ _ _ rfl 1
  have c0_2 : w.cell? ⟨g, 2, none⟩ = some (.int .i64 u0) := HS.out.cell 0 _ _ _ rfl 2
  have f0_2 : w.frozen? ⟨g, 2, none⟩ = false := HS.out.free 0 _ _ _ rfl 2
  have c0_3 : w.cell? ⟨g, 3, none⟩ = some (.int .i64 id) := HS.out.cell 0 _ _ _ rfl 3
  have f0_3 : w.frozen? ⟨g, 3, none⟩ = false := HS.out.free 0 _ _ _ rfl 3
  have c0_4 : w.cell? ⟨g, 4, none⟩ = some (.string name) := HS.out.cell 0 _ _ _ rfl 4
  have f0_4 : w.frozen? ⟨g, 4, none⟩ = false := HS.out.free 0 _ _ _ rfl 4
  have c0_5 : w.cell? ⟨g, 5, none⟩ = some (.bool may) := HS.out.cell 0 _ _ _ rfl 5
  have f0_5 : w.frozen? ⟨g, 5, none⟩ = false := HS.out.free 0 _ _ _ rfl 5
  have c0_6 : w.cell? ⟨g, 6, none⟩ = some (.slice A n c) := HS.out.cell 0 _ _ _ rfl 6
  have f0_6 : w.frozen? ⟨g, 6, none⟩ = false := HS.out.free 0 _ _ _ rfl 6
  have c0_7 : w.cell? ⟨g, 7, none⟩ = some (.pointer (some ⟨cg, 0, none⟩)) := HS.out.cell 0 _ _ _ rfl 7
  have f0_7 : w.frozen? ⟨g, 7, none⟩ = false := HS.out.free 0 _ _ _ rfl 7
  go_enter Try.func53, Try.ntmps53
  go_wp2_with fail
  go_ret
  exact ⟨rfl, rfl⟩
theorem mode_st (h : St l w0 w) (n : Nat) (e : l[n]? = some (part g id name may fst s)) : Calls Try.prog 53 #[.pointer (some ⟨g, 0, none⟩)] w fun e w' => e = .returned (.int .i64 s.mode) ∧ w = w' := mode_hd (h.front n _ e)
theorem id_hd (h : St (part g id name may fst s :: l) w0 w) : Calls Try.prog 50 #[.pointer (some ⟨g, 0, none⟩)] w fun e w' => e = .returned (.int .i64 id) ∧ w = w' := by
  obtain ⟨m0, s0, u0, now0, q0⟩ := s
  obtain ⟨A, n, c, cg, hS⟩ := open_part h
  have HS := Go.Lib.hid hS
  clear hS h
  have c0_0 : w.cell? ⟨g, 0, none⟩ = some (.int .i64 m0) := HS.out.cell 0 _ _ _ rfl 0
  have f0_0 : w.frozen? ⟨g, 0, none⟩ = false := HS.out.free 0 _ _ _ rfl 0
  have c0_1 : w.cell? ⟨g, 1, none⟩ = some (.int .i64 s0) := HS.out.cell 0 _ _ _ rfl 1
  have f0_1 : w.frozen? ⟨g, 1, none⟩ = false := HS.out.free 0 _ _ _ rfl 1
  have c0_2 : w.cell? ⟨g, 2, none⟩ = some (.int .i64 u0) := HS.out.cell 0 _ _ _ rfl 2
  have f0_2 : w.frozen? ⟨g, 2, none⟩ = false := HS.out.free 0 _ _ _ rfl 2
  have c0_3 : w.cell? ⟨g, 3, none⟩ = some (.int .i64 id) := HS.out.cell 0 _ _ _ rfl 3
  have f0_3 : w.frozen? ⟨g, 3, none⟩ = false := HS.out.free 0 _ _ _ rfl 3
  have c0_4 : w.cell? ⟨g, 4, none⟩ = some (.string name) := HS.out.cell 0 _ _ _ rfl 4
  have f0_4 : w.frozen? ⟨g, 4, none⟩ = false := HS.out.free 0 _ _ _ rfl 4
  have c0_5 : w.cell? ⟨g, 5, none⟩ = some (.bool may) := HS.out.cell 0 _ _ _ rfl 5
  have f0_5 : w.frozen? ⟨g, 5, none⟩ = false := HS.out.free 0 _ _ _ rfl 5
  have c0_6 : w.cell? ⟨g, 6, none⟩ = some (.slice A n c) := HS.out.cell 0 _ _ _ rfl 6
  have f0_6 : w.frozen? ⟨g, 6, none⟩ = false := HS.out.free 0 _ _ _ rfl 6
  have c0_7 : w.cell? ⟨g, 7, none⟩ = some (.pointer (some ⟨cg, 0, none⟩)) := HS.out.cell 0 _ _ _ rfl 7
  have f0_7 : w.frozen? ⟨g, 7, none⟩ = false := HS.out.free 0 _ _ _ rfl 7
  go_enter Try.func50, Try.ntmps50
  go_wp2_with fail
  go_ret
  exact ⟨rfl, rfl⟩
theorem id_st (h : St l w0 w) (n : Nat) (e : l[n]? = some (part g id name may fst s)) : Calls Try.prog 50 #[.pointer (some ⟨g, 0, none⟩)] w fun e w' => e = .returned (.int .i64 id) ∧ w = w' := id_hd (h.front n _ e)
theorem name_hd (h : St (part g id name may fst s :: l) w0 w) : Calls Try.prog 51 #[.pointer (some ⟨g, 0, none⟩)] w fun e w' => e = .returned (.string name) ∧ w = w' := by
  obtain ⟨m0, s0, u0, now0, q0⟩ := s
  obtain ⟨A, n, c, cg, hS⟩ := open_part h
  have HS := Go.Lib.hid hS
  clear hS h
  have c0_0 : w.cell? ⟨g, 0, none⟩ = some (.int .i64 m0) := HS.out.cell 0 _ _ _ rfl 0
  have f0_0 : w.frozen? ⟨g, 0, none⟩ = false := HS.out.free 0 _ _ _ rfl 0
  have c0_1 : w.cell? ⟨g, 1, none⟩ = some (.int .i64 s0) := HS.out.cell 0 _ _ _ rfl 1
  have f0_1 : w.frozen? ⟨g, 1, none⟩ = false := HS.out.free 0 _ _ _ rfl 1
  have c0_2 : w.cell? ⟨g, 2, none⟩ = some (.int .i64 u0) := HS.out.cell 0 _ _ _ rfl 2
  have f0_2 : w.frozen? ⟨g, 2, none⟩ = false := HS.out.free 0 _ _ _ rfl 2
  have c0_3 : w.cell? ⟨g, 3, none⟩ = some (.int .i64 id) := HS.out.cell 0 _ _ _ rfl 3
  have f0_3 : w.frozen? ⟨g, 3, none⟩ = false := HS.out.free 0 _ _ _ rfl 3
  have c0_4 : w.cell? ⟨g, 4, none⟩ = some (.string name) := HS.out.cell 0 _ _ _ rfl 4
  have f0_4 : w.frozen? ⟨g, 4, none⟩ = false := HS.out.free 0 _ _ _ rfl 4
  have c0_5 : w.cell? ⟨g, 5, none⟩ = some (.bool may) := HS.out.cell 0 _ _ _ rfl 5
  have f0_5 : w.frozen? ⟨g, 5, none⟩ = false := HS.out.free 0 _ _ _ rfl 5
  have c0_6 : w.cell? ⟨g, 6, none⟩ = some (.slice A n c) := HS.out.cell 0 _ _ _ rfl 6
  have f0_6 : w.frozen? ⟨g, 6, none⟩ = false := HS.out.free 0 _ _ _ rfl 6
  have c0_7 : w.cell? ⟨g, 7, none⟩ = some (.pointer (some ⟨cg, 0, none⟩)) := HS.out.cell 0 _ _ _ rfl 7
  have f0_7 : w.frozen? ⟨g, 7, none⟩ = false := HS.out.free 0 _ _ _ rfl 7
  go_enter Try.func51, Try.ntmps51
  go_wp2_with fail
  go_ret
  exact ⟨rfl, rfl⟩
theorem name_st (h : St l w0 w) (n : Nat) (e : l[n]? = some (part g id name may fst s)) : Calls Try.prog 51 #[.pointer (some ⟨g, 0, none⟩)] w fun e w' => e = .returned (.string name) ∧ w = w' := name_hd (h.front n _ e)
theorem may_hd (h : St (part g id name may fst s :: l) w0 w) : Calls Try.prog 52 #[.pointer (some ⟨g, 0, none⟩)] w fun e w' => e = .returned (.bool may) ∧ w = w' := by
  obtain ⟨m0, s0, u0, now0, q0⟩ := s
  obtain ⟨A, n, c, cg, hS⟩ := open_part h
  have HS := Go.Lib.hid hS
  clear hS h
  have c0_0 : w.cell? ⟨g, 0, none⟩ = some (.int .i64 m0) := HS.out.cell 0 _ _ _ rfl 0
  have f0_0 : w.frozen? ⟨g, 0, none⟩ = false := HS.out.free 0 _ _ _ rfl 0
  have c0_1 : w.cell? ⟨g, 1, none⟩ = some (.int .i64 s0) := HS.out.cell 0 _ _ _ rfl 1
  have f0_1 : w.frozen? ⟨g, 1, none⟩ = false := HS.out.free 0 _ _ _ rfl 1
  have c0_2 : w.cell? ⟨g, 2, none⟩ = some (.int .i64 u0) := HS.out.cell 0 _ _ _ rfl 2
  have f0_2 : w.frozen? ⟨g, 2, none⟩ = false := HS.out.free 0 _ _ _ rfl 2
  have c0_3 : w.cell? ⟨g, 3, none⟩ = some (.int .i64 id) := HS.out.cell 0 _ _ _ rfl 3
  have f0_3 : w.frozen? ⟨g, 3, none⟩ = false := HS.out.free 0 _ _ _ rfl 3
  have c0_4 : w.cell? ⟨g, 4, none⟩ = some (.string name) := HS.out.cell 0 _ _ _ rfl 4
  have f0_4 : w.frozen? ⟨g, 4, none⟩ = false := HS.out.free 0 _ _ _ rfl 4
  have c0_5 : w.cell? ⟨g, 5, none⟩ = some (.bool may) := HS.out.cell 0 _ _ _ rfl 5
  have f0_5 : w.frozen? ⟨g, 5, none⟩ = false := HS.out.free 0 _ _ _ rfl 5
  have c0_6 : w.cell? ⟨g, 6, none⟩ = some (.slice A n c) := HS.out.cell 0 _ _ _ rfl 6
  have f0_6 : w.frozen? ⟨g, 6, none⟩ = false := HS.out.free 0 _ _ _ rfl 6
  have c0_7 : w.cell? ⟨g, 7, none⟩ = some (.pointer (some ⟨cg, 0, none⟩)) := HS.out.cell 0 _ _ _ rfl 7
  have f0_7 : w.frozen? ⟨g, 7, none⟩ = false := HS.out.free 0 _ _ _ rfl 7
  go_enter Try.func52, Try.ntmps52
  go_wp2_with fail
  go_ret
  exact ⟨rfl, rfl⟩
theorem may_st (h : St l w0 w) (n : Nat) (e : l[n]? = some (part g id name may fst s)) : Calls Try.prog 52 #[.pointer (some ⟨g, 0, none⟩)] w fun e w' => e = .returned (.bool may) ∧ w = w' := may_hd (h.front n _ e)
theorem results_none {fn : Func} (h : fn.results = #[]) (tmps : Array Value) (P : Program) (w : World) : (results fn tmps).run P w = .ok (.tuple #[]) w := by simp [results, h]
set_option maxHeartbeats 800000 in
theorem become_0 (h : St (part g id name may fst s :: l) w0 w) (m code cause : Int) (hs0 : 0 ≤ s.starts) (hs1 : s.starts ≤ 1000000) (hn : fst.length ≤ 1000000) : Calls Try.prog 99 #[.pointer (some ⟨g, 0, none⟩), .agg #[.int .i64 m, .int .i64 0, .int .i64 code], .int .i64 cause] w fun e w' => e = .returned (.tuple #[]) ∧ St (part g id name may fst (s.become fst m 0 cause) :: l) w0 w' := by
  obtain ⟨m0, s0, u0, now0, q0⟩ := s
  obtain ⟨A, n, c, cg, hS⟩ := open_part h
  have HS := Go.Lib.hid hS
  clear hS h
  have hs0' : 0 ≤ s0 := hs0
  have hs1' : s0 ≤ 1000000 := hs1
  clear hs0 hs1
  have c0_0 : w.cell? ⟨g, 0, none⟩ = some (.int .i64 m0) := HS.out.cell 0 _ _ _ rfl 0
  have f0_0 : w.frozen? ⟨g, 0, none⟩ = false := HS.out.free 0 _ _ _ rfl 0
  have c0_1 : w.cell? ⟨g, 1, none⟩ = some (.int .i64 s0) := HS.out.cell 0 _ _ _ rfl 1
  have f0_1 : w.frozen? ⟨g, 1, none⟩ = false := HS.out.free 0 _ _ _ rfl 1
  have c0_2 : w.cell? ⟨g, 2, none⟩ = some (.int .i64 u0) := HS.out.cell 0 _ _ _ rfl 2
  have f0_2 : w.frozen? ⟨g, 2, none⟩ = false := HS.out.free 0 _ _ _ rfl 2
  have c0_3 : w.cell? ⟨g, 3, none⟩ = some (.int .i64 id) := HS.out.cell 0 _ _ _ rfl 3
  have f0_3 : w.frozen? ⟨g, 3, none⟩ = false := HS.out.free 0 _ _ _ rfl 3
  have c0_4 : w.cell? ⟨g, 4, none⟩ = some (.string name) := HS.out.cell 0 _ _ _ rfl 4
  have f0_4 : w.frozen? ⟨g, 4, none⟩ = false := HS.out.free 0 _ _ _ rfl 4
  have c0_5 : w.cell? ⟨g, 5, none⟩ = some (.bool may) := HS.out.cell 0 _ _ _ rfl 5
  have f0_5 : w.frozen? ⟨g, 5, none⟩ = false := HS.out.free 0 _ _ _ rfl 5
  have c0_6 : w.cell? ⟨g, 6, none⟩ = some (.slice A n c) := HS.out.cell 0 _ _ _ rfl 6
  have f0_6 : w.frozen? ⟨g, 6, none⟩ = false := HS.out.free 0 _ _ _ rfl 6
  have c0_7 : w.cell? ⟨g, 7, none⟩ = some (.pointer (some ⟨cg, 0, none⟩)) := HS.out.cell 0 _ _ _ rfl 7
  have f0_7 : w.frozen? ⟨g, 7, none⟩ = false := HS.out.free 0 _ _ _ rfl 7
  go_enter Try.func99, Try.ntmps99
  go_wp2_with (first | ((with_reducible refine gate_dst (N := 4) rfl ?_); refine Sl.box_st HS.out (by rfl) (cs := #[.int .i64 m, .int .i64 0, .int .i64 code]) (t := 30) ?hr ?_; (case hr => first | (go_simp; done) | (go_simp; rfl)); intro g4 w1_ HSn HBn; clear HBn; replace HS : Hid (St (SL.blk g4 30 #[.int .i64 m, .int .i64 0, .int .i64 code] :: SL.blk g 73 #[.int .i64 m0, .int .i64 s0, .int .i64 u0, .int .i64 id, .string name, .bool may, .slice A n c, .pointer (some ⟨cg, 0, none⟩)] :: cells cg fst now0 q0 :: l) w0 w1_) := Go.Lib.hid HSn; clear HSn; clear c0_0 f0_0 c0_1 f0_1 c0_2 f0_2 c0_3 f0_3 c0_4 f0_4 c0_5 f0_5 c0_6 f0_6 c0_7 f0_7; have c0_0 : w1_.cell? ⟨g4, 0, none⟩ = some (.int .i64 m) := HS.out.cell 0 _ _ _ rfl 0; have f0_0 : w1_.frozen? ⟨g4, 0, none⟩ = false := HS.out.free 0 _ _ _ rfl 0; have c0_1 : w1_.cell? ⟨g4, 1, none⟩ = some (.int .i64 0) := HS.out.cell 0 _ _ _ rfl 1; have f0_1 : w1_.frozen? ⟨g4, 1, none⟩ = false := HS.out.free 0 _ _ _ rfl 1; have c0_2 : w1_.cell? ⟨g4, 2, none⟩ = some (.int .i64 code) := HS.out.cell 0 _ _ _ rfl 2; have f0_2 : w1_.frozen? ⟨g4, 2, none⟩ = false := HS.out.free 0 _ _ _ rfl 2; have c1_0 : w1_.cell? ⟨g, 0, none⟩ = some (.int .i64 m0) := HS.out.cell 1 _ _ _ rfl 0; have f1_0 : w1_.frozen? ⟨g, 0, none⟩ = false := HS.out.free 1 _ _ _ rfl 0; have c1_1 : w1_.cell? ⟨g, 1, none⟩ = some (.int .i64 s0) := HS.out.cell 1 _ _ _ rfl 1; have f1_1 : w1_.frozen? ⟨g, 1, none⟩ = false := HS.out.free 1 _ _ _ rfl 1; have c1_2 : w1_.cell? ⟨g, 2, none⟩ = some (.int .i64 u0) := HS.out.cell 1 _ _ _ rfl 2; have f1_2 : w1_.frozen? ⟨g, 2, none⟩ = false := HS.out.free 1 _ _ _ rfl 2; have c1_3 : w1_.cell? ⟨g, 3, none⟩ = some (.int .i64 id) := HS.out.cell 1 _ _ _ rfl 3; have f1_3 : w1_.frozen? ⟨g, 3, none⟩ = false := HS.out.free 1 _ _ _ rfl 3; have c1_4 : w1_.cell? ⟨g, 4, none⟩ = some (.string name) := HS.out.cell 1 _ _ _ rfl 4; have f1_4 : w1_.frozen? ⟨g, 4, none⟩ = false := HS.out.free 1 _ _ _ rfl 4; have c1_5 : w1_.cell? ⟨g, 5, none⟩ = some (.bool may) := HS.out.cell 1 _ _ _ rfl 5; have f1_5 : w1_.frozen? ⟨g, 5, none⟩ = false := HS.out.free 1 _ _ _ rfl 5; have c1_6 : w1_.cell? ⟨g, 6, none⟩ = some (.slice A n c) := HS.out.cell 1 _ _ _ rfl 6; have f1_6 : w1_.frozen? ⟨g, 6, none⟩ = false := HS.out.free 1 _ _ _ rfl 6; have c1_7 : w1_.cell? ⟨g, 7, none⟩ = some (.pointer (some ⟨cg, 0, none⟩)) := HS.out.cell 1 _ _ _ rfl 7; have f1_7 : w1_.frozen? ⟨g, 7, none⟩ = false := HS.out.free 1 _ _ _ rfl 7; have ne0_1 := HS.out.ne_blk 0 1 _ _ _ _ _ _ rfl rfl (by omega)) | ((with_reducible refine gate_store (p := 11) rfl ?_); refine Sl.store_st HS.out 1 g 73 _ rfl 0 (.int .i64 m) (by rfl) (by rfl) ?hr ?_; (case hr => first | (go_simp; done) | (go_simp; rfl)); intro w2_ HSn; replace HS : Hid (St (SL.blk g4 30 #[.int .i64 m, .int .i64 0, .int .i64 code] :: SL.blk g 73 #[.int .i64 m, .int .i64 s0, .int .i64 u0, .int .i64 id, .string name, .bool may, .slice A n c, .pointer (some ⟨cg, 0, none⟩)] :: cells cg fst now0 q0 :: l) w0 w2_) := Go.Lib.hid HSn; clear HSn; clear c0_0 f0_0 c0_1 f0_1 c0_2 f0_2 c1_0 f1_0 c1_1 f1_1 c1_2 f1_2 c1_3 f1_3 c1_4 f1_4 c1_5 f1_5 c1_6 f1_6 c1_7 f1_7 ne0_1; have c0_0 : w2_.cell? ⟨g4, 0, none⟩ = some (.int .i64 m) := HS.out.cell 0 _ _ _ rfl 0; have f0_0 : w2_.frozen? ⟨g4, 0, none⟩ = false := HS.out.free 0 _ _ _ rfl 0; have c0_1 : w2_.cell? ⟨g4, 1, none⟩ = some (.int .i64 0) := HS.out.cell 0 _ _ _ rfl 1; have f0_1 : w2_.frozen? ⟨g4, 1, none⟩ = false := HS.out.free 0 _ _ _ rfl 1; have c0_2 : w2_.cell? ⟨g4, 2, none⟩ = some (.int .i64 code) := HS.out.cell 0 _ _ _ rfl 2; have f0_2 : w2_.frozen? ⟨g4, 2, none⟩ = false := HS.out.free 0 _ _ _ rfl 2; have c1_0 : w2_.cell? ⟨g, 0, none⟩ = some (.int .i64 m) := HS.out.cell 1 _ _ _ rfl 0; have f1_0 : w2_.frozen? ⟨g, 0, none⟩ = false := HS.out.free 1 _ _ _ rfl 0; have c1_1 : w2_.cell? ⟨g, 1, none⟩ = some (.int .i64 s0) := HS.out.cell 1 _ _ _ rfl 1; have f1_1 : w2_.frozen? ⟨g, 1, none⟩ = false := HS.out.free 1 _ _ _ rfl 1; have c1_2 : w2_.cell? ⟨g, 2, none⟩ = some (.int .i64 u0) := HS.out.cell 1 _ _ _ rfl 2; have f1_2 : w2_.frozen? ⟨g, 2, none⟩ = false := HS.out.free 1 _ _ _ rfl 2; have c1_3 : w2_.cell? ⟨g, 3, none⟩ = some (.int .i64 id) := HS.out.cell 1 _ _ _ rfl 3; have f1_3 : w2_.frozen? ⟨g, 3, none⟩ = false := HS.out.free 1 _ _ _ rfl 3; have c1_4 : w2_.cell? ⟨g, 4, none⟩ = some (.string name) := HS.out.cell 1 _ _ _ rfl 4; have f1_4 : w2_.frozen? ⟨g, 4, none⟩ = false := HS.out.free 1 _ _ _ rfl 4; have c1_5 : w2_.cell? ⟨g, 5, none⟩ = some (.bool may) := HS.out.cell 1 _ _ _ rfl 5; have f1_5 : w2_.frozen? ⟨g, 5, none⟩ = false := HS.out.free 1 _ _ _ rfl 5; have c1_6 : w2_.cell? ⟨g, 6, none⟩ = some (.slice A n c) := HS.out.cell 1 _ _ _ rfl 6; have f1_6 : w2_.frozen? ⟨g, 6, none⟩ = false := HS.out.free 1 _ _ _ rfl 6; have c1_7 : w2_.cell? ⟨g, 7, none⟩ = some (.pointer (some ⟨cg, 0, none⟩)) := HS.out.cell 1 _ _ _ rfl 7; have f1_7 : w2_.frozen? ⟨g, 7, none⟩ = false := HS.out.free 1 _ _ _ rfl 7; have ne0_1 := HS.out.ne_blk 0 1 _ _ _ _ _ _ rfl rfl (by omega)))
  have h9 : St (part g id name may fst ⟨m, s0, u0, now0, q0⟩ :: l) w0 w2_ := shut_part HS.out.drop
  have H9 := Go.Lib.hid h9
  clear h9
  refine bodyPost_ret (results_none rfl _ _ _) rfl ⟨rfl, H9.out⟩
set_option maxHeartbeats 800000 in
theorem become_1 (h : St (part g id name may fst s :: l) w0 w) (m code cause : Int) (hs0 : 0 ≤ s.starts) (hs1 : s.starts ≤ 1000000) (hn : fst.length ≤ 1000000) : Calls Try.prog 99 #[.pointer (some ⟨g, 0, none⟩), .agg #[.int .i64 m, .int .i64 1, .int .i64 code], .int .i64 cause] w fun e w' => e = .returned (.tuple #[]) ∧ St (part g id name may fst (s.become fst m 1 cause) :: l) w0 w' := by
  obtain ⟨m0, s0, u0, now0, q0⟩ := s
  obtain ⟨A, n, c, cg, hS⟩ := open_part h
  have HS := Go.Lib.hid hS
  clear hS h
  have hs0' : 0 ≤ s0 := hs0
  have hs1' : s0 ≤ 1000000 := hs1
  clear hs0 hs1
  have c0_0 : w.cell? ⟨g, 0, none⟩ = some (.int .i64 m0) := HS.out.cell 0 _ _ _ rfl 0
  have f0_0 : w.frozen? ⟨g, 0, none⟩ = false := HS.out.free 0 _ _ _ rfl 0
  have c0_1 : w.cell? ⟨g, 1, none⟩ = some (.int .i64 s0) := HS.out.cell 0 _ _ _ rfl 1
  have f0_1 : w.frozen? ⟨g, 1, none⟩ = false := HS.out.free 0 _ _ _ rfl 1
  have c0_2 : w.cell? ⟨g, 2, none⟩ = some (.int .i64 u0) := HS.out.cell 0 _ _ _ rfl 2
  have f0_2 : w.frozen? ⟨g, 2, none⟩ = false := HS.out.free 0 _ _ _ rfl 2
  have c0_3 : w.cell? ⟨g, 3, none⟩ = some (.int .i64 id) := HS.out.cell 0 _ _ _ rfl 3
  have f0_3 : w.frozen? ⟨g, 3, none⟩ = false := HS.out.free 0 _ _ _ rfl 3
  have c0_4 : w.cell? ⟨g, 4, none⟩ = some (.string name) := HS.out.cell 0 _ _ _ rfl 4
  have f0_4 : w.frozen? ⟨g, 4, none⟩ = false := HS.out.free 0 _ _ _ rfl 4
  have c0_5 : w.cell? ⟨g, 5, none⟩ = some (.bool may) := HS.out.cell 0 _ _ _ rfl 5
  have f0_5 : w.frozen? ⟨g, 5, none⟩ = false := HS.out.free 0 _ _ _ rfl 5
  have c0_6 : w.cell? ⟨g, 6, none⟩ = some (.slice A n c) := HS.out.cell 0 _ _ _ rfl 6
  have f0_6 : w.frozen? ⟨g, 6, none⟩ = false := HS.out.free 0 _ _ _ rfl 6
  have c0_7 : w.cell? ⟨g, 7, none⟩ = some (.pointer (some ⟨cg, 0, none⟩)) := HS.out.cell 0 _ _ _ rfl 7
  have f0_7 : w.frozen? ⟨g, 7, none⟩ = false := HS.out.free 0 _ _ _ rfl 7
  go_enter Try.func99, Try.ntmps99
  go_wp2_with (first | ((with_reducible refine gate_dst (N := 4) rfl ?_); refine Sl.box_st HS.out (by rfl) (cs := #[.int .i64 m, .int .i64 1, .int .i64 code]) (t := 30) ?hr ?_; (case hr => first | (go_simp; done) | (go_simp; rfl)); intro g4 w1_ HSn HBn; clear HBn; replace HS : Hid (St (SL.blk g4 30 #[.int .i64 m, .int .i64 1, .int .i64 code] :: SL.blk g 73 #[.int .i64 m0, .int .i64 s0, .int .i64 u0, .int .i64 id, .string name, .bool may, .slice A n c, .pointer (some ⟨cg, 0, none⟩)] :: cells cg fst now0 q0 :: l) w0 w1_) := Go.Lib.hid HSn; clear HSn; clear c0_0 f0_0 c0_1 f0_1 c0_2 f0_2 c0_3 f0_3 c0_4 f0_4 c0_5 f0_5 c0_6 f0_6 c0_7 f0_7; have c0_0 : w1_.cell? ⟨g4, 0, none⟩ = some (.int .i64 m) := HS.out.cell 0 _ _ _ rfl 0; have f0_0 : w1_.frozen? ⟨g4, 0, none⟩ = false := HS.out.free 0 _ _ _ rfl 0; have c0_1 : w1_.cell? ⟨g4, 1, none⟩ = some (.int .i64 1) := HS.out.cell 0 _ _ _ rfl 1; have f0_1 : w1_.frozen? ⟨g4, 1, none⟩ = false := HS.out.free 0 _ _ _ rfl 1; have c0_2 : w1_.cell? ⟨g4, 2, none⟩ = some (.int .i64 code) := HS.out.cell 0 _ _ _ rfl 2; have f0_2 : w1_.frozen? ⟨g4, 2, none⟩ = false := HS.out.free 0 _ _ _ rfl 2; have c1_0 : w1_.cell? ⟨g, 0, none⟩ = some (.int .i64 m0) := HS.out.cell 1 _ _ _ rfl 0; have f1_0 : w1_.frozen? ⟨g, 0, none⟩ = false := HS.out.free 1 _ _ _ rfl 0; have c1_1 : w1_.cell? ⟨g, 1, none⟩ = some (.int .i64 s0) := HS.out.cell 1 _ _ _ rfl 1; have f1_1 : w1_.frozen? ⟨g, 1, none⟩ = false := HS.out.free 1 _ _ _ rfl 1; have c1_2 : w1_.cell? ⟨g, 2, none⟩ = some (.int .i64 u0) := HS.out.cell 1 _ _ _ rfl 2; have f1_2 : w1_.frozen? ⟨g, 2, none⟩ = false := HS.out.free 1 _ _ _ rfl 2; have c1_3 : w1_.cell? ⟨g, 3, none⟩ = some (.int .i64 id) := HS.out.cell 1 _ _ _ rfl 3; have f1_3 : w1_.frozen? ⟨g, 3, none⟩ = false := HS.out.free 1 _ _ _ rfl 3; have c1_4 : w1_.cell? ⟨g, 4, none⟩ = some (.string name) := HS.out.cell 1 _ _ _ rfl 4; have f1_4 : w1_.frozen? ⟨g, 4, none⟩ = false := HS.out.free 1 _ _ _ rfl 4; have c1_5 : w1_.cell? ⟨g, 5, none⟩ = some (.bool may) := HS.out.cell 1 _ _ _ rfl 5; have f1_5 : w1_.frozen? ⟨g, 5, none⟩ = false := HS.out.free 1 _ _ _ rfl 5; have c1_6 : w1_.cell? ⟨g, 6, none⟩ = some (.slice A n c) := HS.out.cell 1 _ _ _ rfl 6; have f1_6 : w1_.frozen? ⟨g, 6, none⟩ = false := HS.out.free 1 _ _ _ rfl 6; have c1_7 : w1_.cell? ⟨g, 7, none⟩ = some (.pointer (some ⟨cg, 0, none⟩)) := HS.out.cell 1 _ _ _ rfl 7; have f1_7 : w1_.frozen? ⟨g, 7, none⟩ = false := HS.out.free 1 _ _ _ rfl 7; have ne0_1 := HS.out.ne_blk 0 1 _ _ _ _ _ _ rfl rfl (by omega)) | ((with_reducible refine gate_store (p := 11) rfl ?_); refine Sl.store_st HS.out 1 g 73 _ rfl 0 (.int .i64 m) (by rfl) (by rfl) ?hr ?_; (case hr => first | (go_simp; done) | (go_simp; rfl)); intro w2_ HSn; replace HS : Hid (St (SL.blk g4 30 #[.int .i64 m, .int .i64 1, .int .i64 code] :: SL.blk g 73 #[.int .i64 m, .int .i64 s0, .int .i64 u0, .int .i64 id, .string name, .bool may, .slice A n c, .pointer (some ⟨cg, 0, none⟩)] :: cells cg fst now0 q0 :: l) w0 w2_) := Go.Lib.hid HSn; clear HSn; clear c0_0 f0_0 c0_1 f0_1 c0_2 f0_2 c1_0 f1_0 c1_1 f1_1 c1_2 f1_2 c1_3 f1_3 c1_4 f1_4 c1_5 f1_5 c1_6 f1_6 c1_7 f1_7 ne0_1; have c0_0 : w2_.cell? ⟨g4, 0, none⟩ = some (.int .i64 m) := HS.out.cell 0 _ _ _ rfl 0; have f0_0 : w2_.frozen? ⟨g4, 0, none⟩ = false := HS.out.free 0 _ _ _ rfl 0; have c0_1 : w2_.cell? ⟨g4, 1, none⟩ = some (.int .i64 1) := HS.out.cell 0 _ _ _ rfl 1; have f0_1 : w2_.frozen? ⟨g4, 1, none⟩ = false := HS.out.free 0 _ _ _ rfl 1; have c0_2 : w2_.cell? ⟨g4, 2, none⟩ = some (.int .i64 code) := HS.out.cell 0 _ _ _ rfl 2; have f0_2 : w2_.frozen? ⟨g4, 2, none⟩ = false := HS.out.free 0 _ _ _ rfl 2; have c1_0 : w2_.cell? ⟨g, 0, none⟩ = some (.int .i64 m) := HS.out.cell 1 _ _ _ rfl 0; have f1_0 : w2_.frozen? ⟨g, 0, none⟩ = false := HS.out.free 1 _ _ _ rfl 0; have c1_1 : w2_.cell? ⟨g, 1, none⟩ = some (.int .i64 s0) := HS.out.cell 1 _ _ _ rfl 1; have f1_1 : w2_.frozen? ⟨g, 1, none⟩ = false := HS.out.free 1 _ _ _ rfl 1; have c1_2 : w2_.cell? ⟨g, 2, none⟩ = some (.int .i64 u0) := HS.out.cell 1 _ _ _ rfl 2; have f1_2 : w2_.frozen? ⟨g, 2, none⟩ = false := HS.out.free 1 _ _ _ rfl 2; have c1_3 : w2_.cell? ⟨g, 3, none⟩ = some (.int .i64 id) := HS.out.cell 1 _ _ _ rfl 3; have f1_3 : w2_.frozen? ⟨g, 3, none⟩ = false := HS.out.free 1 _ _ _ rfl 3; have c1_4 : w2_.cell? ⟨g, 4, none⟩ = some (.string name) := HS.out.cell 1 _ _ _ rfl 4; have f1_4 : w2_.frozen? ⟨g, 4, none⟩ = false := HS.out.free 1 _ _ _ rfl 4; have c1_5 : w2_.cell? ⟨g, 5, none⟩ = some (.bool may) := HS.out.cell 1 _ _ _ rfl 5; have f1_5 : w2_.frozen? ⟨g, 5, none⟩ = false := HS.out.free 1 _ _ _ rfl 5; have c1_6 : w2_.cell? ⟨g, 6, none⟩ = some (.slice A n c) := HS.out.cell 1 _ _ _ rfl 6; have f1_6 : w2_.frozen? ⟨g, 6, none⟩ = false := HS.out.free 1 _ _ _ rfl 6; have c1_7 : w2_.cell? ⟨g, 7, none⟩ = some (.pointer (some ⟨cg, 0, none⟩)) := HS.out.cell 1 _ _ _ rfl 7; have f1_7 : w2_.frozen? ⟨g, 7, none⟩ = false := HS.out.free 1 _ _ _ rfl 7; have ne0_1 := HS.out.ne_blk 0 1 _ _ _ _ _ _ rfl rfl (by omega)) | (go_at_call 27; refine (warm_st HS.out 2 rfl hn).mono ?_; rintro e w3_ ⟨rfl, HSn⟩; replace HS : Hid (St (SL.blk g4 30 #[.int .i64 m, .int .i64 1, .int .i64 code] :: SL.blk g 73 #[.int .i64 m, .int .i64 s0, .int .i64 u0, .int .i64 id, .string name, .bool may, .slice A n c, .pointer (some ⟨cg, 0, none⟩)] :: cells cg fst (back false fst now0 fst.length) q0 :: l) w0 w3_) := Go.Lib.hid HSn; clear HSn; clear c0_0 f0_0 c0_1 f0_1 c0_2 f0_2 c1_0 f1_0 c1_1 f1_1 c1_2 f1_2 c1_3 f1_3 c1_4 f1_4 c1_5 f1_5 c1_6 f1_6 c1_7 f1_7 ne0_1; have c0_0 : w3_.cell? ⟨g4, 0, none⟩ = some (.int .i64 m) := HS.out.cell 0 _ _ _ rfl 0; have f0_0 : w3_.frozen? ⟨g4, 0, none⟩ = false := HS.out.free 0 _ _ _ rfl 0; have c0_1 : w3_.cell? ⟨g4, 1, none⟩ = some (.int .i64 1) := HS.out.cell 0 _ _ _ rfl 1; have f0_1 : w3_.frozen? ⟨g4, 1, none⟩ = false := HS.out.free 0 _ _ _ rfl 1; have c0_2 : w3_.cell? ⟨g4, 2, none⟩ = some (.int .i64 code) := HS.out.cell 0 _ _ _ rfl 2; have f0_2 : w3_.frozen? ⟨g4, 2, none⟩ = false := HS.out.free 0 _ _ _ rfl 2; have c1_0 : w3_.cell? ⟨g, 0, none⟩ = some (.int .i64 m) := HS.out.cell 1 _ _ _ rfl 0; have f1_0 : w3_.frozen? ⟨g, 0, none⟩ = false := HS.out.free 1 _ _ _ rfl 0; have c1_1 : w3_.cell? ⟨g, 1, none⟩ = some (.int .i64 s0) := HS.out.cell 1 _ _ _ rfl 1; have f1_1 : w3_.frozen? ⟨g, 1, none⟩ = false := HS.out.free 1 _ _ _ rfl 1; have c1_2 : w3_.cell? ⟨g, 2, none⟩ = some (.int .i64 u0) := HS.out.cell 1 _ _ _ rfl 2; have f1_2 : w3_.frozen? ⟨g, 2, none⟩ = false := HS.out.free 1 _ _ _ rfl 2; have c1_3 : w3_.cell? ⟨g, 3, none⟩ = some (.int .i64 id) := HS.out.cell 1 _ _ _ rfl 3; have f1_3 : w3_.frozen? ⟨g, 3, none⟩ = false := HS.out.free 1 _ _ _ rfl 3; have c1_4 : w3_.cell? ⟨g, 4, none⟩ = some (.string name) := HS.out.cell 1 _ _ _ rfl 4; have f1_4 : w3_.frozen? ⟨g, 4, none⟩ = false := HS.out.free 1 _ _ _ rfl 4; have c1_5 : w3_.cell? ⟨g, 5, none⟩ = some (.bool may) := HS.out.cell 1 _ _ _ rfl 5; have f1_5 : w3_.frozen? ⟨g, 5, none⟩ = false := HS.out.free 1 _ _ _ rfl 5; have c1_6 : w3_.cell? ⟨g, 6, none⟩ = some (.slice A n c) := HS.out.cell 1 _ _ _ rfl 6; have f1_6 : w3_.frozen? ⟨g, 6, none⟩ = false := HS.out.free 1 _ _ _ rfl 6; have c1_7 : w3_.cell? ⟨g, 7, none⟩ = some (.pointer (some ⟨cg, 0, none⟩)) := HS.out.cell 1 _ _ _ rfl 7; have f1_7 : w3_.frozen? ⟨g, 7, none⟩ = false := HS.out.free 1 _ _ _ rfl 7; have ne0_1 := HS.out.ne_blk 0 1 _ _ _ _ _ _ rfl rfl (by omega)) | ((with_reducible refine gate_store (p := 38) rfl ?_); refine Sl.store_st HS.out 1 g 73 _ rfl 1 (.int .i64 (s0 + 1)) (by rfl) (by rfl) ?hr ?_; (case hr => first | (go_simp; done) | (go_simp; rfl)); intro w4_ HSn; replace HS : Hid (St (SL.blk g4 30 #[.int .i64 m, .int .i64 1, .int .i64 code] :: SL.blk g 73 #[.int .i64 m, .int .i64 (s0 + 1), .int .i64 u0, .int .i64 id, .string name, .bool may, .slice A n c, .pointer (some ⟨cg, 0, none⟩)] :: cells cg fst (back false fst now0 fst.length) q0 :: l) w0 w4_) := Go.Lib.hid HSn; clear HSn; clear c0_0 f0_0 c0_1 f0_1 c0_2 f0_2 c1_0 f1_0 c1_1 f1_1 c1_2 f1_2 c1_3 f1_3 c1_4 f1_4 c1_5 f1_5 c1_6 f1_6 c1_7 f1_7 ne0_1; have c0_0 : w4_.cell? ⟨g4, 0, none⟩ = some (.int .i64 m) := HS.out.cell 0 _ _ _ rfl 0; have f0_0 : w4_.frozen? ⟨g4, 0, none⟩ = false := HS.out.free 0 _ _ _ rfl 0; have c0_1 : w4_.cell? ⟨g4, 1, none⟩ = some (.int .i64 1) := HS.out.cell 0 _ _ _ rfl 1; have f0_1 : w4_.frozen? ⟨g4, 1, none⟩ = false := HS.out.free 0 _ _ _ rfl 1; have c0_2 : w4_.cell? ⟨g4, 2, none⟩ = some (.int .i64 code) := HS.out.cell 0 _ _ _ rfl 2; have f0_2 : w4_.frozen? ⟨g4, 2, none⟩ = false := HS.out.free 0 _ _ _ rfl 2; have c1_0 : w4_.cell? ⟨g, 0, none⟩ = some (.int .i64 m) := HS.out.cell 1 _ _ _ rfl 0; have f1_0 : w4_.frozen? ⟨g, 0, none⟩ = false := HS.out.free 1 _ _ _ rfl 0; have c1_1 : w4_.cell? ⟨g, 1, none⟩ = some (.int .i64 (s0 + 1)) := HS.out.cell 1 _ _ _ rfl 1; have f1_1 : w4_.frozen? ⟨g, 1, none⟩ = false := HS.out.free 1 _ _ _ rfl 1; have c1_2 : w4_.cell? ⟨g, 2, none⟩ = some (.int .i64 u0) := HS.out.cell 1 _ _ _ rfl 2; have f1_2 : w4_.frozen? ⟨g, 2, none⟩ = false := HS.out.free 1 _ _ _ rfl 2; have c1_3 : w4_.cell? ⟨g, 3, none⟩ = some (.int .i64 id) := HS.out.cell 1 _ _ _ rfl 3; have f1_3 : w4_.frozen? ⟨g, 3, none⟩ = false := HS.out.free 1 _ _ _ rfl 3; have c1_4 : w4_.cell? ⟨g, 4, none⟩ = some (.string name) := HS.out.cell 1 _ _ _ rfl 4; have f1_4 : w4_.frozen? ⟨g, 4, none⟩ = false := HS.out.free 1 _ _ _ rfl 4; have c1_5 : w4_.cell? ⟨g, 5, none⟩ = some (.bool may) := HS.out.cell 1 _ _ _ rfl 5; have f1_5 : w4_.frozen? ⟨g, 5, none⟩ = false := HS.out.free 1 _ _ _ rfl 5; have c1_6 : w4_.cell? ⟨g, 6, none⟩ = some (.slice A n c) := HS.out.cell 1 _ _ _ rfl 6; have f1_6 : w4_.frozen? ⟨g, 6, none⟩ = false := HS.out.free 1 _ _ _ rfl 6; have c1_7 : w4_.cell? ⟨g, 7, none⟩ = some (.pointer (some ⟨cg, 0, none⟩)) := HS.out.cell 1 _ _ _ rfl 7; have f1_7 : w4_.frozen? ⟨g, 7, none⟩ = false := HS.out.free 1 _ _ _ rfl 7; have ne0_1 := HS.out.ne_blk 0 1 _ _ _ _ _ _ rfl rfl (by omega)) | ((with_reducible refine gate_store (p := 43) rfl ?_); refine Sl.store_st HS.out 1 g 73 _ rfl 2 (.int .i64 cause) (by rfl) (by rfl) ?hr ?_; (case hr => first | (go_simp; done) | (go_simp; rfl)); intro w5_ HSn; replace HS : Hid (St (SL.blk g4 30 #[.int .i64 m, .int .i64 1, .int .i64 code] :: SL.blk g 73 #[.int .i64 m, .int .i64 (s0 + 1), .int .i64 cause, .int .i64 id, .string name, .bool may, .slice A n c, .pointer (some ⟨cg, 0, none⟩)] :: cells cg fst (back false fst now0 fst.length) q0 :: l) w0 w5_) := Go.Lib.hid HSn; clear HSn; clear c0_0 f0_0 c0_1 f0_1 c0_2 f0_2 c1_0 f1_0 c1_1 f1_1 c1_2 f1_2 c1_3 f1_3 c1_4 f1_4 c1_5 f1_5 c1_6 f1_6 c1_7 f1_7 ne0_1; have c0_0 : w5_.cell? ⟨g4, 0, none⟩ = some (.int .i64 m) := HS.out.cell 0 _ _ _ rfl 0; have f0_0 : w5_.frozen? ⟨g4, 0, none⟩ = false := HS.out.free 0 _ _ _ rfl 0; have c0_1 : w5_.cell? ⟨g4, 1, none⟩ = some (.int .i64 1) := HS.out.cell 0 _ _ _ rfl 1; have f0_1 : w5_.frozen? ⟨g4, 1, none⟩ = false := HS.out.free 0 _ _ _ rfl 1; have c0_2 : w5_.cell? ⟨g4, 2, none⟩ = some (.int .i64 code) := HS.out.cell 0 _ _ _ rfl 2; have f0_2 : w5_.frozen? ⟨g4, 2, none⟩ = false := HS.out.free 0 _ _ _ rfl 2; have c1_0 : w5_.cell? ⟨g, 0, none⟩ = some (.int .i64 m) := HS.out.cell 1 _ _ _ rfl 0; have f1_0 : w5_.frozen? ⟨g, 0, none⟩ = false := HS.out.free 1 _ _ _ rfl 0; have c1_1 : w5_.cell? ⟨g, 1, none⟩ = some (.int .i64 (s0 + 1)) := HS.out.cell 1 _ _ _ rfl 1; have f1_1 : w5_.frozen? ⟨g, 1, none⟩ = false := HS.out.free 1 _ _ _ rfl 1; have c1_2 : w5_.cell? ⟨g, 2, none⟩ = some (.int .i64 cause) := HS.out.cell 1 _ _ _ rfl 2; have f1_2 : w5_.frozen? ⟨g, 2, none⟩ = false := HS.out.free 1 _ _ _ rfl 2; have c1_3 : w5_.cell? ⟨g, 3, none⟩ = some (.int .i64 id) := HS.out.cell 1 _ _ _ rfl 3; have f1_3 : w5_.frozen? ⟨g, 3, none⟩ = false := HS.out.free 1 _ _ _ rfl 3; have c1_4 : w5_.cell? ⟨g, 4, none⟩ = some (.string name) := HS.out.cell 1 _ _ _ rfl 4; have f1_4 : w5_.frozen? ⟨g, 4, none⟩ = false := HS.out.free 1 _ _ _ rfl 4; have c1_5 : w5_.cell? ⟨g, 5, none⟩ = some (.bool may) := HS.out.cell 1 _ _ _ rfl 5; have f1_5 : w5_.frozen? ⟨g, 5, none⟩ = false := HS.out.free 1 _ _ _ rfl 5; have c1_6 : w5_.cell? ⟨g, 6, none⟩ = some (.slice A n c) := HS.out.cell 1 _ _ _ rfl 6; have f1_6 : w5_.frozen? ⟨g, 6, none⟩ = false := HS.out.free 1 _ _ _ rfl 6; have c1_7 : w5_.cell? ⟨g, 7, none⟩ = some (.pointer (some ⟨cg, 0, none⟩)) := HS.out.cell 1 _ _ _ rfl 7; have f1_7 : w5_.frozen? ⟨g, 7, none⟩ = false := HS.out.free 1 _ _ _ rfl 7; have ne0_1 := HS.out.ne_blk 0 1 _ _ _ _ _ _ rfl rfl (by omega)))
  have h9 : St (part g id name may fst ⟨m, s0 + 1, cause, back false fst now0 fst.length, q0⟩ :: l) w0 w5_ := shut_part HS.out.drop
  have H9 := Go.Lib.hid h9
  clear h9
  go_end0; exact ⟨rfl, H9.out⟩
set_option maxHeartbeats 800000 in
theorem become_2 (h : St (part g id name may fst s :: l) w0 w) (m code cause : Int) (hs0 : 0 ≤ s.starts) (hs1 : s.starts ≤ 1000000) (hn : fst.length ≤ 1000000) : Calls Try.prog 99 #[.pointer (some ⟨g, 0, none⟩), .agg #[.int .i64 m, .int .i64 2, .int .i64 code], .int .i64 cause] w fun e w' => e = .returned (.tuple #[]) ∧ St (part g id name may fst (s.become fst m 2 cause) :: l) w0 w' := by
  obtain ⟨m0, s0, u0, now0, q0⟩ := s
  obtain ⟨A, n, c, cg, hS⟩ := open_part h
  have HS := Go.Lib.hid hS
  clear hS h
  have hs0' : 0 ≤ s0 := hs0
  have hs1' : s0 ≤ 1000000 := hs1
  clear hs0 hs1
  have c0_0 : w.cell? ⟨g, 0, none⟩ = some (.int .i64 m0) := HS.out.cell 0 _ _ _ rfl 0
  have f0_0 : w.frozen? ⟨g, 0, none⟩ = false := HS.out.free 0 _ _ _ rfl 0
  have c0_1 : w.cell? ⟨g, 1, none⟩ = some (.int .i64 s0) := HS.out.cell 0 _ _ _ rfl 1
  have f0_1 : w.frozen? ⟨g, 1, none⟩ = false := HS.out.free 0 _ _ _ rfl 1
  have c0_2 : w.cell? ⟨g, 2, none⟩ = some (.int .i64 u0) := HS.out.cell 0 _ _ _ rfl 2
  have f0_2 : w.frozen? ⟨g, 2, none⟩ = false := HS.out.free 0 _ _ _ rfl 2
  have c0_3 : w.cell? ⟨g, 3, none⟩ = some (.int .i64 id) := HS.out.cell 0 _ _ _ rfl 3
  have f0_3 : w.frozen? ⟨g, 3, none⟩ = false := HS.out.free 0 _ _ _ rfl 3
  have c0_4 : w.cell? ⟨g, 4, none⟩ = some (.string name) := HS.out.cell 0 _ _ _ rfl 4
  have f0_4 : w.frozen? ⟨g, 4, none⟩ = false := HS.out.free 0 _ _ _ rfl 4
  have c0_5 : w.cell? ⟨g, 5, none⟩ = some (.bool may) := HS.out.cell 0 _ _ _ rfl 5
  have f0_5 : w.frozen? ⟨g, 5, none⟩ = false := HS.out.free 0 _ _ _ rfl 5
  have c0_6 : w.cell? ⟨g, 6, none⟩ = some (.slice A n c) := HS.out.cell 0 _ _ _ rfl 6
  have f0_6 : w.frozen? ⟨g, 6, none⟩ = false := HS.out.free 0 _ _ _ rfl 6
  have c0_7 : w.cell? ⟨g, 7, none⟩ = some (.pointer (some ⟨cg, 0, none⟩)) := HS.out.cell 0 _ _ _ rfl 7
  have f0_7 : w.frozen? ⟨g, 7, none⟩ = false := HS.out.free 0 _ _ _ rfl 7
  go_enter Try.func99, Try.ntmps99
  go_wp2_with (first | ((with_reducible refine gate_dst (N := 4) rfl ?_); refine Sl.box_st HS.out (by rfl) (cs := #[.int .i64 m, .int .i64 2, .int .i64 code]) (t := 30) ?hr ?_; (case hr => first | (go_simp; done) | (go_simp; rfl)); intro g4 w1_ HSn HBn; clear HBn; replace HS : Hid (St (SL.blk g4 30 #[.int .i64 m, .int .i64 2, .int .i64 code] :: SL.blk g 73 #[.int .i64 m0, .int .i64 s0, .int .i64 u0, .int .i64 id, .string name, .bool may, .slice A n c, .pointer (some ⟨cg, 0, none⟩)] :: cells cg fst now0 q0 :: l) w0 w1_) := Go.Lib.hid HSn; clear HSn; clear c0_0 f0_0 c0_1 f0_1 c0_2 f0_2 c0_3 f0_3 c0_4 f0_4 c0_5 f0_5 c0_6 f0_6 c0_7 f0_7; have c0_0 : w1_.cell? ⟨g4, 0, none⟩ = some (.int .i64 m) := HS.out.cell 0 _ _ _ rfl 0; have f0_0 : w1_.frozen? ⟨g4, 0, none⟩ = false := HS.out.free 0 _ _ _ rfl 0; have c0_1 : w1_.cell? ⟨g4, 1, none⟩ = some (.int .i64 2) := HS.out.cell 0 _ _ _ rfl 1; have f0_1 : w1_.frozen? ⟨g4, 1, none⟩ = false := HS.out.free 0 _ _ _ rfl 1; have c0_2 : w1_.cell? ⟨g4, 2, none⟩ = some (.int .i64 code) := HS.out.cell 0 _ _ _ rfl 2; have f0_2 : w1_.frozen? ⟨g4, 2, none⟩ = false := HS.out.free 0 _ _ _ rfl 2; have c1_0 : w1_.cell? ⟨g, 0, none⟩ = some (.int .i64 m0) := HS.out.cell 1 _ _ _ rfl 0; have f1_0 : w1_.frozen? ⟨g, 0, none⟩ = false := HS.out.free 1 _ _ _ rfl 0; have c1_1 : w1_.cell? ⟨g, 1, none⟩ = some (.int .i64 s0) := HS.out.cell 1 _ _ _ rfl 1; have f1_1 : w1_.frozen? ⟨g, 1, none⟩ = false := HS.out.free 1 _ _ _ rfl 1; have c1_2 : w1_.cell? ⟨g, 2, none⟩ = some (.int .i64 u0) := HS.out.cell 1 _ _ _ rfl 2; have f1_2 : w1_.frozen? ⟨g, 2, none⟩ = false := HS.out.free 1 _ _ _ rfl 2; have c1_3 : w1_.cell? ⟨g, 3, none⟩ = some (.int .i64 id) := HS.out.cell 1 _ _ _ rfl 3; have f1_3 : w1_.frozen? ⟨g, 3, none⟩ = false := HS.out.free 1 _ _ _ rfl 3; have c1_4 : w1_.cell? ⟨g, 4, none⟩ = some (.string name) := HS.out.cell 1 _ _ _ rfl 4; have f1_4 : w1_.frozen? ⟨g, 4, none⟩ = false := HS.out.free 1 _ _ _ rfl 4; have c1_5 : w1_.cell? ⟨g, 5, none⟩ = some (.bool may) := HS.out.cell 1 _ _ _ rfl 5; have f1_5 : w1_.frozen? ⟨g, 5, none⟩ = false := HS.out.free 1 _ _ _ rfl 5; have c1_6 : w1_.cell? ⟨g, 6, none⟩ = some (.slice A n c) := HS.out.cell 1 _ _ _ rfl 6; have f1_6 : w1_.frozen? ⟨g, 6, none⟩ = false := HS.out.free 1 _ _ _ rfl 6; have c1_7 : w1_.cell? ⟨g, 7, none⟩ = some (.pointer (some ⟨cg, 0, none⟩)) := HS.out.cell 1 _ _ _ rfl 7; have f1_7 : w1_.frozen? ⟨g, 7, none⟩ = false := HS.out.free 1 _ _ _ rfl 7; have ne0_1 := HS.out.ne_blk 0 1 _ _ _ _ _ _ rfl rfl (by omega)) | ((with_reducible refine gate_store (p := 11) rfl ?_); refine Sl.store_st HS.out 1 g 73 _ rfl 0 (.int .i64 m) (by rfl) (by rfl) ?hr ?_; (case hr => first | (go_simp; done) | (go_simp; rfl)); intro w2_ HSn; replace HS : Hid (St (SL.blk g4 30 #[.int .i64 m, .int .i64 2, .int .i64 code] :: SL.blk g 73 #[.int .i64 m, .int .i64 s0, .int .i64 u0, .int .i64 id, .string name, .bool may, .slice A n c, .pointer (some ⟨cg, 0, none⟩)] :: cells cg fst now0 q0 :: l) w0 w2_) := Go.Lib.hid HSn; clear HSn; clear c0_0 f0_0 c0_1 f0_1 c0_2 f0_2 c1_0 f1_0 c1_1 f1_1 c1_2 f1_2 c1_3 f1_3 c1_4 f1_4 c1_5 f1_5 c1_6 f1_6 c1_7 f1_7 ne0_1; have c0_0 : w2_.cell? ⟨g4, 0, none⟩ = some (.int .i64 m) := HS.out.cell 0 _ _ _ rfl 0; have f0_0 : w2_.frozen? ⟨g4, 0, none⟩ = false := HS.out.free 0 _ _ _ rfl 0; have c0_1 : w2_.cell? ⟨g4, 1, none⟩ = some (.int .i64 2) := HS.out.cell 0 _ _ _ rfl 1; have f0_1 : w2_.frozen? ⟨g4, 1, none⟩ = false := HS.out.free 0 _ _ _ rfl 1; have c0_2 : w2_.cell? ⟨g4, 2, none⟩ = some (.int .i64 code) := HS.out.cell 0 _ _ _ rfl 2; have f0_2 : w2_.frozen? ⟨g4, 2, none⟩ = false := HS.out.free 0 _ _ _ rfl 2; have c1_0 : w2_.cell? ⟨g, 0, none⟩ = some (.int .i64 m) := HS.out.cell 1 _ _ _ rfl 0; have f1_0 : w2_.frozen? ⟨g, 0, none⟩ = false := HS.out.free 1 _ _ _ rfl 0; have c1_1 : w2_.cell? ⟨g, 1, none⟩ = some (.int .i64 s0) := HS.out.cell 1 _ _ _ rfl 1; have f1_1 : w2_.frozen? ⟨g, 1, none⟩ = false := HS.out.free 1 _ _ _ rfl 1; have c1_2 : w2_.cell? ⟨g, 2, none⟩ = some (.int .i64 u0) := HS.out.cell 1 _ _ _ rfl 2; have f1_2 : w2_.frozen? ⟨g, 2, none⟩ = false := HS.out.free 1 _ _ _ rfl 2; have c1_3 : w2_.cell? ⟨g, 3, none⟩ = some (.int .i64 id) := HS.out.cell 1 _ _ _ rfl 3; have f1_3 : w2_.frozen? ⟨g, 3, none⟩ = false := HS.out.free 1 _ _ _ rfl 3; have c1_4 : w2_.cell? ⟨g, 4, none⟩ = some (.string name) := HS.out.cell 1 _ _ _ rfl 4; have f1_4 : w2_.frozen? ⟨g, 4, none⟩ = false := HS.out.free 1 _ _ _ rfl 4; have c1_5 : w2_.cell? ⟨g, 5, none⟩ = some (.bool may) := HS.out.cell 1 _ _ _ rfl 5; have f1_5 : w2_.frozen? ⟨g, 5, none⟩ = false := HS.out.free 1 _ _ _ rfl 5; have c1_6 : w2_.cell? ⟨g, 6, none⟩ = some (.slice A n c) := HS.out.cell 1 _ _ _ rfl 6; have f1_6 : w2_.frozen? ⟨g, 6, none⟩ = false := HS.out.free 1 _ _ _ rfl 6; have c1_7 : w2_.cell? ⟨g, 7, none⟩ = some (.pointer (some ⟨cg, 0, none⟩)) := HS.out.cell 1 _ _ _ rfl 7; have f1_7 : w2_.frozen? ⟨g, 7, none⟩ = false := HS.out.free 1 _ _ _ rfl 7; have ne0_1 := HS.out.ne_blk 0 1 _ _ _ _ _ _ rfl rfl (by omega)) | (go_at_call 28; refine (cold_st HS.out 2 rfl hn).mono ?_; rintro e w3_ ⟨rfl, HSn⟩; replace HS : Hid (St (SL.blk g4 30 #[.int .i64 m, .int .i64 2, .int .i64 code] :: SL.blk g 73 #[.int .i64 m, .int .i64 s0, .int .i64 u0, .int .i64 id, .string name, .bool may, .slice A n c, .pointer (some ⟨cg, 0, none⟩)] :: cells cg fst (fst.map (·.f0)) 0 :: l) w0 w3_) := Go.Lib.hid HSn; clear HSn; clear c0_0 f0_0 c0_1 f0_1 c0_2 f0_2 c1_0 f1_0 c1_1 f1_1 c1_2 f1_2 c1_3 f1_3 c1_4 f1_4 c1_5 f1_5 c1_6 f1_6 c1_7 f1_7 ne0_1; have c0_0 : w3_.cell? ⟨g4, 0, none⟩ = some (.int .i64 m) := HS.out.cell 0 _ _ _ rfl 0; have f0_0 : w3_.frozen? ⟨g4, 0, none⟩ = false := HS.out.free 0 _ _ _ rfl 0; have c0_1 : w3_.cell? ⟨g4, 1, none⟩ = some (.int .i64 2) := HS.out.cell 0 _ _ _ rfl 1; have f0_1 : w3_.frozen? ⟨g4, 1, none⟩ = false := HS.out.free 0 _ _ _ rfl 1; have c0_2 : w3_.cell? ⟨g4, 2, none⟩ = some (.int .i64 code) := HS.out.cell 0 _ _ _ rfl 2; have f0_2 : w3_.frozen? ⟨g4, 2, none⟩ = false := HS.out.free 0 _ _ _ rfl 2; have c1_0 : w3_.cell? ⟨g, 0, none⟩ = some (.int .i64 m) := HS.out.cell 1 _ _ _ rfl 0; have f1_0 : w3_.frozen? ⟨g, 0, none⟩ = false := HS.out.free 1 _ _ _ rfl 0; have c1_1 : w3_.cell? ⟨g, 1, none⟩ = some (.int .i64 s0) := HS.out.cell 1 _ _ _ rfl 1; have f1_1 : w3_.frozen? ⟨g, 1, none⟩ = false := HS.out.free 1 _ _ _ rfl 1; have c1_2 : w3_.cell? ⟨g, 2, none⟩ = some (.int .i64 u0) := HS.out.cell 1 _ _ _ rfl 2; have f1_2 : w3_.frozen? ⟨g, 2, none⟩ = false := HS.out.free 1 _ _ _ rfl 2; have c1_3 : w3_.cell? ⟨g, 3, none⟩ = some (.int .i64 id) := HS.out.cell 1 _ _ _ rfl 3; have f1_3 : w3_.frozen? ⟨g, 3, none⟩ = false := HS.out.free 1 _ _ _ rfl 3; have c1_4 : w3_.cell? ⟨g, 4, none⟩ = some (.string name) := HS.out.cell 1 _ _ _ rfl 4; have f1_4 : w3_.frozen? ⟨g, 4, none⟩ = false := HS.out.free 1 _ _ _ rfl 4; have c1_5 : w3_.cell? ⟨g, 5, none⟩ = some (.bool may) := HS.out.cell 1 _ _ _ rfl 5; have f1_5 : w3_.frozen? ⟨g, 5, none⟩ = false := HS.out.free 1 _ _ _ rfl 5; have c1_6 : w3_.cell? ⟨g, 6, none⟩ = some (.slice A n c) := HS.out.cell 1 _ _ _ rfl 6; have f1_6 : w3_.frozen? ⟨g, 6, none⟩ = false := HS.out.free 1 _ _ _ rfl 6; have c1_7 : w3_.cell? ⟨g, 7, none⟩ = some (.pointer (some ⟨cg, 0, none⟩)) := HS.out.cell 1 _ _ _ rfl 7; have f1_7 : w3_.frozen? ⟨g, 7, none⟩ = false := HS.out.free 1 _ _ _ rfl 7; have ne0_1 := HS.out.ne_blk 0 1 _ _ _ _ _ _ rfl rfl (by omega)) | ((with_reducible refine gate_store (p := 38) rfl ?_); refine Sl.store_st HS.out 1 g 73 _ rfl 1 (.int .i64 (s0 + 1)) (by rfl) (by rfl) ?hr ?_; (case hr => first | (go_simp; done) | (go_simp; rfl)); intro w4_ HSn; replace HS : Hid (St (SL.blk g4 30 #[.int .i64 m, .int .i64 2, .int .i64 code] :: SL.blk g 73 #[.int .i64 m, .int .i64 (s0 + 1), .int .i64 u0, .int .i64 id, .string name, .bool may, .slice A n c, .pointer (some ⟨cg, 0, none⟩)] :: cells cg fst (fst.map (·.f0)) 0 :: l) w0 w4_) := Go.Lib.hid HSn; clear HSn; clear c0_0 f0_0 c0_1 f0_1 c0_2 f0_2 c1_0 f1_0 c1_1 f1_1 c1_2 f1_2 c1_3 f1_3 c1_4 f1_4 c1_5 f1_5 c1_6 f1_6 c1_7 f1_7 ne0_1; have c0_0 : w4_.cell? ⟨g4, 0, none⟩ = some (.int .i64 m) := HS.out.cell 0 _ _ _ rfl 0; have f0_0 : w4_.frozen? ⟨g4, 0, none⟩ = false := HS.out.free 0 _ _ _ rfl 0; have c0_1 : w4_.cell? ⟨g4, 1, none⟩ = some (.int .i64 2) := HS.out.cell 0 _ _ _ rfl 1; have f0_1 : w4_.frozen? ⟨g4, 1, none⟩ = false := HS.out.free 0 _ _ _ rfl 1; have c0_2 : w4_.cell? ⟨g4, 2, none⟩ = some (.int .i64 code) := HS.out.cell 0 _ _ _ rfl 2; have f0_2 : w4_.frozen? ⟨g4, 2, none⟩ = false := HS.out.free 0 _ _ _ rfl 2; have c1_0 : w4_.cell? ⟨g, 0, none⟩ = some (.int .i64 m) := HS.out.cell 1 _ _ _ rfl 0; have f1_0 : w4_.frozen? ⟨g, 0, none⟩ = false := HS.out.free 1 _ _ _ rfl 0; have c1_1 : w4_.cell? ⟨g, 1, none⟩ = some (.int .i64 (s0 + 1)) := HS.out.cell 1 _ _ _ rfl 1; have f1_1 : w4_.frozen? ⟨g, 1, none⟩ = false := HS.out.free 1 _ _ _ rfl 1; have c1_2 : w4_.cell? ⟨g, 2, none⟩ = some (.int .i64 u0) := HS.out.cell 1 _ _ _ rfl 2; have f1_2 : w4_.frozen? ⟨g, 2, none⟩ = false := HS.out.free 1 _ _ _ rfl 2; have c1_3 : w4_.cell? ⟨g, 3, none⟩ = some (.int .i64 id) := HS.out.cell 1 _ _ _ rfl 3; have f1_3 : w4_.frozen? ⟨g, 3, none⟩ = false := HS.out.free 1 _ _ _ rfl 3; have c1_4 : w4_.cell? ⟨g, 4, none⟩ = some (.string name) := HS.out.cell 1 _ _ _ rfl 4; have f1_4 : w4_.frozen? ⟨g, 4, none⟩ = false := HS.out.free 1 _ _ _ rfl 4; have c1_5 : w4_.cell? ⟨g, 5, none⟩ = some (.bool may) := HS.out.cell 1 _ _ _ rfl 5; have f1_5 : w4_.frozen? ⟨g, 5, none⟩ = false := HS.out.free 1 _ _ _ rfl 5; have c1_6 : w4_.cell? ⟨g, 6, none⟩ = some (.slice A n c) := HS.out.cell 1 _ _ _ rfl 6; have f1_6 : w4_.frozen? ⟨g, 6, none⟩ = false := HS.out.free 1 _ _ _ rfl 6; have c1_7 : w4_.cell? ⟨g, 7, none⟩ = some (.pointer (some ⟨cg, 0, none⟩)) := HS.out.cell 1 _ _ _ rfl 7; have f1_7 : w4_.frozen? ⟨g, 7, none⟩ = false := HS.out.free 1 _ _ _ rfl 7; have ne0_1 := HS.out.ne_blk 0 1 _ _ _ _ _ _ rfl rfl (by omega)) | ((with_reducible refine gate_store (p := 43) rfl ?_); refine Sl.store_st HS.out 1 g 73 _ rfl 2 (.int .i64 cause) (by rfl) (by rfl) ?hr ?_; (case hr => first | (go_simp; done) | (go_simp; rfl)); intro w5_ HSn; replace HS : Hid (St (SL.blk g4 30 #[.int .i64 m, .int .i64 2, .int .i64 code] :: SL.blk g 73 #[.int .i64 m, .int .i64 (s0 + 1), .int .i64 cause, .int .i64 id, .string name, .bool may, .slice A n c, .pointer (some ⟨cg, 0, none⟩)] :: cells cg fst (fst.map (·.f0)) 0 :: l) w0 w5_) := Go.Lib.hid HSn; clear HSn; clear c0_0 f0_0 c0_1 f0_1 c0_2 f0_2 c1_0 f1_0 c1_1 f1_1 c1_2 f1_2 c1_3 f1_3 c1_4 f1_4 c1_5 f1_5 c1_6 f1_6 c1_7 f1_7 ne0_1; have c0_0 : w5_.cell? ⟨g4, 0, none⟩ = some (.int .i64 m) := HS.out.cell 0 _ _ _ rfl 0; have f0_0 : w5_.frozen? ⟨g4, 0, none⟩ = false := HS.out.free 0 _ _ _ rfl 0; have c0_1 : w5_.cell? ⟨g4, 1, none⟩ = some (.int .i64 2) := HS.out.cell 0 _ _ _ rfl 1; have f0_1 : w5_.frozen? ⟨g4, 1, none⟩ = false := HS.out.free 0 _ _ _ rfl 1; have c0_2 : w5_.cell? ⟨g4, 2, none⟩ = some (.int .i64 code) := HS.out.cell 0 _ _ _ rfl 2; have f0_2 : w5_.frozen? ⟨g4, 2, none⟩ = false := HS.out.free 0 _ _ _ rfl 2; have c1_0 : w5_.cell? ⟨g, 0, none⟩ = some (.int .i64 m) := HS.out.cell 1 _ _ _ rfl 0; have f1_0 : w5_.frozen? ⟨g, 0, none⟩ = false := HS.out.free 1 _ _ _ rfl 0; have c1_1 : w5_.cell? ⟨g, 1, none⟩ = some (.int .i64 (s0 + 1)) := HS.out.cell 1 _ _ _ rfl 1; have f1_1 : w5_.frozen? ⟨g, 1, none⟩ = false := HS.out.free 1 _ _ _ rfl 1; have c1_2 : w5_.cell? ⟨g, 2, none⟩ = some (.int .i64 cause) := HS.out.cell 1 _ _ _ rfl 2; have f1_2 : w5_.frozen? ⟨g, 2, none⟩ = false := HS.out.free 1 _ _ _ rfl 2; have c1_3 : w5_.cell? ⟨g, 3, none⟩ = some (.int .i64 id) := HS.out.cell 1 _ _ _ rfl 3; have f1_3 : w5_.frozen? ⟨g, 3, none⟩ = false := HS.out.free 1 _ _ _ rfl 3; have c1_4 : w5_.cell? ⟨g, 4, none⟩ = some (.string name) := HS.out.cell 1 _ _ _ rfl 4; have f1_4 : w5_.frozen? ⟨g, 4, none⟩ = false := HS.out.free 1 _ _ _ rfl 4; have c1_5 : w5_.cell? ⟨g, 5, none⟩ = some (.bool may) := HS.out.cell 1 _ _ _ rfl 5; have f1_5 : w5_.frozen? ⟨g, 5, none⟩ = false := HS.out.free 1 _ _ _ rfl 5; have c1_6 : w5_.cell? ⟨g, 6, none⟩ = some (.slice A n c) := HS.out.cell 1 _ _ _ rfl 6; have f1_6 : w5_.frozen? ⟨g, 6, none⟩ = false := HS.out.free 1 _ _ _ rfl 6; have c1_7 : w5_.cell? ⟨g, 7, none⟩ = some (.pointer (some ⟨cg, 0, none⟩)) := HS.out.cell 1 _ _ _ rfl 7; have f1_7 : w5_.frozen? ⟨g, 7, none⟩ = false := HS.out.free 1 _ _ _ rfl 7; have ne0_1 := HS.out.ne_blk 0 1 _ _ _ _ _ _ rfl rfl (by omega)))
  have h9 : St (part g id name may fst ⟨m, s0 + 1, cause, fst.map (·.f0), 0⟩ :: l) w0 w5_ := shut_part HS.out.drop
  have H9 := Go.Lib.hid h9
  clear h9
  go_end0; exact ⟨rfl, H9.out⟩
theorem become_hd (h : St (part g id name may fst s :: l) w0 w) (m st code cause : Int) (hst : st = 0 ∨ st = 1 ∨ st = 2) (hs0 : 0 ≤ s.starts) (hs1 : s.starts ≤ 1000000) (hn : fst.length ≤ 1000000) : Calls Try.prog 99 #[.pointer (some ⟨g, 0, none⟩), .agg #[.int .i64 m, .int .i64 st, .int .i64 code], .int .i64 cause] w fun e w' => e = .returned (.tuple #[]) ∧ St (part g id name may fst (s.become fst m st cause) :: l) w0 w' := by
  rcases hst with rfl | rfl | rfl
  · exact become_0 h m code cause hs0 hs1 hn
  · exact become_1 h m code cause hs0 hs1 hn
  · exact become_2 h m code cause hs0 hs1 hn
theorem become_at (h : St l w0 w) (k : Nat) (e : l[k]? = some (part g id name may fst s)) (m st code cause : Int) (hst : st = 0 ∨ st = 1 ∨ st = 2) (hs0 : 0 ≤ s.starts) (hs1 : s.starts ≤ 1000000) (hn : fst.length ≤ 1000000) : Calls Try.prog 99 #[.pointer (some ⟨g, 0, none⟩), .agg #[.int .i64 m, .int .i64 st, .int .i64 code], .int .i64 cause] w fun e w' => e = .returned (.tuple #[]) ∧ St (l.set k (part g id name may fst (s.become fst m st cause))) w0 w' :=
  (become_hd (h.front k _ e) m st code cause hst hs0 hs1 hn).mono fun _ _ ⟨he, hS⟩ => ⟨he, St.back k (List.getElem?_eq_some_iff.1 e).1 hS⟩
end Go.Proofs.Ytkmhgolohppliaa.Prt
