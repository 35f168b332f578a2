/- The engine of frames as a model: what it is, and what a tick tells, told of owned memory. -/
import Derived.Test.YtnpjbdaaoknkbaaYFrmF
import Derived.Test.YtnpjbdaaoknkbaaYTabE
import Derived.WalkArith
namespace Go.Proofs.Ytnpjbdaaoknkbaa.Frm
open Go.RowKit Go.Proofs.YtnpjbdaaoknkbaaW.PrintWords Go.Proofs.YtnpjbdaaoknkbaaW.PrintLast Go.Proofs.YtnpjbdaaoknkbaaW.PrintMore Go.Proofs.Ytnpjbdaaoknkbaa.Mine Go.Proofs.Ytnpjbdaaoknkbaa.PTableFrames
open Go.Proofs.Ytnpjbdaaoknkbaa.Sl (SL Stp Chg St No wpc_seal wpc_round sealed MK look)
open Go.Proofs.Ytnpjbdaaoknkbaa.Tab (InT In InA Runs cur_tick cur_owner step_st nextT nextJ rd_mem cursor_st allR allR_is ownW OkW mkR_len grw_len at_run)
set_option linter.unusedVariables false
set_option linter.unusedSimpArgs false
/-- A table: its block, what it is of, and where its runs lie. -/
structure Tb where
 g : Nat
 id : Int
 fr : Int
 ws : List S30
 a : Option Addr
 c : Nat
abbrev Tb.rs (x : Tb) : List S44 := allR x.fr x.ws
/-- A table's memory. -/
def Tb.blks (x : Tb) : List SL := [SL.blk x.g 97 #[.int .i64 x.id, .int .i64 x.fr, .slice x.a x.rs.length x.c], SL.row k44 44 (.slice x.a x.rs.length x.c) x.rs]
/-- A table that is right. -/
structure TbOk (x : Tb) : Prop where
 ok : ∀ j : Nat, j < x.ws.length → OkW x.fr x.ws j
 lo : 1 ≤ x.fr
 hi : x.fr ≤ 60
 len : x.ws.length ≤ 30
 id0 : 0 ≤ x.id
 id1 : x.id ≤ 255
theorem TbOk.runs {x : Tb} (h : TbOk x) : Runs (ownW x.ws) x.rs x.fr := allR_is h.ok (by have := h.lo; omega) (by have := h.hi; omega)
theorem TbOk.lens {x : Tb} (h : TbOk x) : x.rs.length ≤ 100000 := by
 have h1 := mkR_len x.ws x.ws.length
 have h2 := grw_len (Tab.mkR x.ws x.ws.length) (-1) (Tab.endB x.ws x.ws.length) (x.fr - Tab.endB x.ws x.ws.length)
 have h3 : x.rs.length ≤ (Tab.mkR x.ws x.ws.length).length + 1 := h2
 have := h.len
 omega
def findT (ts : List Tb) (id : Int) : Option Tb := ts.find? (fun x => x.id == id)
structure Tabs (l : List SL) (ts : List Tb) : Prop where
 ins : ∀ x ∈ ts, InA l x.g x.id x.fr x.rs x.a x.c
 ok : ∀ x ∈ ts, TbOk x
def Maps (ts : List Tb) (m : List (Int × Value)) : Prop := ∀ id, Sl.look m id = (findT ts id).map (fun x => Value.pointer (some ⟨x.g, 0, none⟩))
def Uniq (ts : List Tb) : Prop := ∀ x ∈ ts, findT ts x.id = some x
/-- What an engine is. -/
structure EM where
 cur : Tb
 due : Int
 t : Int
 now : Int
 frames : Int
structure Good (ts : List Tb) (x : EM) : Prop where
 cur : x.cur ∈ ts
 t0 : 0 ≤ x.t
 t1 : x.t < x.cur.fr
 due : ∃ y, findT ts x.due = some y
 now0 : 0 ≤ x.now
 now1 : x.now ≤ 18446744073709551615
 f0 : 0 ≤ x.frames
 f1 : x.frames ≤ x.now
theorem findT_mem {ts : List Tb} {id : Int} {y : Tb} (h : findT ts id = some y) : y ∈ ts ∧ y.id = id := by
 refine ⟨List.mem_of_find?_eq_some h, ?_⟩
 have := List.find?_some h
 simpa using this
/-- A tick. -/
def EM.tick (ts : List Tb) (x : EM) : EM :=
 if x.now = 18446744073709551615 then x else
 if x.t + 1 < x.cur.fr then { x with t := x.t + 1, now := x.now + 1 }
 else { cur := (findT ts x.due).getD x.cur, due := x.due, t := 0, now := x.now + 1, frames := x.frames + 1 }
/-- Whose it was; is a boundary behind it; was there one. -/
def EM.own (x : EM) : Int := if x.now = 18446744073709551615 then -1 else ownW x.cur.ws x.t
def EM.bnd (x : EM) : Bool := if x.now = 18446744073709551615 then false else !decide (x.t + 1 < x.cur.fr)
def EM.live (x : EM) : Bool := if x.now = 18446744073709551615 then false else true
theorem Good.tick {ts : List Tb} {x : EM} (G : Good ts x) (K : ∀ y ∈ ts, TbOk y) : Good ts (x.tick ts) := by
 unfold EM.tick
 have a := G.t0; have b := G.t1; have c := G.now0; have d := G.now1; have e := G.f0; have f := G.f1
 obtain ⟨y, hy⟩ := G.due
 by_cases h1 : x.now = 18446744073709551615
 ·rw [if_pos h1]; exact G
 ·rw [if_neg h1]
  by_cases h2 : x.t + 1 < x.cur.fr
  ·rw [if_pos h2]
   exact ⟨G.cur, by show 0 ≤ x.t + 1; omega, h2, G.due, by show 0 ≤ x.now + 1; omega, by show x.now + 1 ≤ _; omega, e, by show x.frames ≤ x.now + 1; omega⟩
  ·rw [if_neg h2]
   have hm := (findT_mem hy).1
   have hl := (K y hm).lo
   refine ⟨?_, Int.le_refl _, ?_, G.due, by show 0 ≤ x.now + 1; omega, by show x.now + 1 ≤ _; omega, by show 0 ≤ x.frames + 1; omega, by show x.frames + 1 ≤ x.now + 1; omega⟩
   ·show (findT ts x.due).getD x.cur ∈ ts
    rw [hy]; exact hm
   ·show 0 < ((findT ts x.due).getD x.cur).fr
    rw [hy]; show 0 < y.fr; omega
/-- An engine in memory. -/
def EngSt (l : List SL) (ge gk bm : Nat) (m : List (Int × Value)) (x : EM) (w0 w : World) : Prop :=
 ∃ (gc j : Nat), In x.cur.rs x.t j ∧ St (SL.blk ge 108 #[.map (some bm), .pointer (some ⟨gc, 0, none⟩), .int .i64 x.due, .pointer (some ⟨gk, 0, none⟩), .int .u64 x.frames] :: SL.map KI bm m :: SL.blk gk 132 #[.int .u64 x.now] :: SL.blk gc 100 #[.pointer (some ⟨x.cur.g, 0, none⟩), .int .i64 x.t, .int .i64 ((j : Nat) : Int)] :: l) w0 w
theorem in_after {own : Int → Int} {rs : List S44} {fr t : Int} {j : Nat} (h : Runs own rs fr) (hi : In rs t j) (hp : 0 < fr) : In rs (nextT fr t) (nextJ rs fr t j) := by
 unfold nextT nextJ
 by_cases c : t + 1 < fr
 ·rw [if_pos c, if_pos c]; exact h.in_next hi c
 ·rw [if_neg c, if_neg c]; exact h.in_zero hp
section
variable {l : List SL} {w0 w : World} {ge gk bm : Nat} {ts : List Tb} {m : List (Int × Value)} {x : EM}
theorem EngSt.st (h : EngSt l ge gk bm m x w0 w) : St l w0 w := by
 obtain ⟨gc, j, _, hS⟩ := h
 exact hS.drop.drop.drop.drop
/-- Where a table's runs lie. -/
theorem some_a (h : St l w0 w) (T : Tabs l ts) {y : Tb} (hy : y ∈ ts) : ∃ ad, y.a = some ad := by
 obtain ⟨n1, n2, e1, e2⟩ := (T.ins y hy).ex
 obtain ⟨A', c', hv, _, hC⟩ := h.rowC n2 e2
 injection hv with q1 _ q2
 have hr := (T.ok y hy).runs
 have hi := hr.in_zero (by have := (T.ok y hy).lo; omega)
 rw [← q1] at hC
 obtain ⟨ad, h1, _⟩ := at_run hC 0 hi.lt
 exact ⟨ad, h1⟩
theorem tick_st (h : EngSt l ge gk bm m x w0 w) (T : Tabs l ts) (M : Maps ts m) (U : Uniq ts) (G : Good ts x) :
  Calls Try.prog 24 #[.pointer (some ⟨ge, 0, none⟩)] w fun e w' => e = .returned (.tuple #[.int .i64 x.own, .bool x.bnd, .bool x.live]) ∧ EngSt l ge gk bm m (x.tick ts) w0 w' := by
 obtain ⟨ad, ha⟩ := some_a h.st T G.cur
 obtain ⟨gc, j, hi, hS⟩ := h
 have K := T.ok _ G.cur
 have RA := T.ins _ G.cur
 rw [ha] at RA
 have hr := K.runs
 have hl := K.lens
 have hhi := K.hi
 have hlo := K.lo
 have a := G.t0; have b := G.t1; have c := G.now0; have d := G.now1; have e := G.f0; have f := G.f1
 obtain ⟨y, hy⟩ := G.due
 by_cases h1 : x.now = 18446744073709551615
 ·have hS' := hS
  rw [h1] at hS'
  refine (etick_no hS').mono ?_
  rintro e w' ⟨rfl, hS2⟩
  refine ⟨by unfold EM.own EM.bnd EM.live; rw [if_pos h1, if_pos h1, if_pos h1], ?_⟩
  unfold EM.tick
  rw [if_pos h1]
  rw [← h1] at hS2
  exact ⟨gc, j, hi, hS2⟩
 ·have hown : ownW x.cur.ws x.t = (rd_T44 x.cur.rs (j : Int)).f0 := hr.in_own hi
  have hin := in_after hr hi (by omega)
  by_cases h2 : x.t + 1 < x.cur.fr
  ·refine (etick_in hS c (by omega) ad x.cur.c RA hr hi hl a (by omega) h2).mono ?_
   rintro e w' ⟨rfl, hS2⟩
   refine ⟨by unfold EM.own EM.bnd EM.live; rw [if_neg h1, if_neg h1, if_neg h1, hown, decide_eq_true h2]; rfl, ?_⟩
   unfold EM.tick
   rw [if_neg h1, if_pos h2]
   refine ⟨gc, nextJ x.cur.rs x.cur.fr x.t j, ?_, ?_⟩
   ·have := hin; unfold nextT at this; rw [if_pos h2] at this; exact this
   ·have := hS2; unfold nextT at this; rw [if_pos h2] at this; exact this
  ·have hbn : x.bnd = true := by unfold EM.bnd; rw [if_neg h1, decide_eq_false h2]; rfl
   have hlv : x.live = true := by unfold EM.live; rw [if_neg h1]
   have how : x.own = (rd_T44 x.cur.rs (j : Int)).f0 := by unfold EM.own; rw [if_neg h1, hown]
   by_cases h3 : x.due = x.cur.id
   ·have hS' := hS
    rw [h3] at hS'
    refine (etick_same hS' c (by omega) e (by omega) ad x.cur.c RA hr hi hl a b (by omega) h2).mono ?_
    rintro e w' ⟨rfl, hS2⟩
    refine ⟨by rw [hbn, hlv, how], ?_⟩
    have hy2 : findT ts x.due = some x.cur := by rw [h3]; exact U _ G.cur
    unfold EM.tick
    rw [if_neg h1, if_neg h2, hy2]
    unfold nextT at hin hS2
    rw [if_neg h2] at hin hS2
    rw [← h3] at hS2
    exact ⟨gc, nextJ x.cur.rs x.cur.fr x.t j, hin, hS2⟩
   ·have hm := findT_mem hy
    have Ky := T.ok _ hm.1
    refine (etick_other hS c (by omega) e (by omega) ad x.cur.c RA hr hi hl a b (by omega) h2 h3 y.g (by rw [M, hy]; rfl) ?_).mono ?_
    ·rw [← hm.2]
     have p := Ky.id0; have q := Ky.id1
     exact Go.WalkArith.wf_i64 (by omega)
    ·rintro e w' ⟨g2, rfl, hS2⟩
     refine ⟨by rw [hbn, hlv, how], ?_⟩
     unfold EM.tick
     rw [if_neg h1, if_neg h2, hy]
     exact ⟨g2, 0, Ky.runs.in_zero (by have := Ky.lo; show 0 < y.fr; omega), hS2⟩
end
end Go.Proofs.Ytnpjbdaaoknkbaa.Frm
