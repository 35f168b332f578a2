/- Events over owned memory: what makes a block, writes one, or appends to a row, leaves a new world of which what is owned is known. -/
import Derived.Test.YtkmhgolohppliaaSl
import Derived.Test.YtkmhgolohppliaaWGuard
namespace Go.Proofs.Ytkmhgolohppliaa.Sl
open Go.RowKit Go.Proofs.YtkmhgolohppliaaW.PrintWords Go.Proofs.YtkmhgolohppliaaW.PrintLast Go.Proofs.YtkmhgolohppliaaW.PrintMore Go.Proofs.Ytkmhgolohppliaa.Mine
set_option linter.unusedVariables false
set_option linter.unusedSimpArgs false

/-- Cells of a block, written one behind the other. -/
def setAll (g : Nat) : World → Nat → List Value → World
  | W, _, [] => W
  | W, i, v :: vs => setAll g (W.setCell ⟨g, i, none⟩ v) (i + 1) vs
theorem setAll_blk {g t : Nat} {S : Nat → Prop} : ∀ (vs : List Value) (i : Nat) (cs : Array Value) (W : World), (SL.blk g t cs).P S W → i + vs.length ≤ cs.size →
    (SL.blk g t ((cs.toList.take i ++ vs ++ cs.toList.drop (i + vs.length)).toArray)).P S (setAll g W i vs) ∧ Stp S S W (setAll g W i vs)
  | [], i, cs, W, h, hl => by
    refine ⟨?_, Stp.refl S W⟩
    simpa [setAll] using h
  | v :: vs, i, cs, W, h, hl => by
    have hl' : i + (vs.length + 1) ≤ cs.size := by simpa using hl
    obtain ⟨h1, k1⟩ := SL.blk_set h i v _ rfl
    obtain ⟨h2, k2⟩ := setAll_blk vs (i + 1) _ _ h1 (by simpa using by omega)
    refine ⟨?_, k1.trans k2⟩
    have e : ((cs.setIfInBounds i v).toList.take (i + 1) ++ vs ++ (cs.setIfInBounds i v).toList.drop (i + 1 + vs.length)) = cs.toList.take i ++ v :: vs ++ cs.toList.drop (i + (vs.length + 1)) := by
      have hi : i < cs.toList.length := by simp; omega
      rw [Array.toList_setIfInBounds, List.take_succ_eq_append_getElem (by simpa using by omega), List.getElem_set_self, List.take_set_of_le (Nat.le_refl _), List.drop_set_of_lt (by omega)]
      simp
      congr 1
      omega
    rw [e] at h2
    exact h2
theorem St.setAll_ {l : List SL} {w0 W : World} (h : St l w0 W) (n g t : Nat) (cs : Array Value) (e : l[n]? = some (SL.blk g t cs)) (vs : List Value) (hl : vs.length = cs.size) :
    St (l.set n (SL.blk g t vs.toArray)) w0 (setAll g W 0 vs) := by
  obtain ⟨S1, h1, hk⟩ := h.at_ n _ e
  obtain ⟨h2, k2⟩ := setAll_blk vs 0 cs W h1 (by omega)
  have e2 : (cs.toList.take 0 ++ vs ++ cs.toList.drop (0 + vs.length)) = vs := by
    rw [List.take_zero, List.nil_append, Nat.zero_add, hl]; simp
  rw [e2] at h2
  exact hk _ _ _ h2 k2
theorem St.nilrow {l : List SL} {w0 W : World} {α : Type} (h : St l w0 W) (d : Kd α) (e : Nat) : St (SL.row d e (.slice none 0 0) [] :: l) w0 W :=
  h.add (SL.row_nil d e W) ⟨Chg.refl _ _, fun i hi => hi.elim⟩
theorem St.c1 {l : List SL} {w0 w : World} (h : St l w0 w) (n g t : Nat) (v0 : Value) (e : l[n]? = some (SL.blk g t #[v0])) : w.cell? ⟨g, 0, none⟩ = some v0 :=
  h.cell n g t _ e 0
theorem St.f1 {l : List SL} {w0 w : World} (h : St l w0 w) (n g t : Nat) (v0 : Value) (e : l[n]? = some (SL.blk g t #[v0])) : w.frozen? ⟨g, 0, none⟩ = false :=
  h.free n g t _ e 0
theorem St.c2 {l : List SL} {w0 w : World} (h : St l w0 w) (n g t : Nat) (v0 v1 : Value) (e : l[n]? = some (SL.blk g t #[v0, v1])) : w.cell? ⟨g, 0, none⟩ = some v0 ∧ w.cell? ⟨g, 1, none⟩ = some v1 :=
  ⟨h.cell n g t _ e 0, h.cell n g t _ e 1⟩
theorem St.f2 {l : List SL} {w0 w : World} (h : St l w0 w) (n g t : Nat) (v0 v1 : Value) (e : l[n]? = some (SL.blk g t #[v0, v1])) : w.frozen? ⟨g, 0, none⟩ = false ∧ w.frozen? ⟨g, 1, none⟩ = false :=
  ⟨h.free n g t _ e 0, h.free n g t _ e 1⟩
theorem St.c3 {l : List SL} {w0 w : World} (h : St l w0 w) (n g t : Nat) (v0 v1 v2 : Value) (e : l[n]? = some (SL.blk g t #[v0, v1, v2])) : w.cell? ⟨g, 0, none⟩ = some v0 ∧ w.cell? ⟨g, 1, none⟩ = some v1 ∧ w.cell? ⟨g, 2, none⟩ = some v2 :=
  ⟨h.cell n g t _ e 0, h.cell n g t _ e 1, h.cell n g t _ e 2⟩
theorem St.f3 {l : List SL} {w0 w : World} (h : St l w0 w) (n g t : Nat) (v0 v1 v2 : Value) (e : l[n]? = some (SL.blk g t #[v0, v1, v2])) : w.frozen? ⟨g, 0, none⟩ = false ∧ w.frozen? ⟨g, 1, none⟩ = false ∧ w.frozen? ⟨g, 2, none⟩ = false :=
  ⟨h.free n g t _ e 0, h.free n g t _ e 1, h.free n g t _ e 2⟩
theorem St.c4 {l : List SL} {w0 w : World} (h : St l w0 w) (n g t : Nat) (v0 v1 v2 v3 : Value) (e : l[n]? = some (SL.blk g t #[v0, v1, v2, v3])) : w.cell? ⟨g, 0, none⟩ = some v0 ∧ w.cell? ⟨g, 1, none⟩ = some v1 ∧ w.cell? ⟨g, 2, none⟩ = some v2 ∧ w.cell? ⟨g, 3, none⟩ = some v3 :=
  ⟨h.cell n g t _ e 0, h.cell n g t _ e 1, h.cell n g t _ e 2, h.cell n g t _ e 3⟩
theorem St.f4 {l : List SL} {w0 w : World} (h : St l w0 w) (n g t : Nat) (v0 v1 v2 v3 : Value) (e : l[n]? = some (SL.blk g t #[v0, v1, v2, v3])) : w.frozen? ⟨g, 0, none⟩ = false ∧ w.frozen? ⟨g, 1, none⟩ = false ∧ w.frozen? ⟨g, 2, none⟩ = false ∧ w.frozen? ⟨g, 3, none⟩ = false :=
  ⟨h.free n g t _ e 0, h.free n g t _ e 1, h.free n g t _ e 2, h.free n g t _ e 3⟩
theorem St.c5 {l : List SL} {w0 w : World} (h : St l w0 w) (n g t : Nat) (v0 v1 v2 v3 v4 : Value) (e : l[n]? = some (SL.blk g t #[v0, v1, v2, v3, v4])) : w.cell? ⟨g, 0, none⟩ = some v0 ∧ w.cell? ⟨g, 1, none⟩ = some v1 ∧ w.cell? ⟨g, 2, none⟩ = some v2 ∧ w.cell? ⟨g, 3, none⟩ = some v3 ∧ w.cell? ⟨g, 4, none⟩ = some v4 :=
  ⟨h.cell n g t _ e 0, h.cell n g t _ e 1, h.cell n g t _ e 2, h.cell n g t _ e 3, h.cell n g t _ e 4⟩
theorem St.f5 {l : List SL} {w0 w : World} (h : St l w0 w) (n g t : Nat) (v0 v1 v2 v3 v4 : Value) (e : l[n]? = some (SL.blk g t #[v0, v1, v2, v3, v4])) : w.frozen? ⟨g, 0, none⟩ = false ∧ w.frozen? ⟨g, 1, none⟩ = false ∧ w.frozen? ⟨g, 2, none⟩ = false ∧ w.frozen? ⟨g, 3, none⟩ = false ∧ w.frozen? ⟨g, 4, none⟩ = false :=
  ⟨h.free n g t _ e 0, h.free n g t _ e 1, h.free n g t _ e 2, h.free n g t _ e 3, h.free n g t _ e 4⟩
theorem St.c6 {l : List SL} {w0 w : World} (h : St l w0 w) (n g t : Nat) (v0 v1 v2 v3 v4 v5 : Value) (e : l[n]? = some (SL.blk g t #[v0, v1, v2, v3, v4, v5])) : w.cell? ⟨g, 0, none⟩ = some v0 ∧ w.cell? ⟨g, 1, none⟩ = some v1 ∧ w.cell? ⟨g, 2, none⟩ = some v2 ∧ w.cell? ⟨g, 3, none⟩ = some v3 ∧ w.cell? ⟨g, 4, none⟩ = some v4 ∧ w.cell? ⟨g, 5, none⟩ = some v5 :=
  ⟨h.cell n g t _ e 0, h.cell n g t _ e 1, h.cell n g t _ e 2, h.cell n g t _ e 3, h.cell n g t _ e 4, h.cell n g t _ e 5⟩
theorem St.f6 {l : List SL} {w0 w : World} (h : St l w0 w) (n g t : Nat) (v0 v1 v2 v3 v4 v5 : Value) (e : l[n]? = some (SL.blk g t #[v0, v1, v2, v3, v4, v5])) : w.frozen? ⟨g, 0, none⟩ = false ∧ w.frozen? ⟨g, 1, none⟩ = false ∧ w.frozen? ⟨g, 2, none⟩ = false ∧ w.frozen? ⟨g, 3, none⟩ = false ∧ w.frozen? ⟨g, 4, none⟩ = false ∧ w.frozen? ⟨g, 5, none⟩ = false :=
  ⟨h.free n g t _ e 0, h.free n g t _ e 1, h.free n g t _ e 2, h.free n g t _ e 3, h.free n g t _ e 4, h.free n g t _ e 5⟩
theorem St.c7 {l : List SL} {w0 w : World} (h : St l w0 w) (n g t : Nat) (v0 v1 v2 v3 v4 v5 v6 : Value) (e : l[n]? = some (SL.blk g t #[v0, v1, v2, v3, v4, v5, v6])) : w.cell? ⟨g, 0, none⟩ = some v0 ∧ w.cell? ⟨g, 1, none⟩ = some v1 ∧ w.cell? ⟨g, 2, none⟩ = some v2 ∧ w.cell? ⟨g, 3, none⟩ = some v3 ∧ w.cell? ⟨g, 4, none⟩ = some v4 ∧ w.cell? ⟨g, 5, none⟩ = some v5 ∧ w.cell? ⟨g, 6, none⟩ = some v6 :=
  ⟨h.cell n g t _ e 0, h.cell n g t _ e 1, h.cell n g t _ e 2, h.cell n g t _ e 3, h.cell n g t _ e 4, h.cell n g t _ e 5, h.cell n g t _ e 6⟩
theorem St.f7 {l : List SL} {w0 w : World} (h : St l w0 w) (n g t : Nat) (v0 v1 v2 v3 v4 v5 v6 : Value) (e : l[n]? = some (SL.blk g t #[v0, v1, v2, v3, v4, v5, v6])) : w.frozen? ⟨g, 0, none⟩ = false ∧ w.frozen? ⟨g, 1, none⟩ = false ∧ w.frozen? ⟨g, 2, none⟩ = false ∧ w.frozen? ⟨g, 3, none⟩ = false ∧ w.frozen? ⟨g, 4, none⟩ = false ∧ w.frozen? ⟨g, 5, none⟩ = false ∧ w.frozen? ⟨g, 6, none⟩ = false :=
  ⟨h.free n g t _ e 0, h.free n g t _ e 1, h.free n g t _ e 2, h.free n g t _ e 3, h.free n g t _ e 4, h.free n g t _ e 5, h.free n g t _ e 6⟩
theorem St.c8 {l : List SL} {w0 w : World} (h : St l w0 w) (n g t : Nat) (v0 v1 v2 v3 v4 v5 v6 v7 : Value) (e : l[n]? = some (SL.blk g t #[v0, v1, v2, v3, v4, v5, v6, v7])) : w.cell? ⟨g, 0, none⟩ = some v0 ∧ w.cell? ⟨g, 1, none⟩ = some v1 ∧ w.cell? ⟨g, 2, none⟩ = some v2 ∧ w.cell? ⟨g, 3, none⟩ = some v3 ∧ w.cell? ⟨g, 4, none⟩ = some v4 ∧ w.cell? ⟨g, 5, none⟩ = some v5 ∧ w.cell? ⟨g, 6, none⟩ = some v6 ∧ w.cell? ⟨g, 7, none⟩ = some v7 :=
  ⟨h.cell n g t _ e 0, h.cell n g t _ e 1, h.cell n g t _ e 2, h.cell n g t _ e 3, h.cell n g t _ e 4, h.cell n g t _ e 5, h.cell n g t _ e 6, h.cell n g t _ e 7⟩
theorem St.f8 {l : List SL} {w0 w : World} (h : St l w0 w) (n g t : Nat) (v0 v1 v2 v3 v4 v5 v6 v7 : Value) (e : l[n]? = some (SL.blk g t #[v0, v1, v2, v3, v4, v5, v6, v7])) : w.frozen? ⟨g, 0, none⟩ = false ∧ w.frozen? ⟨g, 1, none⟩ = false ∧ w.frozen? ⟨g, 2, none⟩ = false ∧ w.frozen? ⟨g, 3, none⟩ = false ∧ w.frozen? ⟨g, 4, none⟩ = false ∧ w.frozen? ⟨g, 5, none⟩ = false ∧ w.frozen? ⟨g, 6, none⟩ = false ∧ w.frozen? ⟨g, 7, none⟩ = false :=
  ⟨h.free n g t _ e 0, h.free n g t _ e 1, h.free n g t _ e 2, h.free n g t _ e 3, h.free n g t _ e 4, h.free n g t _ e 5, h.free n g t _ e 6, h.free n g t _ e 7⟩
theorem St.c9 {l : List SL} {w0 w : World} (h : St l w0 w) (n g t : Nat) (v0 v1 v2 v3 v4 v5 v6 v7 v8 : Value) (e : l[n]? = some (SL.blk g t #[v0, v1, v2, v3, v4, v5, v6, v7, v8])) : w.cell? ⟨g, 0, none⟩ = some v0 ∧ w.cell? ⟨g, 1, none⟩ = some v1 ∧ w.cell? ⟨g, 2, none⟩ = some v2 ∧ w.cell? ⟨g, 3, none⟩ = some v3 ∧ w.cell? ⟨g, 4, none⟩ = some v4 ∧ w.cell? ⟨g, 5, none⟩ = some v5 ∧ w.cell? ⟨g, 6, none⟩ = some v6 ∧ w.cell? ⟨g, 7, none⟩ = some v7 ∧ w.cell? ⟨g, 8, none⟩ = some v8 :=
  ⟨h.cell n g t _ e 0, h.cell n g t _ e 1, h.cell n g t _ e 2, h.cell n g t _ e 3, h.cell n g t _ e 4, h.cell n g t _ e 5, h.cell n g t _ e 6, h.cell n g t _ e 7, h.cell n g t _ e 8⟩
theorem St.f9 {l : List SL} {w0 w : World} (h : St l w0 w) (n g t : Nat) (v0 v1 v2 v3 v4 v5 v6 v7 v8 : Value) (e : l[n]? = some (SL.blk g t #[v0, v1, v2, v3, v4, v5, v6, v7, v8])) : w.frozen? ⟨g, 0, none⟩ = false ∧ w.frozen? ⟨g, 1, none⟩ = false ∧ w.frozen? ⟨g, 2, none⟩ = false ∧ w.frozen? ⟨g, 3, none⟩ = false ∧ w.frozen? ⟨g, 4, none⟩ = false ∧ w.frozen? ⟨g, 5, none⟩ = false ∧ w.frozen? ⟨g, 6, none⟩ = false ∧ w.frozen? ⟨g, 7, none⟩ = false ∧ w.frozen? ⟨g, 8, none⟩ = false :=
  ⟨h.free n g t _ e 0, h.free n g t _ e 1, h.free n g t _ e 2, h.free n g t _ e 3, h.free n g t _ e 4, h.free n g t _ e 5, h.free n g t _ e 6, h.free n g t _ e 7, h.free n g t _ e 8⟩
theorem St.c10 {l : List SL} {w0 w : World} (h : St l w0 w) (n g t : Nat) (v0 v1 v2 v3 v4 v5 v6 v7 v8 v9 : Value) (e : l[n]? = some (SL.blk g t #[v0, v1, v2, v3, v4, v5, v6, v7, v8, v9])) : w.cell? ⟨g, 0, none⟩ = some v0 ∧ w.cell? ⟨g, 1, none⟩ = some v1 ∧ w.cell? ⟨g, 2, none⟩ = some v2 ∧ w.cell? ⟨g, 3, none⟩ = some v3 ∧ w.cell? ⟨g, 4, none⟩ = some v4 ∧ w.cell? ⟨g, 5, none⟩ = some v5 ∧ w.cell? ⟨g, 6, none⟩ = some v6 ∧ w.cell? ⟨g, 7, none⟩ = some v7 ∧ w.cell? ⟨g, 8, none⟩ = some v8 ∧ w.cell? ⟨g, 9, none⟩ = some v9 :=
  ⟨h.cell n g t _ e 0, h.cell n g t _ e 1, h.cell n g t _ e 2, h.cell n g t _ e 3, h.cell n g t _ e 4, h.cell n g t _ e 5, h.cell n g t _ e 6, h.cell n g t _ e 7, h.cell n g t _ e 8, h.cell n g t _ e 9⟩
theorem St.f10 {l : List SL} {w0 w : World} (h : St l w0 w) (n g t : Nat) (v0 v1 v2 v3 v4 v5 v6 v7 v8 v9 : Value) (e : l[n]? = some (SL.blk g t #[v0, v1, v2, v3, v4, v5, v6, v7, v8, v9])) : w.frozen? ⟨g, 0, none⟩ = false ∧ w.frozen? ⟨g, 1, none⟩ = false ∧ w.frozen? ⟨g, 2, none⟩ = false ∧ w.frozen? ⟨g, 3, none⟩ = false ∧ w.frozen? ⟨g, 4, none⟩ = false ∧ w.frozen? ⟨g, 5, none⟩ = false ∧ w.frozen? ⟨g, 6, none⟩ = false ∧ w.frozen? ⟨g, 7, none⟩ = false ∧ w.frozen? ⟨g, 8, none⟩ = false ∧ w.frozen? ⟨g, 9, none⟩ = false :=
  ⟨h.free n g t _ e 0, h.free n g t _ e 1, h.free n g t _ e 2, h.free n g t _ e 3, h.free n g t _ e 4, h.free n g t _ e 5, h.free n g t _ e 6, h.free n g t _ e 7, h.free n g t _ e 8, h.free n g t _ e 9⟩
theorem St.c11 {l : List SL} {w0 w : World} (h : St l w0 w) (n g t : Nat) (v0 v1 v2 v3 v4 v5 v6 v7 v8 v9 v10 : Value) (e : l[n]? = some (SL.blk g t #[v0, v1, v2, v3, v4, v5, v6, v7, v8, v9, v10])) : w.cell? ⟨g, 0, none⟩ = some v0 ∧ w.cell? ⟨g, 1, none⟩ = some v1 ∧ w.cell? ⟨g, 2, none⟩ = some v2 ∧ w.cell? ⟨g, 3, none⟩ = some v3 ∧ w.cell? ⟨g, 4, none⟩ = some v4 ∧ w.cell? ⟨g, 5, none⟩ = some v5 ∧ w.cell? ⟨g, 6, none⟩ = some v6 ∧ w.cell? ⟨g, 7, none⟩ = some v7 ∧ w.cell? ⟨g, 8, none⟩ = some v8 ∧ w.cell? ⟨g, 9, none⟩ = some v9 ∧ w.cell? ⟨g, 10, none⟩ = some v10 :=
  ⟨h.cell n g t _ e 0, h.cell n g t _ e 1, h.cell n g t _ e 2, h.cell n g t _ e 3, h.cell n g t _ e 4, h.cell n g t _ e 5, h.cell n g t _ e 6, h.cell n g t _ e 7, h.cell n g t _ e 8, h.cell n g t _ e 9, h.cell n g t _ e 10⟩
theorem St.f11 {l : List SL} {w0 w : World} (h : St l w0 w) (n g t : Nat) (v0 v1 v2 v3 v4 v5 v6 v7 v8 v9 v10 : Value) (e : l[n]? = some (SL.blk g t #[v0, v1, v2, v3, v4, v5, v6, v7, v8, v9, v10])) : w.frozen? ⟨g, 0, none⟩ = false ∧ w.frozen? ⟨g, 1, none⟩ = false ∧ w.frozen? ⟨g, 2, none⟩ = false ∧ w.frozen? ⟨g, 3, none⟩ = false ∧ w.frozen? ⟨g, 4, none⟩ = false ∧ w.frozen? ⟨g, 5, none⟩ = false ∧ w.frozen? ⟨g, 6, none⟩ = false ∧ w.frozen? ⟨g, 7, none⟩ = false ∧ w.frozen? ⟨g, 8, none⟩ = false ∧ w.frozen? ⟨g, 9, none⟩ = false ∧ w.frozen? ⟨g, 10, none⟩ = false :=
  ⟨h.free n g t _ e 0, h.free n g t _ e 1, h.free n g t _ e 2, h.free n g t _ e 3, h.free n g t _ e 4, h.free n g t _ e 5, h.free n g t _ e 6, h.free n g t _ e 7, h.free n g t _ e 8, h.free n g t _ e 9, h.free n g t _ e 10⟩
theorem St.c12 {l : List SL} {w0 w : World} (h : St l w0 w) (n g t : Nat) (v0 v1 v2 v3 v4 v5 v6 v7 v8 v9 v10 v11 : Value) (e : l[n]? = some (SL.blk g t #[v0, v1, v2, v3, v4, v5, v6, v7, v8, v9, v10, v11])) : w.cell? ⟨g, 0, none⟩ = some v0 ∧ w.cell? ⟨g, 1, none⟩ = some v1 ∧ w.cell? ⟨g, 2, none⟩ = some v2 ∧ w.cell? ⟨g, 3, none⟩ = some v3 ∧ w.cell? ⟨g, 4, none⟩ = some v4 ∧ w.cell? ⟨g, 5, none⟩ = some v5 ∧ w.cell? ⟨g, 6, none⟩ = some v6 ∧ w.cell? ⟨g, 7, none⟩ = some v7 ∧ w.cell? ⟨g, 8, none⟩ = some v8 ∧ w.cell? ⟨g, 9, none⟩ = some v9 ∧ w.cell? ⟨g, 10, none⟩ = some v10 ∧ w.cell? ⟨g, 11, none⟩ = some v11 :=
  ⟨h.cell n g t _ e 0, h.cell n g t _ e 1, h.cell n g t _ e 2, h.cell n g t _ e 3, h.cell n g t _ e 4, h.cell n g t _ e 5, h.cell n g t _ e 6, h.cell n g t _ e 7, h.cell n g t _ e 8, h.cell n g t _ e 9, h.cell n g t _ e 10, h.cell n g t _ e 11⟩
theorem St.f12 {l : List SL} {w0 w : World} (h : St l w0 w) (n g t : Nat) (v0 v1 v2 v3 v4 v5 v6 v7 v8 v9 v10 v11 : Value) (e : l[n]? = some (SL.blk g t #[v0, v1, v2, v3, v4, v5, v6, v7, v8, v9, v10, v11])) : w.frozen? ⟨g, 0, none⟩ = false ∧ w.frozen? ⟨g, 1, none⟩ = false ∧ w.frozen? ⟨g, 2, none⟩ = false ∧ w.frozen? ⟨g, 3, none⟩ = false ∧ w.frozen? ⟨g, 4, none⟩ = false ∧ w.frozen? ⟨g, 5, none⟩ = false ∧ w.frozen? ⟨g, 6, none⟩ = false ∧ w.frozen? ⟨g, 7, none⟩ = false ∧ w.frozen? ⟨g, 8, none⟩ = false ∧ w.frozen? ⟨g, 9, none⟩ = false ∧ w.frozen? ⟨g, 10, none⟩ = false ∧ w.frozen? ⟨g, 11, none⟩ = false :=
  ⟨h.free n g t _ e 0, h.free n g t _ e 1, h.free n g t _ e 2, h.free n g t _ e 3, h.free n g t _ e 4, h.free n g t _ e 5, h.free n g t _ e 6, h.free n g t _ e 7, h.free n g t _ e 8, h.free n g t _ e 9, h.free n g t _ e 10, h.free n g t _ e 11⟩
theorem row_grown {α : Type} {d : Kd α} {e : Nat} {W w1 : World} {S : Nat → Prop} {v v1 : Value} {xs ys : List α} (h : (SL.row d e v xs).P S W) (h1 : d.R e w1 0 (fun k => S k ∨ W.heap.size ≤ k) v1 ys) (hg : W.grownBy w1 v.ownBlock) :
    ∃ S2, (SL.row d e v1 ys).P S2 w1 ∧ Stp S S2 W w1 :=
  ⟨_, SL.row_of h1, Chg.grown hg (fun k hk => h.1.1 k hk), fun i hi => hi.1⟩
section
variable {P : Program} {ops : Array Oper} {rest : List Oper} {o : Oper} {a : Act} {Q : Exit → Act → World → Prop} {Kc : Act → World → Prop} {l : List SL} {w0 W : World} {α : Type}
/-- A variable, or a struct, in a block of its own. -/
theorem box_st (HS : St l w0 W) (hgd : o.guard = none) {cs : Array Value} {t : TypeId}
    (hrun : (execOp a.eval o).run P W = .ok (.value (.pointer (some ⟨W.heap.size, 0, none⟩))) (W.alloc (.cells cs t (0, 0))))
    (h : ∀ g w1, St (SL.blk g t cs :: l) w0 w1 → Below W.heap.size W w1 → wpList P ops Q rest (a.put o.dst (.pointer (some ⟨g, 0, none⟩))) w1) : wpList P ops Q (o :: rest) a W :=
  Kd.event_run hgd hrun (h _ _ (HS.box t cs) (below_alloc (Below.refl _ _) _))
theorem box_stp (HS : St l w0 W) (hw : Region.wanted o (yielded ops a.tmps) = true) {cs : Array Value} {t : TypeId}
    (hrun : (execOp a.eval o).run P W = .ok (.value (.pointer (some ⟨W.heap.size, 0, none⟩))) (W.alloc (.cells cs t (0, 0))))
    (h : ∀ g w1, St (SL.blk g t cs :: l) w0 w1 → Below W.heap.size W w1 → Kc (a.put o.dst (.pointer (some ⟨g, 0, none⟩))) w1) : if Region.wanted o (yielded ops a.tmps) = true then Oper.wp P o a W Kc Q else Kc (a.put o.dst undef) W :=
  event_step hw hrun (h _ _ (HS.box t cs) (below_alloc (Below.refl _ _) _))
/-- Memory of which nothing need be known. -/
theorem any_st (HS : St l w0 W) (hgd : o.guard = none) {v : Value} {b : Obj} (hrun : (execOp a.eval o).run P W = .ok (.value v) (W.alloc b))
    (h : ∀ w1, St l w0 w1 → Below W.heap.size W w1 → wpList P ops Q rest (a.put o.dst v) w1) : wpList P ops Q (o :: rest) a W :=
  Kd.event_run hgd hrun (h _ (HS.alloc b) (below_alloc (Below.refl _ _) _))
theorem store_run {W w1 : World} (hgd : o.guard = none) (hN : o.dst = none) (hrun : (execOp a.eval o).run P W = .ok .skip w1) (h : wpList P ops Q rest a w1) : wpList P ops Q (o :: rest) a W := by
  refine wpList_plain hgd fun K hK => ?_
  unfold Oper.wp
  rw [hrun]
  show K (a.put o.dst undef) w1
  rw [hN]
  exact hK _ _ h
/-- A cell of a block is written. -/
theorem store_st (HS : St l w0 W) (n g t : Nat) (cs : Array Value) (e : l[n]? = some (SL.blk g t cs)) (i : Nat) (u : Value) (hgd : o.guard = none) (hN : o.dst = none)
    (hrun : (execOp a.eval o).run P W = .ok .skip (W.setCell ⟨g, i, none⟩ u))
    (h : ∀ w1, St (l.set n (SL.blk g t (cs.setIfInBounds i u))) w0 w1 → wpList P ops Q rest a w1) : wpList P ops Q (o :: rest) a W :=
  store_run hgd hN hrun (h _ (HS.set_ n g t cs e i u _ rfl))
theorem store_stp (HS : St l w0 W) (n g t : Nat) (cs : Array Value) (e : l[n]? = some (SL.blk g t cs)) (i : Nat) (u : Value) (hw : Region.wanted o (yielded ops a.tmps) = true) (hN : o.dst = none)
    (hrun : (execOp a.eval o).run P W = .ok .skip (W.setCell ⟨g, i, none⟩ u))
    (h : ∀ w1, St (l.set n (SL.blk g t (cs.setIfInBounds i u))) w0 w1 → Kc a w1) : if Region.wanted o (yielded ops a.tmps) = true then Oper.wp P o a W Kc Q else Kc (a.put none undef) W :=
  skip_ hw hN hrun (h _ (HS.set_ n g t cs e i u _ rfl))
/-- A block is written whole. -/
theorem storeAll_st (HS : St l w0 W) (n g t : Nat) (cs : Array Value) (e : l[n]? = some (SL.blk g t cs)) (vs : List Value) (hl : vs.length = cs.size) (hgd : o.guard = none) (hN : o.dst = none)
    (hrun : (execOp a.eval o).run P W = .ok .skip (setAll g W 0 vs))
    (h : ∀ w1, St (l.set n (SL.blk g t vs.toArray)) w0 w1 → wpList P ops Q rest a w1) : wpList P ops Q (o :: rest) a W :=
  store_run hgd hN hrun (h _ (HS.setAll_ n g t cs e vs hl))
/-- A number of a row is written. -/
theorem put_st {k : IntKind} {ee : Nat} {v : Value} {xs : List Int} (HS : St l w0 W) (n : Nat) (e : l[n]? = some (SL.row (Kd.int k) ee v xs)) (i : Int) (h0 : 0 ≤ i) (h1 : i < xs.length) (x : Int) (hgd : o.guard = none) (hN : o.dst = none)
    (hrun : ∀ b cap, v = .slice (some ⟨b, 0, none⟩) xs.length cap → W.cell? ⟨b, i.toNat, none⟩ = some (.int k (rd xs i)) → W.frozen? ⟨b, i.toNat, none⟩ = false → (execOp a.eval o).run P W = .ok .skip (W.setCell ⟨b, i.toNat, none⟩ (.int k x)))
    (h : ∀ w1, St (l.set n (SL.row (Kd.int k) ee v (xs.set i.toNat x))) w0 w1 → wpList P ops Q rest a w1) : wpList P ops Q (o :: rest) a W := by
  obtain ⟨b, cap, hv, _, hc, hf, hk⟩ := HS.put n e i h0 h1
  exact store_run hgd hN (hrun b cap hv hc hf) (h _ (hk x))
/-- append(s, x): one element more. -/
theorem append_st (d : Kd α) (hf : Flat d) (HS : St l w0 W) (n : Nat) (v : Value) (xs : List α) (e : TypeId) (hl : l[n]? = some (SL.row d e v xs)) (hgd : o.guard = none) (s x : Operand) (t : TypeId) (z : Value) (bytes : Nat)
    (ho : o.op = .call { callee := .builtin .append, args := #[s, x], argTypes := #[t, t] })
    (ht : P.underlying t = some (.slice e)) (hinfo : (P.info? e).map (fun i => (i.zero, i.size, i.bytes)) = some (some z, d.sz, bytes)) (hz : z.cells.size = d.sz) (hs0 : 0 < d.sz) (hb0 : 0 < bytes)
    (p : α) (cs : List Value) (hs : a.eval s = v) (hx : a.eval x = .slice (some ⟨W.heap.size, 0, none⟩) 1 1) (hp : d.K W p cs) (hln : (xs.length + 1) * bytes ≤ 140737488355328)
    (h : ∀ v1 w1, St (l.set n (SL.row d e v1 (xs ++ [p]))) w0 w1 → wpList P ops Q rest (a.put o.dst v1) w1) : wpList P ops Q (o :: rest) a (W.alloc (.cells cs.toArray e)) := by
  obtain ⟨S1, h1, hk⟩ := HS.at_ n _ hl
  refine Kd.R_append d (w0 := W) 0 hgd s x t e z bytes ho ht hinfo hz hs0 hb0 v xs p cs (fun k => S1 k ∨ W.heap.size ≤ k) (fun _ => False) hs hx (hf hp) (fun _ hk => hk.elim) (fun k hk => .inr hk) (Kd.R_mono h1.1 (fun k hk => .inl hk)) (Below.mono (Below.refl W.heap.size W) (Nat.zero_le _)) (Nat.zero_le _) hln ?_
  intro v1 w1 hR1 _ hg _
  obtain ⟨S2, h2, k2⟩ := row_grown h1 hR1 hg
  exact h v1 w1 (hk _ _ _ h2 k2)
theorem append_stp (d : Kd α) (hf : Flat d) (HS : St l w0 W) (n : Nat) (v : Value) (xs : List α) (e : TypeId) (hl : l[n]? = some (SL.row d e v xs)) (hw : Region.wanted o (yielded ops a.tmps) = true) (s x : Operand) (t : TypeId) (z : Value) (bytes : Nat)
    (ho : o.op = .call { callee := .builtin .append, args := #[s, x], argTypes := #[t, t] })
    (ht : P.underlying t = some (.slice e)) (hinfo : (P.info? e).map (fun i => (i.zero, i.size, i.bytes)) = some (some z, d.sz, bytes)) (hz : z.cells.size = d.sz) (hs0 : 0 < d.sz) (hb0 : 0 < bytes)
    (p : α) (cs : List Value) (hs : a.eval s = v) (hx : a.eval x = .slice (some ⟨W.heap.size, 0, none⟩) 1 1) (hp : d.K W p cs) (hln : (xs.length + 1) * bytes ≤ 140737488355328)
    (h : ∀ v1 w1, St (l.set n (SL.row d e v1 (xs ++ [p]))) w0 w1 → Kc (a.put o.dst v1) w1) :
    if Region.wanted o (yielded ops a.tmps) = true then Oper.wp P o a (W.alloc (.cells cs.toArray e)) Kc Q else Kc (a.put o.dst undef) (W.alloc (.cells cs.toArray e)) := by
  obtain ⟨S1, h1, hk⟩ := HS.at_ n _ hl
  refine Kd.R_append_step d (w0 := W) 0 hw s x t e z bytes ho ht hinfo hz hs0 hb0 v xs p cs (fun k => S1 k ∨ W.heap.size ≤ k) (fun _ => False) hs hx (hf hp) (fun _ hk => hk.elim) (fun k hk => .inr hk) (Kd.R_mono h1.1 (fun k hk => .inl hk)) (Below.mono (Below.refl W.heap.size W) (Nat.zero_le _)) (Nat.zero_le _) hln ?_
  intro v1 w1 hR1 _ hg _
  obtain ⟨S2, h2, k2⟩ := row_grown h1 hR1 hg
  exact h v1 w1 (hk _ _ _ h2 k2)
theorem lit_R (d : Kd α) (hf : Flat d) (W : World) (e : Nat) {xs : List α} {inner : List Value} (hrep : Reps (d.K W) d.sz xs inner) (hm : xs.length ≤ 9223372036854775807) :
    d.R e (W.alloc (.cells inner.toArray e)) W.heap.size (fun _ => True) (.slice (some ⟨W.heap.size, 0, none⟩) xs.length xs.length) xs := by
  refine R_of_cells hf hrep ?_ (fun _ _ => trivial)
  have h2 := World.ownsRow_lit (base := W.heap.size) (e := e) (size := d.sz) W inner.toArray xs.length (Nat.le_refl _) (by simpa [maxLen] using hm) (by simpa using hrep.1)
  simpa using h2
/-- A literal of a row, 'make' of one: a row of the call's own. -/
theorem lit_st (d : Kd α) (hf : Flat d) (HS : St l w0 W) (e : Nat) (hgd : o.guard = none) {xs : List α} {inner : List Value}
    (hrun : (execOp a.eval o).run P W = .ok (.value (.slice (some ⟨W.heap.size, 0, none⟩) xs.length xs.length)) (W.alloc (.cells inner.toArray e)))
    (hrep : Reps (d.K W) d.sz xs inner) (hm : xs.length ≤ 9223372036854775807)
    (h : ∀ v1 w1, St (SL.row d e v1 xs :: l) w0 w1 → wpList P ops Q rest (a.put o.dst v1) w1) : wpList P ops Q (o :: rest) a W := by
  exact Kd.event_run hgd hrun (h _ _ (HS.row (ok := fun _ => True) (lit_R d hf W e hrep hm) (below_alloc (Below.refl _ _) _)))
theorem make_st (d : Kd α) (hf : Flat d) (HS : St l w0 W) (e : Nat) (hgd : o.guard = none) (t : TypeId) (x y : Operand) (ho : o.op = .makeSlice t x y) (n : Int) (hx : a.eval x = .int .i64 n) (hy : a.eval y = .int .i64 n)
    (ht : P.underlying t = some (.slice e)) (z : Value) (bytes : Nat) (hinfo : (P.info? e).map (fun i => (i.zero, i.size, i.bytes)) = some (some z, d.sz, bytes)) (hz : z.cells.size = d.sz) (hs0 : 0 < d.sz) (hb0 : 0 < bytes)
    (z0 : α) (hzero : d.K W z0 z.cells.toList) (h0 : 0 ≤ n) (hl : n.toNat * bytes ≤ 281474976710656) {N : Tmp} (hd : o.dst = some N)
    (h : ∀ v1 w1, St (SL.row d e v1 (List.replicate n.toNat z0) :: l) w0 w1 → wpList P ops Q rest (a.put o.dst v1) w1) : wpList P ops Q (o :: rest) a W := by
  refine Kd.R_make d (w0 := W) W.heap.size e hgd hd t x y ho n hx hy ht z bytes hinfo hz hs0 hb0 z0 (ok := fun _ => True) (okp := fun _ => False) (hf hzero) (fun _ h => h.elim) trivial h0 hl (Below.refl _ _) (Nat.le_refl _) ?_
  intro v1 w1 hR hB _ _
  exact h v1 w1 (HS.row hR hB)
/-- append(s, ys...): a row that is read is put behind a row of the call's own. -/
theorem appends_st (d : Kd α) (hf : Flat d) (HS : St l w0 W) (n : Nat) (v : Value) (xs ys : List α) (e : TypeId) (hl : l[n]? = some (SL.row d e v xs)) (hgd : o.guard = none) (s x : Operand) (t : TypeId) (z : Value) (bytes : Nat)
    (ho : o.op = .call { callee := .builtin .append, args := #[s, x], argTypes := #[t, t] })
    (ht : P.underlying t = some (.slice e)) (hinfo : (P.info? e).map (fun i => (i.zero, i.size, i.bytes)) = some (some z, d.sz, bytes)) (hz : z.cells.size = d.sz) (hs0 : 0 < d.sz) (hb0 : 0 < bytes)
    (A : Option Addr) (m c : Nat) (hs : a.eval s = v) (hx : a.eval x = .slice A m c) (HR : d.C W A m ys) (hln : (xs.length + m) * bytes ≤ 140737488355328)
    (h : ∀ v1 w1, St (l.set n (SL.row d e v1 (xs ++ ys))) w0 w1 → wpList P ops Q rest (a.put o.dst v1) w1) : wpList P ops Q (o :: rest) a W := by
  obtain ⟨S1, h1, hk⟩ := HS.at_ n _ hl
  refine Kd.R_append_rows d (Rr := d.K W) (w0 := W) 0 hgd s x t e z bytes ho ht hinfo hz hs0 hb0 v xs ys A m c (fun k => S1 k ∨ W.heap.size ≤ k) (fun _ => False) hs hx (Kd.R_mono h1.1 (fun k hk => .inl hk)) HR (fun x cs hx => hf hx) (fun _ hk => hk.elim) (fun k hk => .inr hk) (Below.mono (Below.refl W.heap.size W) (Nat.zero_le _)) (Nat.zero_le _) hln ?_
  intro v1 w1 hR1 _ hg _
  obtain ⟨S2, h2, k2⟩ := row_grown h1 hR1 hg
  exact h v1 w1 (hk _ _ _ h2 k2)
end
end Go.Proofs.Ytkmhgolohppliaa.Sl
