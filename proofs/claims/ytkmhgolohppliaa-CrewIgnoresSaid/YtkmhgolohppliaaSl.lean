/- Owned memory: assertions on sets of blocks, put side by side; what a call does to them; nothing else turns. -/
import Derived.Test.YtkmhgolohppliaaMine
namespace Go.Proofs.Ytkmhgolohppliaa.Sl
open Go.RowKit Go.Proofs.YtkmhgolohppliaaW.PrintWords Go.Proofs.YtkmhgolohppliaaW.PrintLast Go.Proofs.YtkmhgolohppliaaW.PrintMore Go.Proofs.Ytkmhgolohppliaa.Mine
set_option linter.unusedVariables false
set_option linter.unusedSimpArgs false

/-- What a call keeps: all but the blocks of S, and what is new. -/
structure Chg (S : Nat → Prop) (w w' : World) : Prop where
  os : w'.os = w.os
  tape : w'.tape = w.tape
  output : w'.output = w.output
  size : w.heap.size ≤ w'.heap.size
  block : ∀ i, i < w.heap.size → ¬ S i → w'.heap[i]? = w.heap[i]?
/-- No block. -/
def No (_ : Nat) : Prop := False
/-- A call that owned S, and owns S2 behind it. -/
structure Stp (S S2 : Nat → Prop) (w w' : World) : Prop where
  chg : Chg S w w'
  into : ∀ i, S2 i → S i ∨ w.heap.size ≤ i
section
variable {S S2 S3 T : Nat → Prop} {w w1 w2 w3 : World}
theorem Chg.refl (S : Nat → Prop) (w : World) : Chg S w w := ⟨rfl, rfl, rfl, Nat.le_refl _, fun _ _ _ => rfl⟩
theorem Chg.of_below (h : Below w.heap.size w w1) : Chg S w w1 := ⟨h.os, h.tape, h.output, h.size, fun i hi _ => h.block i hi⟩
theorem Chg.below (h : Chg No w w1) : Below w.heap.size w w1 := ⟨h.os, h.tape, h.output, h.size, fun i hi => h.block i hi (fun k => k)⟩
theorem Chg.trans (h : Chg S w w1) (k : Chg S2 w1 w2) (hs : ∀ i, S2 i → S i ∨ w.heap.size ≤ i) : Chg S w w2 :=
  ⟨k.os.trans h.os, k.tape.trans h.tape, k.output.trans h.output, Nat.le_trans h.size k.size, fun i hi hn =>
    (k.block i (Nat.lt_of_lt_of_le hi h.size) (fun h2 => (hs i h2).elim hn (fun h3 => by omega))).trans (h.block i hi hn)⟩
theorem Chg.mono (h : Chg S w w1) (hs : ∀ i, S i → S2 i) : Chg S2 w w1 := ⟨h.os, h.tape, h.output, h.size, fun i hi hn => h.block i hi (fun hk => hn (hs i hk))⟩
theorem Chg.drewN (h : Chg S w w1) (n : Nat) : Chg S w (w1.drewN n) := ⟨h.os, h.tape, h.output, h.size, h.block⟩
theorem Chg.drew (h : Chg S w w1) : Chg S w w1.drew := ⟨h.os, h.tape, h.output, h.size, h.block⟩
theorem Chg.setCell (h : Chg S w w1) {p : Addr} (hp : S p.block ∨ w.heap.size ≤ p.block) (u : Value) : Chg S w (w1.setCell p u) :=
  ⟨h.os, h.tape, h.output, by simpa [World.setCell] using h.size, fun i hi hn => (Below.heap_setCell w1 p u i (by rintro rfl; rcases hp with hp | hp; exact hn hp; omega)).trans (h.block i hi hn)⟩
theorem Chg.grown {row : Option Nat} (h : w.grownBy w1 row) (hr : ∀ k, row = some k → S k) : Chg S w w1 := ⟨h.os, h.tape, h.output, h.size, fun i hi hn => h.block i hi (fun e => hn (hr i e.symm))⟩
theorem Chg.keepBut {g : Nat} (h : KeepBut w w1 g none) (ho : w1.os = w.os) (ht : w1.tape = w.tape) (hu : w1.output = w.output) (hg : S g) : Chg S w w1 :=
  ⟨ho, ht, hu, h.1, fun i hi hn => h.2 i hi (by rintro rfl; exact hn hg) (by simp)⟩
theorem Stp.refl (S : Nat → Prop) (w : World) : Stp S S w w := ⟨Chg.refl S w, fun _ h => .inl h⟩
theorem Stp.trans (h : Stp S S2 w w1) (k : Stp S2 S3 w1 w2) : Stp S S3 w w2 :=
  ⟨h.chg.trans k.chg h.into, fun i hi => (k.into i hi).elim (h.into i) (fun h3 => .inr (Nat.le_trans h.chg.size h3))⟩
theorem Stp.of_below (h : Below w.heap.size w w1) : Stp S S w w1 := ⟨Chg.of_below h, fun _ hi => .inl hi⟩
theorem Stp.then_below (h : Stp S S2 w w1) (k : Below w1.heap.size w1 w2) : Stp S S2 w w2 := h.trans (Stp.of_below k)
theorem Stp.sub (h : Stp S S2 w w1) (hs : ∀ i, S3 i → S2 i) : Stp S S3 w w1 := ⟨h.chg, fun i hi => h.into i (hs i hi)⟩
theorem Stp.more (h : Stp S S2 w w1) (hs : ∀ i, S i → T i) : Stp T S2 w w1 := ⟨h.chg.mono hs, fun i hi => (h.into i hi).imp (hs i) id⟩
theorem Stp.below (h : Stp No S2 w w1) : Below w.heap.size w w1 := h.chg.below
theorem Stp.drewN (h : Stp S S2 w w1) (n : Nat) : Stp S S2 w (w1.drewN n) := ⟨h.chg.drewN n, h.into⟩
theorem Stp.drew (h : Stp S S2 w w1) : Stp S S2 w w1.drew := ⟨h.chg.drew, h.into⟩
end

/-- An assertion on the blocks that it owns. -/
structure SL where
  P : (Nat → Prop) → World → Prop
  lt : ∀ {S w}, P S w → ∀ i, S i → i < w.heap.size
  move : ∀ {S w w'}, P S w → (∀ i, S i → w'.heap[i]? = w.heap[i]?) → P S w'
namespace SL
variable {A B A2 B2 : SL} {S S2 T T2 : Nat → Prop} {w w1 w2 : World}
theorem chg (h : A.P S w) (k : Chg T w w1) (hd : ∀ i, S i → ¬ T i) : A.P S w1 := A.move h (fun i hi => k.block i (A.lt h i hi) (hd i hi))
theorem below (h : A.P S w) (k : Below w.heap.size w w1) : A.P S w1 := A.move h (fun i hi => k.block i (A.lt h i hi))
/-- Nothing is owned; a fact. -/
def pure (p : Prop) : SL where
  P S w := p ∧ ∀ i, ¬ S i
  lt h i hi := absurd hi (h.2 i)
  move h _ := h
/-- A block, known whole. -/
def blk (g t : Nat) (cs : Array Value) : SL where
  P S w := w.heap[g]? = some (.cells cs t (0, 0)) ∧ ∀ i, S i ↔ i = g
  lt h i hi := by rw [(h.2 i).1 hi]; exact blk_lt h.1
  move h hm := ⟨(hm g ((h.2 g).2 rfl)).trans h.1, h.2⟩
theorem lt_of_same {w w' : World} {i : Nat} (h : i < w.heap.size) (e : w'.heap[i]? = w.heap[i]?) : i < w'.heap.size := by
  rw [Array.getElem?_eq_getElem h] at e
  exact (Array.getElem?_eq_some_iff.1 e).1
/-- A row of the call's own. -/
def row {α : Type} (d : Kd α) (e : Nat) (v : Value) (xs : List α) : SL where
  P S w := d.R e w 0 S v xs ∧ ∀ i, S i → i < w.heap.size
  lt h := h.2
  move h hm := ⟨Kd.R_move h.1 hm, fun i hi => lt_of_same (h.2 i hi) (hm i hi)⟩
def star (A B : SL) : SL where
  P S w := ∃ S1 S2, A.P S1 w ∧ B.P S2 w ∧ (∀ i, S1 i → ¬ S2 i) ∧ ∀ i, S i ↔ S1 i ∨ S2 i
  lt := by
    rintro S w ⟨S1, S2, h1, h2, _, hs⟩ i hi
    exact ((hs i).1 hi).elim (A.lt h1 i) (B.lt h2 i)
  move := by
    rintro S w w' ⟨S1, S2, h1, h2, hd, hs⟩ hm
    exact ⟨S1, S2, A.move h1 (fun i hi => hm i ((hs i).2 (.inl hi))), B.move h2 (fun i hi => hm i ((hs i).2 (.inr hi))), hd, hs⟩
def ex {α : Type} (f : α → SL) : SL where
  P S w := ∃ x, (f x).P S w
  lt := by rintro S w ⟨x, h⟩; exact (f x).lt h
  move := by rintro S w w' ⟨x, h⟩ hm; exact ⟨x, (f x).move h hm⟩
/-- With a fact that owns nothing. -/
def fact (A : SL) (p : Prop) : SL where
  P S w := A.P S w ∧ p
  lt h := A.lt h.1
  move h hm := ⟨A.move h.1 hm, h.2⟩
def emp : SL where
  P S w := ∀ i, ¬ S i
  lt h i hi := absurd hi (h i)
  move h _ := h
/-- All of a list, side by side. -/
def all : List SL → SL
  | [] => emp
  | A :: l => star A (all l)
/-- The left part is called on. -/
theorem left (h : (star A B).P S w) : ∃ S1, A.P S1 w ∧ ∀ (A2 : SL) (w1 : World) (S2 : Nat → Prop), A2.P S2 w1 → Stp S1 S2 w w1 → ∃ S', (star A2 B).P S' w1 ∧ Stp S S' w w1 := by
  obtain ⟨S1, T, h1, h2, hd, hs⟩ := h
  refine ⟨S1, h1, fun A2 w1 S2 h3 k => ⟨fun i => S2 i ∨ T i, ⟨S2, T, h3, SL.chg h2 k.chg (fun i hi hj => hd i hj hi), fun i hi hj => ?_, fun _ => Iff.rfl⟩, ?_, ?_⟩⟩
  · rcases k.into i hi with h | h
    · exact hd i h hj
    · have := B.lt h2 i hj; omega
  · exact k.chg.mono (fun i hi => (hs i).2 (.inl hi))
  · rintro i (hi | hi)
    · exact (k.into i hi).imp (fun h => (hs i).2 (.inl h)) id
    · exact .inl ((hs i).2 (.inr hi))
theorem star_comm (h : (star A B).P S w) : (star B A).P S w := by
  obtain ⟨S1, T, h1, h2, hd, hs⟩ := h
  exact ⟨T, S1, h2, h1, fun i hi hj => hd i hj hi, fun i => (hs i).trans Or.comm⟩
theorem right (h : (star A B).P S w) : ∃ S1, B.P S1 w ∧ ∀ (B2 : SL) (w1 : World) (S2 : Nat → Prop), B2.P S2 w1 → Stp S1 S2 w w1 → ∃ S', (star A B2).P S' w1 ∧ Stp S S' w w1 := by
  obtain ⟨S1, h1, hk⟩ := left (star_comm h)
  refine ⟨S1, h1, fun B2 w1 S2 h3 k => ?_⟩
  obtain ⟨S', h4, k4⟩ := hk B2 w1 S2 h3 k
  exact ⟨S', star_comm h4, k4⟩
theorem mono_right {S : Nat → Prop} {w : World} (h : (star A B).P S w) (hb : ∀ T, B.P T w → B2.P T w) : (star A B2).P S w := by
  obtain ⟨S1, T, h1, h2, hd, hs⟩ := h
  exact ⟨S1, T, h1, hb T h2, hd, hs⟩
theorem mono_left {S : Nat → Prop} {w : World} (h : (star A B).P S w) (ha : ∀ T, A.P T w → A2.P T w) : (star A2 B).P S w := by
  obtain ⟨S1, T, h1, h2, hd, hs⟩ := h
  exact ⟨S1, T, ha S1 h1, h2, hd, hs⟩
theorem swap3 {C : SL} (h : (star A (star B C)).P S w) : (star B (star A C)).P S w := by
  obtain ⟨S1, T, h1, ⟨S2, T2, h2, h3, hd2, hs2⟩, hd, hs⟩ := h
  refine ⟨S2, fun i => S1 i ∨ T2 i, h2, ⟨S1, T2, h1, h3, fun i hi hj => hd i hi ((hs2 i).2 (.inr hj)), fun _ => Iff.rfl⟩, ?_, fun i => ?_⟩
  · rintro i hi (hj | hj)
    · exact hd i hj ((hs2 i).2 (.inl hi))
    · exact hd2 i hi hj
  · rw [hs, hs2]
    exact ⟨fun h => h.elim (fun h => .inr (.inl h)) (fun h => h.elim .inl (fun h => .inr (.inr h))), fun h => h.elim (fun h => .inr (.inl h)) (fun h => h.elim .inl (fun h => .inr (.inr h)))⟩
theorem front : ∀ (l : List SL) (n : Nat) (A : SL) {S : Nat → Prop} {w : World}, l[n]? = some A → (all l).P S w → (all (A :: l.eraseIdx n)).P S w
  | [], n, A, S, w, e, h => by simp at e
  | B :: l, 0, A, S, w, e, h => by
    simp at e; subst e; exact h
  | B :: l, n + 1, A, S, w, e, ⟨S1, T, h1, h2, hd, hs⟩ => by
    have h3 := front l n A (by simpa using e) h2
    exact swap3 ⟨S1, T, h1, h3, hd, hs⟩
theorem back : ∀ (l : List SL) (n : Nat) (A : SL) {S : Nat → Prop} {w : World}, n < l.length → (all (A :: l.eraseIdx n)).P S w → (all (l.set n A)).P S w
  | [], n, A, S, w, e, h => by simp at e
  | B :: l, 0, A, S, w, e, h => h
  | B :: l, n + 1, A, S, w, e, h => by
    obtain ⟨S1, T, h1, h2, hd, hs⟩ := swap3 (A := A) (B := B) h
    exact ⟨S1, T, h1, back l n A (by simpa using e) h2, hd, hs⟩
/-- What is new is beside all. -/
theorem add (h : B.P S w) (h3 : A.P S2 w1) (k : Stp No S2 w w1) : ∃ S', (star A B).P S' w1 ∧ Stp S S' w w1 := by
  refine ⟨fun i => S2 i ∨ S i, ⟨S2, S, h3, SL.chg h k.chg (fun i _ hj => hj), fun i hi hj => ?_, fun _ => Iff.rfl⟩, k.chg.mono (fun _ hi => hi.elim), ?_⟩
  · rcases k.into i hi with h' | h'
    · exact h'
    · have := B.lt h i hj; omega
  · rintro i (hi | hi)
    · exact (k.into i hi).elim (fun h => h.elim) .inr
    · exact .inl hi
/-- The k-th of a list is called on. -/
theorem at_ : ∀ (l : List SL) (n : Nat) (A : SL) {S : Nat → Prop} {w : World}, l[n]? = some A → (all l).P S w →
    ∃ S1, A.P S1 w ∧ ∀ (A2 : SL) (w1 : World) (S2 : Nat → Prop), A2.P S2 w1 → Stp S1 S2 w w1 → ∃ S', (all (l.set n A2)).P S' w1 ∧ Stp S S' w w1
  | [], n, A, S, w, h, _ => by simp at h
  | B :: l, 0, A, S, w, h, h1 => by
    simp at h; subst h
    exact left h1
  | B :: l, n + 1, A, S, w, h, h1 => by
    obtain ⟨T, h2, hk⟩ := right h1
    obtain ⟨S1, h3, hk3⟩ := at_ l n A (by simpa using h) h2
    refine ⟨S1, h3, fun A2 w1 S2 h4 k4 => ?_⟩
    obtain ⟨S', h5, k5⟩ := hk3 A2 w1 S2 h4 k4
    obtain ⟨S'', h6, k6⟩ := hk _ w1 S' h5 k5
    exact ⟨S'', h6, k6⟩
/-- A list, apart: the head and what is behind it. -/
theorem apart : ∀ (l l2 : List SL) {S : Nat → Prop} {w : World}, (all (l ++ l2)).P S w → (star (all l) (all l2)).P S w
  | [], l2, S, w, h => ⟨fun _ => False, S, fun _ h => h, h, fun _ h => h.elim, fun i => by simp⟩
  | A :: l, l2, S, w, h => by
    obtain ⟨S1, T, h1, h2, hd, hs⟩ := h
    obtain ⟨T1, T2, h3, h4, hd2, hs2⟩ := apart l l2 h2
    refine ⟨fun i => S1 i ∨ T1 i, T2, ⟨S1, T1, h1, h3, fun i hi hj => hd i hi ((hs2 i).2 (.inl hj)), fun _ => Iff.rfl⟩, h4, ?_, fun i => ?_⟩
    · rintro i (hi | hi) hj
      · exact hd i hi ((hs2 i).2 (.inr hj))
      · exact hd2 i hi hj
    · rw [hs, hs2, or_assoc]
theorem join : ∀ (l l2 : List SL) {S : Nat → Prop} {w : World}, (star (all l) (all l2)).P S w → (all (l ++ l2)).P S w
  | [], l2, S, w, ⟨S1, S2, h1, h2, _, hs⟩ => by
    have e : S = S2 := by funext i; exact propext ((hs i).trans ⟨fun h => h.elim (fun h => absurd h (h1 i)) id, .inr⟩)
    rw [e]; exact h2
  | A :: l, l2, S, w, ⟨S1, S2, ⟨T1, T2, h1, h3, hd1, hs1⟩, h2, hd, hs⟩ => by
    refine ⟨T1, fun i => T2 i ∨ S2 i, h1, join l l2 ⟨T2, S2, h3, h2, fun i hi hj => hd i ((hs1 i).2 (.inr hi)) hj, fun _ => Iff.rfl⟩, ?_, fun i => ?_⟩
    · rintro i hi (hj | hj)
      · exact hd1 i hi hj
      · exact hd i ((hs1 i).2 (.inl hi)) hj
    · rw [hs, hs1, or_assoc]
/-- A new block. -/
theorem blk_new (w : World) (t : Nat) (cs : Array Value) : (blk w.heap.size t cs).P (fun i => i = w.heap.size) (w.alloc (.cells cs t)) ∧ Stp No (fun i => i = w.heap.size) w (w.alloc (.cells cs t)) :=
  ⟨⟨heap_alloc_new w _, fun _ => Iff.rfl⟩, Chg.of_below (below_alloc (Below.refl _ _) _), fun i hi => .inr (by rw [hi]; exact Nat.le_refl _)⟩
theorem blk_set {g t : Nat} {cs : Array Value} (h : (blk g t cs).P S w) (i : Nat) (u : Value) (cs' : Array Value) (e : cs.setIfInBounds i u = cs') :
    (blk g t cs').P S (w.setCell ⟨g, i, none⟩ u) ∧ Stp S S w (w.setCell ⟨g, i, none⟩ u) := by
  subst e
  exact ⟨⟨Go.Proofs.YtkmhgolohppliaaW.PrintWords.blk_set h.1 i u, h.2⟩, (Chg.refl S w).setCell (.inl ((h.2 g).2 rfl)) u, fun _ hi => .inl hi⟩
/-- A row that a call made, as owned memory. -/
theorem row_of {α : Type} {d : Kd α} {e base : Nat} {ok : Nat → Prop} {v : Value} {xs : List α} (h : d.R e w base ok v xs) :
    (row d e v xs).P (fun k => ok k ∧ base ≤ k ∧ k < w.heap.size) w :=
  ⟨Kd.R_lower (Kd.R_mono (Kd.R_bound h) (fun k hk => ⟨hk.1, hk.2.1, hk.2.2.1⟩)) (Nat.zero_le _), fun i hi => hi.2.2⟩
theorem row_new {α : Type} {d : Kd α} {e : Nat} {ok : Nat → Prop} {v : Value} {xs : List α} (h : d.R e w1 w.heap.size ok v xs) (hb : Below w.heap.size w w1) :
    ∃ S, (row d e v xs).P S w1 ∧ Stp No S w w1 :=
  ⟨_, row_of h, Chg.of_below hb, fun i hi => .inr hi.2.1⟩
theorem row_nil {α : Type} (d : Kd α) (e : Nat) (w : World) : (row d e (.slice none 0 0) []).P No w := ⟨Kd.R_nil _ _ _ _ _, fun _ h => h.elim⟩
end SL

/-- What the call owns behind w0: all of a list; nothing that was there has turned. -/
def St (l : List SL) (w0 w : World) : Prop := ∃ S, (SL.all l).P S w ∧ Stp No S w0 w
namespace St
variable {l l2 : List SL} {A B : SL} {w0 w w1 : World} {S S2 : Nat → Prop}
theorem start (w : World) : St [] w w := ⟨No, fun _ h => h, Stp.refl _ _⟩
theorem below (h : St l w0 w) : Below w0.heap.size w0 w := by obtain ⟨S, _, k⟩ := h; exact k.below
theorem size (h : St l w0 w) : w0.heap.size ≤ w.heap.size := h.below.size
theorem then_ (h : St l w0 w) (k : Below w.heap.size w w1) : St l w0 w1 := by
  obtain ⟨S, h, k0⟩ := h
  exact ⟨S, SL.below h k, k0.then_below k⟩
theorem drewN (h : St l w0 w) (n : Nat) : St l w0 (w.drewN n) := h.then_ (pw_below_drewN (Below.refl _ _) n)
theorem drew (h : St l w0 w) : St l w0 w.drew := h.then_ (below_drew (Below.refl _ _))
theorem alloc (h : St l w0 w) (o : Obj) : St l w0 (w.alloc o) := h.then_ (below_alloc (Below.refl _ _) o)
theorem drawn (h : St l w0 w) (k : Drawn0 w w1) : St l w0 w1 := by
  obtain ⟨n, rfl⟩ := k.out
  exact h.drewN n
/-- What a call made joins what is owned. -/
theorem add (h : St l w0 w) (h3 : A.P S2 w1) (k : Stp No S2 w w1) : St (A :: l) w0 w1 := by
  obtain ⟨S, h, k0⟩ := h
  obtain ⟨S', h4, k4⟩ := SL.add h h3 k
  exact ⟨S', h4, k0.trans k4⟩
theorem box (h : St l w0 w) (t : Nat) (cs : Array Value) : St (SL.blk w.heap.size t cs :: l) w0 (w.alloc (.cells cs t)) := by
  obtain ⟨h1, k1⟩ := SL.blk_new w t cs
  exact h.add h1 k1
/-- The same, its number said. -/
theorem boxAt (h : St l w0 w) (g : Nat) (hg : w.heap.size = g) (t : Nat) (cs : Array Value) : St (SL.blk g t cs :: l) w0 (w.alloc (.cells cs t)) := by
  subst hg
  exact h.box t cs
theorem row {α : Type} {d : Kd α} {e : Nat} {ok : Nat → Prop} {v : Value} {xs : List α} (h : St l w0 w) (hR : d.R e w1 w.heap.size ok v xs) (hb : Below w.heap.size w w1) : St (SL.row d e v xs :: l) w0 w1 := by
  obtain ⟨S, h1, k1⟩ := SL.row_new hR hb
  exact h.add h1 k1
/-- The n-th is called on. -/
theorem at_ (h : St l w0 w) (n : Nat) (A : SL) (e : l[n]? = some A) : ∃ S1, A.P S1 w ∧ ∀ (A2 : SL) (w1 : World) (S2 : Nat → Prop), A2.P S2 w1 → Stp S1 S2 w w1 → St (l.set n A2) w0 w1 := by
  obtain ⟨S, h, k⟩ := h
  obtain ⟨S1, h1, hk⟩ := SL.at_ l n A e h
  refine ⟨S1, h1, fun A2 w1 S2 h2 k2 => ?_⟩
  obtain ⟨S', h3, k3⟩ := hk A2 w1 S2 h2 k2
  exact ⟨S', h3, k.trans k3⟩
theorem drop (h : St (A :: l) w0 w) : St l w0 w := by
  obtain ⟨S, ⟨S1, T, h1, h2, hd, hs⟩, k⟩ := h
  exact ⟨T, h2, k.sub (fun i hi => (hs i).2 (.inr hi))⟩
theorem _root_.Go.Proofs.Ytkmhgolohppliaa.Sl.SL.erase : ∀ (l : List SL) (n : Nat) {S : Nat → Prop} {w : World}, (SL.all l).P S w → ∃ S', (SL.all (l.eraseIdx n)).P S' w ∧ ∀ i, S' i → S i
  | [], n, S, w, h => ⟨S, by simpa using h, fun _ h => h⟩
  | A :: l, 0, S, w, ⟨S1, T, h1, h2, hd, hs⟩ => ⟨T, h2, fun i hi => (hs i).2 (.inr hi)⟩
  | A :: l, n + 1, S, w, ⟨S1, T, h1, h2, hd, hs⟩ => by
    obtain ⟨T', h3, h4⟩ := SL.erase l n h2
    exact ⟨fun i => S1 i ∨ T' i, ⟨S1, T', h1, h3, fun i hi hj => hd i hi (h4 i hj), fun _ => Iff.rfl⟩, fun i hi => (hs i).2 (hi.imp id (h4 i))⟩
/-- The n-th is forgotten. -/
theorem erase (h : St l w0 w) (n : Nat) : St (l.eraseIdx n) w0 w := by
  obtain ⟨S, h, k⟩ := h
  obtain ⟨S', h1, h2⟩ := SL.erase l n h
  exact ⟨S', h1, k.sub h2⟩
/-- A cell that came in. -/
theorem old (h : St l w0 w) {p : Addr} {v : Value} (hc : w0.cell? p = some v) : w.cell? p = some v := pw_cell_below h.below hc
theorem front (h : St l w0 w) (n : Nat) (A : SL) (e : l[n]? = some A) : St (A :: l.eraseIdx n) w0 w := by
  obtain ⟨S, h, k⟩ := h
  exact ⟨S, SL.front l n A e h, k⟩
theorem back (n : Nat) (hn : n < l.length) (h : St (A :: l.eraseIdx n) w0 w) : St (l.set n A) w0 w := by
  obtain ⟨S, h, k⟩ := h
  exact ⟨S, SL.back l n A hn h, k⟩
/-- A contract told of the head serves at any place. -/
theorem call_at {P : Program} {f : FuncId} {args : Array Value} {R : Ending → SL → Prop} (h : St l w0 w) (n : Nat) (e : l[n]? = some A)
    (H : ∀ l', St (A :: l') w0 w → Calls P f args w fun e w' => ∃ B, R e B ∧ St (B :: l') w0 w') : Calls P f args w fun e w' => ∃ B, R e B ∧ St (l.set n B) w0 w' := by
  have hn : n < l.length := (List.getElem?_eq_some_iff.1 e).1
  refine (H _ (h.front n A e)).mono ?_
  rintro e w' ⟨B, hR, hS⟩
  exact ⟨B, hR, back n hn hS⟩
theorem unex {α : Type} {f : α → SL} (h : St (SL.ex f :: l) w0 w) : ∃ x, St (f x :: l) w0 w := by
  obtain ⟨S, ⟨S1, T, ⟨x, h1⟩, h2, hd, hs⟩, k⟩ := h
  exact ⟨x, S, ⟨S1, T, h1, h2, hd, hs⟩, k⟩
theorem mkex {α : Type} {f : α → SL} (x : α) (h : St (f x :: l) w0 w) : St (SL.ex f :: l) w0 w := by
  obtain ⟨S, ⟨S1, T, h1, h2, hd, hs⟩, k⟩ := h
  exact ⟨S, ⟨S1, T, ⟨x, h1⟩, h2, hd, hs⟩, k⟩
/-- What a call made (told of its own world) joins what is owned. -/
theorem join1 (h : St l w0 w) (k : St [A] w w1) : St (A :: l) w0 w1 := by
  obtain ⟨S2, ⟨S3, S4, h3, h4, _, hs⟩, k2⟩ := k
  exact h.add h3 (k2.sub (fun i hi => (hs i).2 (.inl hi)))
/-- The first two become one thing (which may own less). -/
theorem fuse (h : St (A :: B :: l) w0 w) (D : SL) (hf : ∀ S, (SL.star A B).P S w → ∃ S', D.P S' w ∧ ∀ i, S' i → S i) : St (D :: l) w0 w := by
  obtain ⟨S, ⟨S1, T, h1, ⟨S2, T2, h2, h3, hd2, hs2⟩, hd, hs⟩, k⟩ := h
  obtain ⟨S', h4, h5⟩ := hf (fun i => S1 i ∨ S2 i) ⟨S1, S2, h1, h2, fun i hi hj => hd i hi ((hs2 i).2 (.inl hj)), fun _ => Iff.rfl⟩
  refine ⟨fun i => S' i ∨ T2 i, ⟨S', T2, h4, h3, fun i hi hj => ?_, fun _ => Iff.rfl⟩, k.sub ?_⟩
  · rcases h5 i hi with h6 | h6
    · exact hd i h6 ((hs2 i).2 (.inr hj))
    · exact hd2 i h6 hj
  · rintro i (hi | hi)
    · rcases h5 i hi with h6 | h6
      · exact (hs i).2 (.inl h6)
      · exact (hs i).2 (.inr ((hs2 i).2 (.inl h6)))
    · exact (hs i).2 (.inr ((hs2 i).2 (.inr hi)))
theorem pair (h : St (A :: B :: l) w0 w) : St (SL.star A B :: l) w0 w := h.fuse _ (fun S h => ⟨S, h, fun _ h => h⟩)
/-- One thing becomes two. -/
theorem part (h : St (SL.star A B :: l) w0 w) : St (A :: B :: l) w0 w := by
  obtain ⟨S, ⟨S1, T, ⟨T1, T2, h1, h2, hd1, hs1⟩, h3, hd, hs⟩, k⟩ := h
  refine ⟨S, ⟨T1, fun i => T2 i ∨ T i, h1, ⟨T2, T, h2, h3, fun i hi hj => hd i ((hs1 i).2 (.inr hi)) hj, fun _ => Iff.rfl⟩, ?_, fun i => ?_⟩, k⟩
  · rintro i hi (hj | hj)
    · exact hd1 i hi hj
    · exact hd i ((hs1 i).2 (.inl hi)) hj
  · rw [hs, hs1, or_assoc]
theorem imp (h : St (A :: l) w0 w) (ha : ∀ T, A.P T w → B.P T w) : St (B :: l) w0 w := by
  obtain ⟨S, h, k⟩ := h
  exact ⟨S, SL.mono_left h ha, k⟩
theorem swap (h : St (A :: B :: l) w0 w) : St (B :: A :: l) w0 w := by
  obtain ⟨S, ⟨S1, T, h1, ⟨S2, T2, h2, h3, hd2, hs2⟩, hd, hs⟩, k⟩ := h
  refine ⟨S, ⟨S2, fun i => S1 i ∨ T2 i, h2, ⟨S1, T2, h1, h3, fun i hi hj => hd i hi ((hs2 i).2 (.inr hj)), fun _ => Iff.rfl⟩, ?_, fun i => ?_⟩, k⟩
  · rintro i hi (hj | hj)
    · exact hd i hj ((hs2 i).2 (.inl hi))
    · exact hd2 i hi hj
  · rw [hs, hs2]
    exact ⟨fun h => h.elim (fun h => .inr (.inl h)) (fun h => h.elim .inl (fun h => .inr (.inr h))), fun h => h.elim (fun h => .inr (.inl h)) (fun h => h.elim .inl (fun h => .inr (.inr h)))⟩
/-- A block among what is owned is written. -/
theorem set_ (h : St l w0 w) (n g t : Nat) (cs : Array Value) (e : l[n]? = some (SL.blk g t cs)) (i : Nat) (u : Value) (cs' : Array Value) (e' : cs.setIfInBounds i u = cs') :
    St (l.set n (SL.blk g t cs')) w0 (w.setCell ⟨g, i, none⟩ u) := by
  obtain ⟨S1, h1, hk⟩ := h.at_ n _ e
  obtain ⟨h2, k2⟩ := SL.blk_set h1 i u cs' e'
  exact hk _ _ _ h2 k2
theorem cell (h : St l w0 w) (n g t : Nat) (cs : Array Value) (e : l[n]? = some (SL.blk g t cs)) (i : Nat) : w.cell? ⟨g, i, none⟩ = cs[i]? := by
  obtain ⟨S1, h1, _⟩ := h.at_ n _ e
  exact blk_cell h1.1 i
theorem free (h : St l w0 w) (n g t : Nat) (cs : Array Value) (e : l[n]? = some (SL.blk g t cs)) (i : Nat) : w.frozen? ⟨g, i, none⟩ = false := by
  obtain ⟨S1, h1, _⟩ := h.at_ n _ e
  exact blk_frozen h1.1 i
theorem heap (h : St l w0 w) (n g t : Nat) (cs : Array Value) (e : l[n]? = some (SL.blk g t cs)) : w.heap[g]? = some (.cells cs t (0, 0)) := by
  obtain ⟨S1, h1, _⟩ := h.at_ n _ e
  exact h1.1
/-- A call that keeps all but one block among what is owned. -/
theorem keepBut (h : St l w0 w) (n g t : Nat) (cs cs' : Array Value) (e : l[n]? = some (SL.blk g t cs)) (hb : w1.heap[g]? = some (.cells cs' t (0, 0))) (hB : Below w0.heap.size w0 w1) (hK : KeepBut w w1 g none) : St (l.set n (SL.blk g t cs')) w0 w1 := by
  have hb0 := h.below
  obtain ⟨S1, h1, hk⟩ := h.at_ n _ e
  exact hk (SL.blk g t cs') w1 S1 ⟨hb, h1.2⟩ ⟨Chg.keepBut hK (hB.os.trans hb0.os.symm) (hB.tape.trans hb0.tape.symm) (hB.output.trans hb0.output.symm) ((h1.2 g).2 rfl), fun i hi => .inl hi⟩
/-- Two of them are apart. -/
theorem ne : ∀ {l : List SL} {S : Nat → Prop}, (SL.all l).P S w → ∀ (n m : Nat) (A B : SL), l[n]? = some A → l[m]? = some B → n < m → ∃ S1 S2, A.P S1 w ∧ B.P S2 w ∧ ∀ i, S1 i → ¬ S2 i
  | [], S, h, n, m, A, B, e1, e2, hlt => by simp at e1
  | C :: l, S, h, 0, m, A, B, e1, e2, hlt => by
    obtain ⟨S1, T, h1, h2, hd, hs⟩ := h
    simp at e1; subst e1
    obtain ⟨m, rfl⟩ : ∃ k, m = k + 1 := ⟨m - 1, by omega⟩
    have aux : ∀ (l : List SL) (T : Nat → Prop) (m : Nat), (SL.all l).P T w → l[m]? = some B → ∃ S2, B.P S2 w ∧ ∀ i, S2 i → T i := by
      intro l
      induction l with
      | nil => intro T m h e; simp at e
      | cons D l ih =>
        intro T m h e
        obtain ⟨T1, T2, g1, g2, _, hs'⟩ := h
        cases m with
        | zero => simp at e; subst e; exact ⟨T1, g1, fun i hi => (hs' i).2 (.inl hi)⟩
        | succ m =>
          obtain ⟨S2, g3, g4⟩ := ih T2 m g2 (by simpa using e)
          exact ⟨S2, g3, fun i hi => (hs' i).2 (.inr (g4 i hi))⟩
    obtain ⟨S2, g3, g4⟩ := aux l T m h2 (by simpa using e2)
    exact ⟨S1, S2, h1, g3, fun i hi hj => hd i hi (g4 i hj)⟩
  | C :: l, S, h, n + 1, m, A, B, e1, e2, hlt => by
    obtain ⟨S1, T, h1, h2, hd, hs⟩ := h
    obtain ⟨m, rfl⟩ : ∃ k, m = k + 1 := ⟨m - 1, by omega⟩
    exact ne h2 n m A B (by simpa using e1) (by simpa using e2) (by omega)
theorem ne_blk (h : St l w0 w) (n m g t g' t' : Nat) (cs cs' : Array Value) (e1 : l[n]? = some (SL.blk g t cs)) (e2 : l[m]? = some (SL.blk g' t' cs')) (hlt : n < m) : g ≠ g' := by
  obtain ⟨S, h, _⟩ := h
  obtain ⟨S1, S2, h1, h2, hd⟩ := ne h n m _ _ e1 e2 hlt
  rintro rfl
  exact hd g ((h1.2 g).2 rfl) ((h2.2 g).2 rfl)
/-- A block and a row are apart. -/
theorem ne_row {α : Type} {d : Kd α} {ee : Nat} {v : Value} {xs : List α} (h : St l w0 w) (n m g t : Nat) (cs : Array Value) (e1 : l[n]? = some (SL.row d ee v xs)) (e2 : l[m]? = some (SL.blk g t cs)) (hlt : n < m) : v.ownBlock ≠ some g := by
  obtain ⟨S, h, _⟩ := h
  obtain ⟨S1, S2, h1, h2, hd⟩ := ne h n m _ _ e1 e2 hlt
  intro e
  exact hd g (h1.1.1 g e) ((h2.2 g).2 rfl)
theorem ne_row' {α : Type} {d : Kd α} {ee : Nat} {v : Value} {xs : List α} (h : St l w0 w) (n m g t : Nat) (cs : Array Value) (e1 : l[n]? = some (SL.row d ee v xs)) (e2 : l[m]? = some (SL.blk g t cs)) (hlt : m < n) : v.ownBlock ≠ some g := by
  obtain ⟨S, h, _⟩ := h
  obtain ⟨S1, S2, h1, h2, hd⟩ := ne h m n _ _ e2 e1 hlt
  intro e
  exact hd g ((h1.2 g).2 rfl) (h2.1.1 g e)
/-- A number of a row is written. -/
theorem put {k : IntKind} {ee : Nat} {v : Value} {xs : List Int} (h : St l w0 w) (n : Nat) (e : l[n]? = some (SL.row (Kd.int k) ee v xs)) (i : Int) (h0 : 0 ≤ i) (h1 : i < xs.length) :
    ∃ b cap, v = .slice (some ⟨b, 0, none⟩) xs.length cap ∧ xs.length ≤ cap ∧ w.cell? ⟨b, i.toNat, none⟩ = some (.int k (rd xs i)) ∧ w.frozen? ⟨b, i.toNat, none⟩ = false ∧
      ∀ x, St (l.set n (SL.row (Kd.int k) ee v (xs.set i.toNat x))) w0 (w.setCell ⟨b, i.toNat, none⟩ (.int k x)) := by
  obtain ⟨S1, h2, hk⟩ := h.at_ n _ e
  have ho := Kd.own_of_R h2.1
  obtain ⟨b, cap, hv, hge, hlt⟩ := ho.form (by omega)
  subst hv
  have ha := own_at_of (d := (0 : Int)) ho i h0 (by simpa using h1)
  refine ⟨b, cap, rfl, own_le ho, ha.1, ha.2, fun x => hk _ _ S1 ⟨?_, fun i hi => by simpa [World.setCell] using h2.2 i hi⟩ ⟨(Chg.refl S1 w).setCell (.inl (h2.1.1 b rfl)) _, fun i hi => .inl hi⟩⟩
  have hs := (own_store_of (enc := Value.int k) ho i x).1
  refine Kd.R_of_own (h1 := fun _ => rfl) ?_ (fun k hk => h2.1.1 k hk)
  simpa using hs
/-- Owned blocks are younger than what came in. -/
theorem ge (h : St l w0 w) (n g t : Nat) (cs : Array Value) (e : l[n]? = some (SL.blk g t cs)) : w0.heap.size ≤ g := by
  obtain ⟨S, h, k⟩ := h
  have aux : ∀ (l : List SL) (T : Nat → Prop) (m : Nat), (SL.all l).P T w → l[m]? = some (SL.blk g t cs) → T g := by
    intro l
    induction l with
    | nil => intro T m h e; simp at e
    | cons D l ih =>
      intro T m h e
      obtain ⟨T1, T2, g1, g2, _, hs'⟩ := h
      cases m with
      | zero => simp at e; subst e; exact (hs' g).2 (.inl ((g1.2 g).2 rfl))
      | succ m => exact (hs' g).2 (.inr (ih T2 m g2 (by simpa using e)))
  exact (k.into g (aux l S n h e)).elim (fun h => h.elim) id
/-- A row that came in is read as it was. -/
theorem C {α : Type} {d : Kd α} {a : Option Addr} {n : Nat} {xs : List α} (h : St l w0 w) (hC : d.C w0 a n xs) : d.C w a n xs := Kd.C_below hC h.below
theorem rowC {α : Type} {d : Kd α} {e : Nat} {v : Value} {xs : List α} (h : St l w0 w) (n : Nat) (e1 : l[n]? = some (SL.row d e v xs)) : ∃ a c, v = .slice a xs.length c ∧ xs.length ≤ c ∧ d.C w a xs.length xs := by
  obtain ⟨S1, h1, _⟩ := h.at_ n _ e1
  exact Kd.R_reads h1.1
end St
end Go.Proofs.Ytkmhgolohppliaa.Sl
