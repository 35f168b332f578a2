/- Slices of structs, opened to rows of the print's kinds: for the claims' rows. -/
import Derived.Test.YtnpjbdaaoknkbaaYQm
import Derived.Test.YtnpjbdaaoknkbaaRows
import Derived.Deep.Slices
import Derived.Deep.Fields
import Derived.ChangeArms
import Derived.WideShapes
namespace Go.Proofs.Ytnpjbdaaoknkbaa.Opn
open Go.RowKit Go.ChangeShapes Go.WideShapes Go.Deep Go.Proofs.YtnpjbdaaoknkbaaW.PrintWords Go.Proofs.YtnpjbdaaoknkbaaW.PrintLast Go.Proofs.YtnpjbdaaoknkbaaW.PrintMore
set_option linter.unusedVariables false
set_option maxRecDepth 100000
/-- A row out of its elements. -/
theorem row_of_each {α : Type} {d : Kd α} {W : World} {a : Addr} {n : Nat} {good : α → Prop} (hn : n ≤ 9223372036854775807)
  (h : ∀ i, i < n → ∃ x cs, cs.length = d.sz ∧ d.K W x cs ∧ good x ∧ ∀ j u, cs[j]? = some u → W.cell? (a.add (i * d.sz + j)) = some u) :
  ∃ xs : List α, d.C W (some a) n xs ∧ ∀ x ∈ xs, good x := by
 refine ⟨List.ofFn (fun i : Fin n => (h i.1 i.2).choose), ⟨by simp, hn, fun _ => ⟨a, rfl, fun j p hj => ?_⟩⟩, fun x hx => ?_⟩
 ·obtain ⟨hjl, hp⟩ := List.getElem?_eq_some_iff.1 hj
  have hjn : j < n := by simpa using hjl
  rw [List.getElem_ofFn] at hp
  subst hp
  obtain ⟨cs, h1, h2, h3, h4⟩ := (h j hjn).choose_spec
  exact ⟨cs, h1, h2, h4⟩
 ·obtain ⟨i, hi⟩ := (List.mem_ofFn).1 hx
  subst hi
  obtain ⟨cs, h1, h2, h3, h4⟩ := (h i.1 i.2).choose_spec
  exact h3
section
variable {H : Type} {enc : TypeId × Value → H} {P : Program} {w : World} {base : Nat} {spare : Nat → Bool} {held : Bool}
/-- An argument that is a slice, as a row of the kind that its elements are told by. -/
theorem open_row {α : Type} (d : Kd α) (good : α → Prop) {t e : TypeId} {fuel : Nat} {cs : List Value} {x : DataW H × List MemPlace} (ht : P.underlying t = some (.slice e)) (hsz : P.cellsOf e = d.sz)
  (hel : ∀ n cs' y, DataW.trod enc P w base spare held n e cs' = some y → cs'.length = d.sz → ∃ z, d.K w z cs' ∧ good z) (h : DataW.trod enc P w base spare held fuel t cs = some x) :
  ∃ A n c, cs = [.slice A n c] ∧ n ≤ c ∧ ∃ xs, d.C w A n xs ∧ ∀ z ∈ xs, good z := by
 rcases open_slice ht h with ⟨rfl, _⟩ | ⟨a, len, cap, m, n, D, Pl, rfl, _, hl, hm, hmm, _, hi⟩
 ·exact ⟨none, 0, 0, rfl, Nat.le_refl _, [], ⟨rfl, by decide, fun h0 => by omega⟩, fun z hz => by cases hz⟩
 ·refine ⟨some a, len, cap, rfl, hl, row_of_each (by unfold maxLen at hm; omega) (fun i hil => ?_)⟩
  have him : i < m := by rw [hmm]; split <;> omega
  obtain ⟨cs', hc, htr⟩ := hi i him
  obtain ⟨_, hlen, hat⟩ := World.cells?_some hc
  rw [hsz] at hlen hat hc
  obtain ⟨z, hz, hg⟩ := hel _ _ _ htr hlen
  refine ⟨z, cs', hlen, hz, hg, fun j u hj => ?_⟩
  have hjl : j < d.sz := by have := (List.getElem?_eq_some_iff.1 hj).1; omega
  have hcell := hat j hjl
  rw [Go.Deep.add_add] at hcell
  rw [hcell, hj]
/-- The fields of an element, each one cell. -/
theorem fields_of {e : TypeId} {fs : Array Field} {fuel : Nat} {cs : List Value} {x : DataW H × List MemPlace} (he : P.underlying e = some (.struct fs)) (hone : oneCellFields P fs = true)
  (h : DataW.trod enc P w base spare held fuel e cs = some x) : ∃ m, ∀ (j : Nat) (f : Field) (c : Value), fs[j]? = some f → cs[j]? = some c → ∃ y, DataW.trod enc P w base spare held m f.type [c] = some y := by
 obtain ⟨ys, m, _, _, _, hyl, hf⟩ := DataW.trod_struct he h
 refine ⟨m, fun j f c hj hc => ?_⟩
 obtain ⟨ho, hk⟩ := hone_of hone j f hj
 have hjl : j < fs.size := (Array.getElem?_eq_some_iff.1 hj).1
 have h1 := hf j f hj
 rw [ho, hk] at h1
 obtain ⟨hcl, hcv⟩ := List.getElem?_eq_some_iff.1 hc
 have h2 : (cs.drop j).take 1 = [c] := by
  rw [List.drop_eq_getElem_cons hcl, hcv]
  rfl
 rw [h2] at h1
 exact ⟨_, h1.trans (List.getElem?_eq_getElem (by omega))⟩
end
/-- What a call keeps: all but the blocks of S, and what is new. -/
structure Chg (S : Nat → Prop) (w w' : World) : Prop where
 os : w'.os = w.os
 tape : w'.tape = w.tape
 output : w'.output = w.output
 size : w.heap.size ≤ w'.heap.size
 block : ∀ i, i < w.heap.size → ¬ S i → w'.heap[i]? = w.heap[i]?
section
variable {S S2 : Nat → Prop} {w w1 w2 : World}
theorem Chg.refl (S : Nat → Prop) (w : World) : Chg S w w := ⟨rfl, rfl, rfl, Nat.le_refl _, fun _ _ _ => rfl⟩
theorem Chg.of_below (h : Below w.heap.size w w1) : Chg S w w1 := ⟨h.os, h.tape, h.output, h.size, fun i hi _ => h.block i hi⟩
theorem Chg.trans (h : Chg S w w1) (k : Chg S2 w1 w2) (hs : ∀ i, S2 i → S i ∨ w.heap.size ≤ i) : Chg S w w2 :=
 ⟨k.os.trans h.os, k.tape.trans h.tape, k.output.trans h.output, Nat.le_trans h.size k.size, fun i hi hn =>
  (k.block i (Nat.lt_of_lt_of_le hi h.size) (fun h2 => (hs i h2).elim hn (fun h3 => by omega))).trans (h.block i hi hn)⟩
theorem Chg.same (h : Chg S w w1) (k : Chg S w1 w2) : Chg S w w2 := h.trans k (fun _ hk => .inl hk)
theorem Chg.then_below (h : Chg S w w1) (k : Below w1.heap.size w1 w2) : Chg S w w2 := h.trans (S2 := fun _ => False) (Chg.of_below k) (fun _ hk => hk.elim)
theorem Chg.drewN (h : Chg S w w1) (n : Nat) : Chg S w (w1.drewN n) := ⟨h.os, h.tape, h.output, h.size, h.block⟩
theorem Chg.drew (h : Chg S w w1) : Chg S w w1.drew := ⟨h.os, h.tape, h.output, h.size, h.block⟩
theorem Chg.alloc (h : Chg S w w1) (o : Obj) : Chg S w (w1.alloc o) := h.then_below (below_alloc (Below.refl _ _) o)
theorem Chg.setCell (h : Chg S w w1) {p : Addr} (hp : S p.block ∨ w.heap.size ≤ p.block) (u : Value) : Chg S w (w1.setCell p u) :=
 ⟨h.os, h.tape, h.output, by simpa [World.setCell] using h.size, fun i hi hn => (Below.heap_setCell w1 p u i (by rintro rfl; rcases hp with hp | hp; exact hn hp; omega)).trans (h.block i hi hn)⟩
theorem Chg.mono (h : Chg S w w1) (hs : ∀ i, S i → S2 i) : Chg S2 w w1 := ⟨h.os, h.tape, h.output, h.size, fun i hi hn => h.block i hi (fun hk => hn (hs i hk))⟩
/-- What came in stays, if all that was changed is younger. -/
theorem Below.chg {B : Nat} (h : Below B w w1) (k : Chg S w1 w2) (hs : ∀ i, S i → B ≤ i) (hB : B ≤ w1.heap.size) : Below B w w2 :=
 ⟨k.os.trans h.os, k.tape.trans h.tape, k.output.trans h.output, Nat.le_trans h.size k.size, fun i hi =>
  (k.block i (Nat.lt_of_lt_of_le hi hB) (fun hk => by have := hs i hk; omega)).trans (h.block i hi)⟩
theorem blk_chg {g : Nat} {o : Obj} (hb : w.heap[g]? = some o) (k : Chg S w w1) (hn : ¬ S g) : w1.heap[g]? = some o := (k.block g (blk_lt hb) hn).trans hb
end
end Go.Proofs.Ytnpjbdaaoknkbaa.Opn
