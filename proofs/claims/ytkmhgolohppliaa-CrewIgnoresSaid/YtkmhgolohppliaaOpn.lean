/- Slices of structs, opened to rows of the print's kinds: for the claims' rows. -/
import Derived.Test.YtkmhgolohppliaaMine
import Derived.Test.YtkmhgolohppliaaPCellsPlaysx0
import Derived.Deep.Slices
import Derived.Deep.Fields
import Derived.ChangeArms
import Derived.WideShapes
namespace Go.Proofs.Ytkmhgolohppliaa.Opn
open Go.RowKit Go.ChangeShapes Go.WideShapes Go.Deep Go.Proofs.YtkmhgolohppliaaW.PrintWords Go.Proofs.Ytkmhgolohppliaa.PCellsPlays
set_option linter.unusedVariables false
set_option maxRecDepth 100000
/-- A row out of its elements. -/
theorem row_of_each {α : Type} {d : Kd α} {W : World} {a : Addr} {n : Nat} {good : α → Prop} (hn : n ≤ 9223372036854775807)
    (h : ∀ i, i < n → ∃ x cs, cs.length = d.sz ∧ d.K W x cs ∧ good x ∧ ∀ j u, cs[j]? = some u → W.cell? (a.add (i * d.sz + j)) = some u) :
    ∃ xs : List α, d.C W (some a) n xs ∧ ∀ x ∈ xs, good x := by
  refine ⟨List.ofFn (fun i : Fin n => (h i.1 i.2).choose), ⟨by simp, hn, fun _ => ⟨a, rfl, fun j p hj => ?_⟩⟩, fun x hx => ?_⟩
  · obtain ⟨hjl, hp⟩ := List.getElem?_eq_some_iff.1 hj
    have hjn : j < n := by simpa using hjl
    rw [List.getElem_ofFn] at hp
    subst hp
    obtain ⟨cs, h1, h2, h3, h4⟩ := (h j hjn).choose_spec
    exact ⟨cs, h1, h2, h4⟩
  · obtain ⟨i, hi⟩ := (List.mem_ofFn).1 hx
    subst hi
    obtain ⟨cs, h1, h2, h3, h4⟩ := (h i.1 i.2).choose_spec
    exact h3
section
variable {H : Type} {enc : TypeId × Value → H} {P : Program} {w : World} {base : Nat} {spare : Nat → Bool} {held : Bool}
/-- An argument that is a slice, as a row of the kind that its elements are told by. -/
theorem open_row {α : Type} (d : Kd α) (good : α → Prop) {t e : TypeId} {fuel : Nat} {cs : List Value} {x : DataW H × List MemPlace} (ht : P.underlying t = some (.slice e)) (hsz : P.cellsOf e = d.sz)
    (hel : ∀ n cs' y, DataW.trod enc P w base spare held n e cs' = some y → cs'.length = d.sz → ∃ z, d.K w z cs' ∧ good z) (h : DataW.trod enc P w base spare held fuel t cs = some x) :
    ∃ A n c, cs = [.slice A n c] ∧ n ≤ c ∧ ∃ xs, d.C w A n xs ∧ ∀ z ∈ xs, good z := by
  rcases open_slice ht h with ⟨rfl, _⟩ | ⟨a, len, cap, m, n, D, Pl, rfl, _, hl, hm, hmm, _, hi⟩
  · exact ⟨none, 0, 0, rfl, Nat.le_refl _, [], ⟨rfl, by decide, fun h0 => by omega⟩, fun z hz => by cases hz⟩
  · refine ⟨some a, len, cap, rfl, hl, row_of_each (by unfold maxLen at hm; omega) (fun i hil => ?_)⟩
    have him : i < m := by rw [hmm]; split <;> omega
    obtain ⟨cs', hc, htr⟩ := hi i him
    obtain ⟨_, hlen, hat⟩ := World.cells?_some hc
    rw [hsz] at hlen hat hc
    obtain ⟨z, hz, hg⟩ := hel _ _ _ htr hlen
    refine ⟨z, cs', hlen, hz, hg, fun j u hj => ?_⟩
    have hjl : j < d.sz := by have := (List.getElem?_eq_some_iff.1 hj).1; omega
    have hcell := hat j hjl
    rw [Go.Deep.add_add] at hcell
    rw [hcell, hj]
/-- The fields of an element, each one cell. -/
theorem fields_of {e : TypeId} {fs : Array Field} {fuel : Nat} {cs : List Value} {x : DataW H × List MemPlace} (he : P.underlying e = some (.struct fs)) (hone : oneCellFields P fs = true)
    (h : DataW.trod enc P w base spare held fuel e cs = some x) : ∃ m, ∀ (j : Nat) (f : Field) (c : Value), fs[j]? = some f → cs[j]? = some c → ∃ y, DataW.trod enc P w base spare held m f.type [c] = some y := by
  obtain ⟨ys, m, _, _, _, hyl, hf⟩ := DataW.trod_struct he h
  refine ⟨m, fun j f c hj hc => ?_⟩
  obtain ⟨ho, hk⟩ := hone_of hone j f hj
  have hjl : j < fs.size := (Array.getElem?_eq_some_iff.1 hj).1
  have h1 := hf j f hj
  rw [ho, hk] at h1
  obtain ⟨hcl, hcv⟩ := List.getElem?_eq_some_iff.1 hc
  have h2 : (cs.drop j).take 1 = [c] := by
    rw [List.drop_eq_getElem_cons hcl, hcv]
    rfl
  rw [h2] at h1
  exact ⟨_, h1.trans (List.getElem?_eq_getElem (by omega))⟩
end
/-- The cells that a partition has at first. -/
theorem open35 {H : Type} {enc : TypeId × Value → H} {w : World} {base b0 : Nat} {spare : Nat → Bool} {held : Bool} {r : Reach} {v : Value} {x : DataW H} {p : List MemPlace} (hv : Value.okWide Try.prog w r b0 35 v)
    (h : DataW.Trod enc Try.prog w base spare held 35 v x p) : ∃ A n c, v = .slice A n c ∧ ∃ xs, n ≤ c ∧ k43.C w A n xs ∧ ∀ z ∈ xs, (Lit.int .u32 z.f0).wf = true := by
  obtain ⟨A, n, c, rfl⟩ := okWide_slice Try.underlying35 hv
  obtain ⟨fuel, hf⟩ := h
  obtain ⟨A', n', c', hcs, hl, xs, hC, hg⟩ := open_row k43 (fun z => (Lit.int .u32 z.f0).wf = true) Try.underlying35 (by kernel_rfl) (fun n cs' y hy hlen => by
    obtain ⟨m, hfs⟩ := fields_of Try.underlying43 (by kernel_rfl) hy
    match cs', hlen with
    | [c0, c1], _ =>
      obtain ⟨y0, h0⟩ := hfs 0 _ c0 rfl rfl
      obtain ⟨y1, h1⟩ := hfs 1 _ c1 rfl rfl
      obtain ⟨n0, e0, _, w0⟩ := DataW.trod_int Try.underlying39 h0
      obtain ⟨b1, e1, _⟩ := DataW.trod_bool Try.underlying4 h1
      obtain rfl : c0 = _ := by simpa using e0
      obtain rfl : c1 = _ := by simpa using e1
      exact ⟨⟨n0, b1⟩, k43_mk _ _, w0⟩) hf
  simp [Value.cells] at hcs
  obtain ⟨rfl, rfl, rfl⟩ := hcs
  exact ⟨_, _, _, rfl, xs, hl, hC, hg⟩
end Go.Proofs.Ytkmhgolohppliaa.Opn
