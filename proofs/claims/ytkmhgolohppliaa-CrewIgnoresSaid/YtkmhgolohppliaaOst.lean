/- A slice of strings that came in, as a row. -/
import Derived.Test.YtkmhgolohppliaaOpn
namespace Go.Proofs.Ytkmhgolohppliaa.Opn
open Go.RowKit Go.ChangeShapes Go.WideShapes Go.Deep Go.Proofs.YtkmhgolohppliaaW.PrintWords Go.Proofs.YtkmhgolohppliaaW.PrintLast Go.Proofs.YtkmhgolohppliaaW.PrintMore
theorem open_strs {H : Type} {enc : TypeId × Value → H} {P : Program} {w : World} {base b0 : Nat} {spare : Nat → Bool} {held : Bool} {r : Go.Reach} {t e : TypeId} {v : Value} {x : DataW H} {p : List MemPlace} (ht : P.underlying t = some (.slice e)) (he : P.underlying e = some .string) (hsz : P.cellsOf e = 1) (hv : Value.okWide P w r b0 t v)
    (h : DataW.Trod enc P w base spare held t v x p) : ∃ A n c, v = .slice A n c ∧ ∃ xs, n ≤ c ∧ Kd.string.C w A n xs ∧ ∀ z ∈ xs, z.size ≤ maxLen := by
  obtain ⟨A, n, c, rfl⟩ := okWide_slice ht hv
  obtain ⟨fuel, hf⟩ := h
  obtain ⟨A', n', c', hcs, hl, xs, hC, hg⟩ := open_row Kd.string (fun z => z.size ≤ maxLen) ht hsz (fun n cs' y hy hlen => by
    match cs', hlen with
    | [c0], _ =>
      obtain ⟨n2, e2, _, w2⟩ := DataW.trod_string he hy
      obtain rfl : c0 = _ := by simpa using e2
      exact ⟨n2, rfl, w2⟩) hf
  simp [Value.cells] at hcs
  obtain ⟨rfl, rfl, rfl⟩ := hcs
  exact ⟨_, _, _, rfl, xs, hl, hC, hg⟩
theorem open_nums {H : Type} {enc : TypeId × Value → H} {P : Program} {w : World} {base b0 : Nat} {spare : Nat → Bool} {held : Bool} {r : Go.Reach} {t e : TypeId} {k : IntKind} {v : Value} {x : DataW H} {p : List MemPlace} (ht : P.underlying t = some (.slice e)) (he : P.underlying e = some (.int k)) (hsz : P.cellsOf e = 1) (hv : Value.okWide P w r b0 t v)
    (h : DataW.Trod enc P w base spare held t v x p) : ∃ A n c, v = .slice A n c ∧ ∃ xs, n ≤ c ∧ (Kd.int k).C w A n xs ∧ ∀ z ∈ xs, (Lit.int k z).wf = true := by
  obtain ⟨A, n, c, rfl⟩ := okWide_slice ht hv
  obtain ⟨fuel, hf⟩ := h
  obtain ⟨A', n', c', hcs, hl, xs, hC, hg⟩ := open_row (Kd.int k) (fun z => (Lit.int k z).wf = true) ht hsz (fun n cs' y hy hlen => by
    match cs', hlen with
    | [c0], _ =>
      obtain ⟨n1, e1, _, w1⟩ := DataW.trod_int he hy
      obtain rfl : c0 = _ := by simpa using e1
      exact ⟨n1, rfl, w1⟩) hf
  simp [Value.cells] at hcs
  obtain ⟨rfl, rfl, rfl⟩ := hcs
  exact ⟨_, _, _, rfl, xs, hl, hC, hg⟩
end Go.Proofs.Ytkmhgolohppliaa.Opn
