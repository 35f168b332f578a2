/- Arguments of struct types, opened to rows. -/
import Derived.Test.YtkmhgolohppliaaOpn
import Derived.Test.YtkmhgolohppliaaCrwK
import Derived.Lib.SmallJoins
namespace Go.Proofs.Ytkmhgolohppliaa.Opc
open Go.RowKit Go.ChangeShapes Go.WideShapes Go.Deep Go.Proofs.YtkmhgolohppliaaW.PrintWords Go.Proofs.YtkmhgolohppliaaW.PrintLast Go.Proofs.YtkmhgolohppliaaW.PrintMore Go.Proofs.Ytkmhgolohppliaa.PCellsPlays
set_option linter.unusedVariables false
set_option maxRecDepth 100000
def Good43 (z : S43) : Prop := (Lit.int .u32 z.f0).wf = true ∧ True
theorem el43 {H : Type} {enc : TypeId × Value → H} {w : World} {base : Nat} {spare : Nat → Bool} {held : Bool} {n : Nat} {cs : List Value} {y : DataW H × List MemPlace} (hy : DataW.trod enc Try.prog w base spare held n 43 cs = some y) (hl : cs.length = k43.sz) : ∃ z, k43.K w z cs ∧ Good43 z := by
  obtain ⟨m, hfs⟩ := Opn.fields_of Try.underlying43 (by kernel_rfl) hy
  match cs, hl with
  | [c0, c1], _ =>
    obtain ⟨y0, h0⟩ := hfs 0 _ c0 rfl rfl
    obtain ⟨n0, e0, _, w0⟩ := DataW.trod_int Try.underlying39 h0
    obtain rfl : c0 = _ := by simpa using e0
    obtain ⟨y1, h1⟩ := hfs 1 _ c1 rfl rfl
    obtain ⟨n1, e1, _⟩ := DataW.trod_bool Try.underlying4 h1
    obtain rfl : c1 = _ := by simpa using e1
    exact ⟨⟨n0, n1⟩, k43_mk _ _, ⟨w0, trivial⟩⟩
theorem row35 {H : Type} {enc : TypeId × Value → H} {w : World} {base : Nat} {spare : Nat → Bool} {held : Bool} {n : Nat} {cs : List Value} {x : DataW H × List MemPlace} (h : DataW.trod enc Try.prog w base spare held n 35 cs = some x) : ∃ A n c, cs = [.slice A n c] ∧ n ≤ c ∧ ∃ xs, k43.C w A n xs ∧ ∀ y ∈ xs, Good43 y :=
  Opn.open_row k43 (fun y => Good43 y) Try.underlying35 (by kernel_rfl) (fun n cs y hy hl => el43 hy hl) h
def Good63 (z : S63) : Prop := (Lit.int .i64 z.f0).wf = true ∧ z.f1.size ≤ maxLen ∧ True ∧ (∀ y ∈ z.f3, Good43 y)
theorem el63 {H : Type} {enc : TypeId × Value → H} {w : World} {base : Nat} {spare : Nat → Bool} {held : Bool} {n : Nat} {cs : List Value} {y : DataW H × List MemPlace} (hy : DataW.trod enc Try.prog w base spare held n 63 cs = some y) (hl : cs.length = k63.sz) : ∃ z, k63.K w z cs ∧ Good63 z := by
  obtain ⟨m, hfs⟩ := Opn.fields_of Try.underlying63 (by kernel_rfl) hy
  match cs, hl with
  | [c0, c1, c2, c3], _ =>
    obtain ⟨y0, h0⟩ := hfs 0 _ c0 rfl rfl
    obtain ⟨n0, e0, _, w0⟩ := DataW.trod_int Try.underlying3 h0
    obtain rfl : c0 = _ := by simpa using e0
    obtain ⟨y1, h1⟩ := hfs 1 _ c1 rfl rfl
    obtain ⟨n1, e1, _, w1⟩ := DataW.trod_string Try.underlying9 h1
    obtain rfl : c1 = _ := by simpa using e1
    obtain ⟨y2, h2⟩ := hfs 2 _ c2 rfl rfl
    obtain ⟨n2, e2, _⟩ := DataW.trod_bool Try.underlying4 h2
    obtain rfl : c2 = _ := by simpa using e2
    obtain ⟨y3, h3⟩ := hfs 3 _ c3 rfl rfl
    obtain ⟨A3, m3, d3, e3, l3, n3, C3, w3⟩ := row35 h3
    obtain rfl : c3 = _ := by simpa using e3
    obtain rfl := C3.1
    exact ⟨⟨n0, n1, n2, n3⟩, k63_mk _ _ l3 C3, ⟨w0, w1, trivial, w3⟩⟩
theorem row92 {H : Type} {enc : TypeId × Value → H} {w : World} {base : Nat} {spare : Nat → Bool} {held : Bool} {n : Nat} {cs : List Value} {x : DataW H × List MemPlace} (h : DataW.trod enc Try.prog w base spare held n 92 cs = some x) : ∃ A n c, cs = [.slice A n c] ∧ n ≤ c ∧ ∃ xs, k63.C w A n xs ∧ ∀ y ∈ xs, Good63 y :=
  Opn.open_row k63 (fun y => Good63 y) Try.underlying92 (by kernel_rfl) (fun n cs y hy hl => el63 hy hl) h
theorem open92 {H : Type} {enc : TypeId × Value → H} {w : World} {base : Nat} {spare : Nat → Bool} {held : Bool} {b0 : Nat} {r : Go.Reach} {v : Value} {x : DataW H} {p : List MemPlace} (hv : Value.okWide Try.prog w r b0 92 v) (h : DataW.Trod enc Try.prog w base spare held 92 v x p) : ∃ A n c, v = .slice A n c ∧ ∃ xs, n ≤ c ∧ k63.C w A n xs ∧ ∀ y ∈ xs, Good63 y := by
  obtain ⟨A, n, c, rfl⟩ := okWide_slice Try.underlying92 hv
  obtain ⟨fuel, hf⟩ := h
  obtain ⟨A', n', c', hcs, hl, xs, hC, hg⟩ := row92 hf
  simp [Value.cells] at hcs
  obtain ⟨rfl, rfl, rfl⟩ := hcs
  exact ⟨_, _, _, rfl, xs, hl, hC, hg⟩
def Good103 (z : S103) : Prop := (Lit.int .i64 z.f0).wf = true ∧ (Lit.int .i64 z.f1).wf = true ∧ (Lit.int .i64 z.f2).wf = true
theorem el103 {H : Type} {enc : TypeId × Value → H} {w : World} {base : Nat} {spare : Nat → Bool} {held : Bool} {n : Nat} {cs : List Value} {y : DataW H × List MemPlace} (hy : DataW.trod enc Try.prog w base spare held n 103 cs = some y) (hl : cs.length = k103.sz) : ∃ z, k103.K w z cs ∧ Good103 z := by
  obtain ⟨m, hfs⟩ := Opn.fields_of Try.underlying103 (by kernel_rfl) hy
  match cs, hl with
  | [c0, c1, c2], _ =>
    obtain ⟨y0, h0⟩ := hfs 0 _ c0 rfl rfl
    obtain ⟨n0, e0, _, w0⟩ := DataW.trod_int Try.underlying3 h0
    obtain rfl : c0 = _ := by simpa using e0
    obtain ⟨y1, h1⟩ := hfs 1 _ c1 rfl rfl
    obtain ⟨n1, e1, _, w1⟩ := DataW.trod_int Try.underlying3 h1
    obtain rfl : c1 = _ := by simpa using e1
    obtain ⟨y2, h2⟩ := hfs 2 _ c2 rfl rfl
    obtain ⟨n2, e2, _, w2⟩ := DataW.trod_int Try.underlying3 h2
    obtain rfl : c2 = _ := by simpa using e2
    exact ⟨⟨n0, n1, n2⟩, k103_mk _ _, ⟨w0, w1, w2⟩⟩
theorem row93 {H : Type} {enc : TypeId × Value → H} {w : World} {base : Nat} {spare : Nat → Bool} {held : Bool} {n : Nat} {cs : List Value} {x : DataW H × List MemPlace} (h : DataW.trod enc Try.prog w base spare held n 93 cs = some x) : ∃ A n c, cs = [.slice A n c] ∧ n ≤ c ∧ ∃ xs, k103.C w A n xs ∧ ∀ y ∈ xs, Good103 y :=
  Opn.open_row k103 (fun y => Good103 y) Try.underlying93 (by kernel_rfl) (fun n cs y hy hl => el103 hy hl) h
theorem open93 {H : Type} {enc : TypeId × Value → H} {w : World} {base : Nat} {spare : Nat → Bool} {held : Bool} {b0 : Nat} {r : Go.Reach} {v : Value} {x : DataW H} {p : List MemPlace} (hv : Value.okWide Try.prog w r b0 93 v) (h : DataW.Trod enc Try.prog w base spare held 93 v x p) : ∃ A n c, v = .slice A n c ∧ ∃ xs, n ≤ c ∧ k103.C w A n xs ∧ ∀ y ∈ xs, Good103 y := by
  obtain ⟨A, n, c, rfl⟩ := okWide_slice Try.underlying93 hv
  obtain ⟨fuel, hf⟩ := h
  obtain ⟨A', n', c', hcs, hl, xs, hC, hg⟩ := row93 hf
  simp [Value.cells] at hcs
  obtain ⟨rfl, rfl, rfl⟩ := hcs
  exact ⟨_, _, _, rfl, xs, hl, hC, hg⟩
end Go.Proofs.Ytkmhgolohppliaa.Opc
