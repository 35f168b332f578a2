/- Arguments of struct types, opened to rows. -/
import Derived.Test.YtnpjbdaaoknkbaaYOpn
import Derived.Test.YtnpjbdaaoknkbaaYWfK
import Derived.Lib.SmallJoins
namespace Go.Proofs.Ytnpjbdaaoknkbaa.Opf
open Go.RowKit Go.ChangeShapes Go.WideShapes Go.Deep Go.Proofs.YtnpjbdaaoknkbaaW.PrintWords Go.Proofs.YtnpjbdaaoknkbaaW.PrintLast Go.Proofs.YtnpjbdaaoknkbaaW.PrintMore Go.Proofs.Ytnpjbdaaoknkbaa.PTableFrames
set_option linter.unusedVariables false
set_option maxRecDepth 100000
def Good30 (z : S30) : Prop := (Lit.int .i64 z.f0).wf = true ∧ (Lit.int .i64 z.f1).wf = true ∧ (Lit.int .i64 z.f2).wf = true
theorem el30 {H : Type} {enc : TypeId × Value → H} {w : World} {base : Nat} {spare : Nat → Bool} {held : Bool} {n : Nat} {cs : List Value} {y : DataW H × List MemPlace} (hy : DataW.trod enc Try.prog w base spare held n 30 cs = some y) (hl : cs.length = k30.sz) : ∃ z, k30.K w z cs ∧ Good30 z := by
 obtain ⟨m, hfs⟩ := Opn.fields_of Try.underlying30 (by kernel_rfl) hy
 match cs, hl with
 | [c0, c1, c2], _ =>
  obtain ⟨y0, h0⟩ := hfs 0 _ c0 rfl rfl
  obtain ⟨n0, e0, _, w0⟩ := DataW.trod_int Try.underlying3 h0
  obtain rfl : c0 = _ := by simpa using e0
  obtain ⟨y1, h1⟩ := hfs 1 _ c1 rfl rfl
  obtain ⟨n1, e1, _, w1⟩ := DataW.trod_int Try.underlying3 h1
  obtain rfl : c1 = _ := by simpa using e1
  obtain ⟨y2, h2⟩ := hfs 2 _ c2 rfl rfl
  obtain ⟨n2, e2, _, w2⟩ := DataW.trod_int Try.underlying3 h2
  obtain rfl : c2 = _ := by simpa using e2
  exact ⟨⟨n0, n1, n2⟩, k30_mk _ _, ⟨w0, w1, w2⟩⟩
theorem row22 {H : Type} {enc : TypeId × Value → H} {w : World} {base : Nat} {spare : Nat → Bool} {held : Bool} {n : Nat} {cs : List Value} {x : DataW H × List MemPlace} (h : DataW.trod enc Try.prog w base spare held n 22 cs = some x) : ∃ A n c, cs = [.slice A n c] ∧ n ≤ c ∧ ∃ xs, k30.C w A n xs ∧ ∀ y ∈ xs, Good30 y :=
 Opn.open_row k30 (fun y => Good30 y) Try.underlying22 (by kernel_rfl) (fun n cs y hy hl => el30 hy hl) h
def Good87 (z : S87) : Prop := (Lit.int .i64 z.f0).wf = true ∧ (Lit.int .i64 z.f1).wf = true ∧ (Lit.int .i64 z.f2).wf = true
theorem el87 {H : Type} {enc : TypeId × Value → H} {w : World} {base : Nat} {spare : Nat → Bool} {held : Bool} {n : Nat} {cs : List Value} {y : DataW H × List MemPlace} (hy : DataW.trod enc Try.prog w base spare held n 87 cs = some y) (hl : cs.length = k87.sz) : ∃ z, k87.K w z cs ∧ Good87 z := by
 obtain ⟨m, hfs⟩ := Opn.fields_of Try.underlying87 (by kernel_rfl) hy
 match cs, hl with
 | [c0, c1, c2], _ =>
  obtain ⟨y0, h0⟩ := hfs 0 _ c0 rfl rfl
  obtain ⟨n0, e0, _, w0⟩ := DataW.trod_int Try.underlying3 h0
  obtain rfl : c0 = _ := by simpa using e0
  obtain ⟨y1, h1⟩ := hfs 1 _ c1 rfl rfl
  obtain ⟨n1, e1, _, w1⟩ := DataW.trod_int Try.underlying3 h1
  obtain rfl : c1 = _ := by simpa using e1
  obtain ⟨y2, h2⟩ := hfs 2 _ c2 rfl rfl
  obtain ⟨n2, e2, _, w2⟩ := DataW.trod_int Try.underlying3 h2
  obtain rfl : c2 = _ := by simpa using e2
  exact ⟨⟨n0, n1, n2⟩, k87_mk _ _, ⟨w0, w1, w2⟩⟩
theorem row23 {H : Type} {enc : TypeId × Value → H} {w : World} {base : Nat} {spare : Nat → Bool} {held : Bool} {n : Nat} {cs : List Value} {x : DataW H × List MemPlace} (h : DataW.trod enc Try.prog w base spare held n 23 cs = some x) : ∃ A n c, cs = [.slice A n c] ∧ n ≤ c ∧ ∃ xs, k87.C w A n xs ∧ ∀ y ∈ xs, Good87 y :=
 Opn.open_row k87 (fun y => Good87 y) Try.underlying23 (by kernel_rfl) (fun n cs y hy hl => el87 hy hl) h
def Good25 (z : S25) : Prop := (Lit.int .i64 z.f0).wf = true ∧ (Lit.int .i64 z.f1).wf = true ∧ (∀ y ∈ z.f2, Good30 y) ∧ (∀ y ∈ z.f3, Good87 y)
theorem el25 {H : Type} {enc : TypeId × Value → H} {w : World} {base : Nat} {spare : Nat → Bool} {held : Bool} {n : Nat} {cs : List Value} {y : DataW H × List MemPlace} (hy : DataW.trod enc Try.prog w base spare held n 25 cs = some y) (hl : cs.length = k25.sz) : ∃ z, k25.K w z cs ∧ Good25 z := by
 obtain ⟨m, hfs⟩ := Opn.fields_of Try.underlying25 (by kernel_rfl) hy
 match cs, hl with
 | [c0, c1, c2, c3], _ =>
  obtain ⟨y0, h0⟩ := hfs 0 _ c0 rfl rfl
  obtain ⟨n0, e0, _, w0⟩ := DataW.trod_int Try.underlying3 h0
  obtain rfl : c0 = _ := by simpa using e0
  obtain ⟨y1, h1⟩ := hfs 1 _ c1 rfl rfl
  obtain ⟨n1, e1, _, w1⟩ := DataW.trod_int Try.underlying3 h1
  obtain rfl : c1 = _ := by simpa using e1
  obtain ⟨y2, h2⟩ := hfs 2 _ c2 rfl rfl
  obtain ⟨A2, m2, d2, e2, l2, n2, C2, w2⟩ := row22 h2
  obtain rfl : c2 = _ := by simpa using e2
  obtain rfl := C2.1
  obtain ⟨y3, h3⟩ := hfs 3 _ c3 rfl rfl
  obtain ⟨A3, m3, d3, e3, l3, n3, C3, w3⟩ := row23 h3
  obtain rfl : c3 = _ := by simpa using e3
  obtain rfl := C3.1
  exact ⟨⟨n0, n1, n2, n3⟩, k25_mk _ _ l2 C2 l3 C3, ⟨w0, w1, w2, w3⟩⟩
theorem row46 {H : Type} {enc : TypeId × Value → H} {w : World} {base : Nat} {spare : Nat → Bool} {held : Bool} {n : Nat} {cs : List Value} {x : DataW H × List MemPlace} (h : DataW.trod enc Try.prog w base spare held n 46 cs = some x) : ∃ A n c, cs = [.slice A n c] ∧ n ≤ c ∧ ∃ xs, k25.C w A n xs ∧ ∀ y ∈ xs, Good25 y :=
 Opn.open_row k25 (fun y => Good25 y) Try.underlying46 (by kernel_rfl) (fun n cs y hy hl => el25 hy hl) h
theorem open46 {H : Type} {enc : TypeId × Value → H} {w : World} {base : Nat} {spare : Nat → Bool} {held : Bool} {b0 : Nat} {r : Go.Reach} {v : Value} {x : DataW H} {p : List MemPlace} (hv : Value.okWide Try.prog w r b0 46 v) (h : DataW.Trod enc Try.prog w base spare held 46 v x p) : ∃ A n c, v = .slice A n c ∧ ∃ xs, n ≤ c ∧ k25.C w A n xs ∧ ∀ y ∈ xs, Good25 y := by
 obtain ⟨A, n, c, rfl⟩ := okWide_slice Try.underlying46 hv
 obtain ⟨fuel, hf⟩ := h
 obtain ⟨A', n', c', hcs, hl, xs, hC, hg⟩ := row46 hf
 simp [Value.cells] at hcs
 obtain ⟨rfl, rfl, rfl⟩ := hcs
 exact ⟨_, _, _, rfl, xs, hl, hC, hg⟩
end Go.Proofs.Ytnpjbdaaoknkbaa.Opf
