/- Arguments of struct types, opened to rows. -/
import Derived.Test.YtnpjbdaaoknkbaaTabG
import Derived.Test.YtnpjbdaaoknkbaaOpn
import Derived.Lib.SmallJoins
namespace Go.Proofs.Ytnpjbdaaoknkbaa.Opt
open Go.RowKit Go.ChangeShapes Go.WideShapes Go.Deep Go.Proofs.YtnpjbdaaoknkbaaW.PrintWords Go.Proofs.YtnpjbdaaoknkbaaW.PrintLast Go.Proofs.YtnpjbdaaoknkbaaW.PrintMore Go.Proofs.Ytnpjbdaaoknkbaa.PTableFrames Go.Proofs.Ytnpjbdaaoknkbaa.Tab
set_option linter.unusedVariables false
set_option maxRecDepth 100000
def Good30 (z : S30) : Prop := (Lit.int .i64 z.f0).wf = true ∧ (Lit.int .i64 z.f1).wf = true ∧ (Lit.int .i64 z.f2).wf = true
theorem el30 {H : Type} {enc : TypeId × Value → H} {w : World} {base : Nat} {spare : Nat → Bool} {held : Bool} {n : Nat} {cs : List Value} {y : DataW H × List MemPlace} (hy : DataW.trod enc Try.prog w base spare held n 30 cs = some y) (hl : cs.length = k30.sz) : ∃ z, k30.K w z cs ∧ Good30 z := by
  obtain ⟨m, hfs⟩ := Opn.fields_of Try.underlying30 (by kernel_rfl) hy
  match cs, hl with
  | [c0, c1, c2], _ =>
    obtain ⟨y0, h0⟩ := hfs 0 _ c0 rfl rfl
    obtain ⟨n0, e0, _, w0⟩ := DataW.trod_int Try.underlying3 h0
    obtain rfl : c0 = _ := by simpa using e0
    obtain ⟨y1, h1⟩ := hfs 1 _ c1 rfl rfl
    obtain ⟨n1, e1, _, w1⟩ := DataW.trod_int Try.underlying3 h1
    obtain rfl : c1 = _ := by simpa using e1
    obtain ⟨y2, h2⟩ := hfs 2 _ c2 rfl rfl
    obtain ⟨n2, e2, _, w2⟩ := DataW.trod_int Try.underlying3 h2
    obtain rfl : c2 = _ := by simpa using e2
    exact ⟨⟨n0, n1, n2⟩, k30_mk _ _, ⟨w0, w1, w2⟩⟩
theorem row22 {H : Type} {enc : TypeId × Value → H} {w : World} {base : Nat} {spare : Nat → Bool} {held : Bool} {n : Nat} {cs : List Value} {x : DataW H × List MemPlace} (h : DataW.trod enc Try.prog w base spare held n 22 cs = some x) : ∃ A n c, cs = [.slice A n c] ∧ n ≤ c ∧ ∃ xs, k30.C w A n xs ∧ ∀ y ∈ xs, Good30 y :=
  Opn.open_row k30 (fun y => Good30 y) Try.underlying22 (by kernel_rfl) (fun n cs y hy hl => el30 hy hl) h
def Good87 (z : S87) : Prop := (Lit.int .i64 z.f0).wf = true ∧ (Lit.int .i64 z.f1).wf = true ∧ (Lit.int .i64 z.f2).wf = true
theorem el87 {H : Type} {enc : TypeId × Value → H} {w : World} {base : Nat} {spare : Nat → Bool} {held : Bool} {n : Nat} {cs : List Value} {y : DataW H × List MemPlace} (hy : DataW.trod enc Try.prog w base spare held n 87 cs = some y) (hl : cs.length = k87.sz) : ∃ z, k87.K w z cs ∧ Good87 z := by
  obtain ⟨m, hfs⟩ := Opn.fields_of Try.underlying87 (by kernel_rfl) hy
  match cs, hl with
  | [c0, c1, c2], _ =>
    obtain ⟨y0, h0⟩ := hfs 0 _ c0 rfl rfl
    obtain ⟨n0, e0, _, w0⟩ := DataW.trod_int Try.underlying3 h0
    obtain rfl : c0 = _ := by simpa using e0
    obtain ⟨y1, h1⟩ := hfs 1 _ c1 rfl rfl
    obtain ⟨n1, e1, _, w1⟩ := DataW.trod_int Try.underlying3 h1
    obtain rfl : c1 = _ := by simpa using e1
    obtain ⟨y2, h2⟩ := hfs 2 _ c2 rfl rfl
    obtain ⟨n2, e2, _, w2⟩ := DataW.trod_int Try.underlying3 h2
    obtain rfl : c2 = _ := by simpa using e2
    exact ⟨⟨n0, n1, n2⟩, k87_mk _ _, ⟨w0, w1, w2⟩⟩
theorem row23 {H : Type} {enc : TypeId × Value → H} {w : World} {base : Nat} {spare : Nat → Bool} {held : Bool} {n : Nat} {cs : List Value} {x : DataW H × List MemPlace} (h : DataW.trod enc Try.prog w base spare held n 23 cs = some x) : ∃ A n c, cs = [.slice A n c] ∧ n ≤ c ∧ ∃ xs, k87.C w A n xs ∧ ∀ y ∈ xs, Good87 y :=
  Opn.open_row k87 (fun y => Good87 y) Try.underlying23 (by kernel_rfl) (fun n cs y hy hl => el87 hy hl) h
theorem open25 {H : Type} {enc : TypeId × Value → H} {w : World} {base : Nat} {spare : Nat → Bool} {held : Bool} {b0 : Nat} {r : Go.Reach} {v : Value} {x : DataW H} {p : List MemPlace} (hv : Value.okWide Try.prog w r b0 25 v) (h : DataW.Trod enc Try.prog w base spare held 25 v x p) : ∃ (n0 : Int) (n1 : Int) (A2 : Option Addr) (d2 : Nat) (n2 : List S30) (A3 : Option Addr) (d3 : Nat) (n3 : List S87), v = .agg #[.int .i64 n0, .int .i64 n1, .slice A2 n2.length d2, .slice A3 n3.length d3] ∧ (Lit.int .i64 n0).wf = true ∧ (Lit.int .i64 n1).wf = true ∧ n2.length ≤ d2 ∧ k30.C w A2 n2.length n2 ∧ (∀ y ∈ n2, Good30 y) ∧ n3.length ≤ d3 ∧ k87.C w A3 n3.length n3 ∧ (∀ y ∈ n3, Good87 y) := by
  obtain ⟨cs, rfl, hsz⟩ := okWide_struct Try.underlying25 hv
  obtain ⟨fuel, hf⟩ := h
  replace hf : DataW.trod enc Try.prog w base spare held fuel 25 cs.toList = some (x, p) := by simpa [Value.cells] using hf
  obtain ⟨m, hfs⟩ := Opn.fields_of Try.underlying25 (by kernel_rfl) hf
  obtain ⟨cs⟩ := cs
  have hl : cs.length = 4 := hsz
  clear hsz hv hf
  match cs, hl with
  | [c0, c1, c2, c3], _ =>
    obtain ⟨y0, h0⟩ := hfs 0 _ c0 rfl rfl
    obtain ⟨n0, e0, _, w0⟩ := DataW.trod_int Try.underlying3 h0
    obtain rfl : c0 = _ := by simpa using e0
    obtain ⟨y1, h1⟩ := hfs 1 _ c1 rfl rfl
    obtain ⟨n1, e1, _, w1⟩ := DataW.trod_int Try.underlying3 h1
    obtain rfl : c1 = _ := by simpa using e1
    obtain ⟨y2, h2⟩ := hfs 2 _ c2 rfl rfl
    obtain ⟨A2, m2, d2, e2, l2, n2, C2, w2⟩ := row22 h2
    obtain rfl : c2 = _ := by simpa using e2
    obtain rfl := C2.1
    obtain ⟨y3, h3⟩ := hfs 3 _ c3 rfl rfl
    obtain ⟨A3, m3, d3, e3, l3, n3, C3, w3⟩ := row23 h3
    obtain rfl : c3 = _ := by simpa using e3
    obtain rfl := C3.1
    exact ⟨n0, n1, A2, d2, n2, A3, d3, n3, rfl, w0, w1, l2, C2, w2, l3, C3, w3⟩
end Go.Proofs.Ytnpjbdaaoknkbaa.Opt
