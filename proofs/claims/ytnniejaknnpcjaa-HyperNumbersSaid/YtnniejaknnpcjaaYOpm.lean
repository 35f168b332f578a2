/- Arguments of struct types, opened to rows. -/
import Derived.Test.YtnniejaknnpcjaaYOpn
import Derived.Test.YtnniejaknnpcjaaYQ0
import Derived.Lib.SmallJoins
namespace Go.Proofs.Ytnniejaknnpcjaa.Opm
open Go.RowKit Go.ChangeShapes Go.WideShapes Go.Deep Go.Proofs.YtnniejaknnpcjaaW.PrintWords Go.Proofs.YtnniejaknnpcjaaW.PrintLast Go.Proofs.YtnniejaknnpcjaaW.PrintMore Go.Proofs.Ytnniejaknnpcjaa.Opn Go.Proofs.Ytnniejaknnpcjaa.PHyperNumbers
set_option linter.unusedVariables false
set_option maxRecDepth 100000
def Good189 (z : S189) : Prop := (Lit.int .u32 z.f0).wf = true ∧ True
theorem el189 {H : Type} {enc : TypeId × Value → H} {w : World} {base : Nat} {spare : Nat → Bool} {held : Bool} {n : Nat} {cs : List Value} {y : DataW H × List MemPlace} (hy : DataW.trod enc Try.prog w base spare held n 189 cs = some y) (hl : cs.length = k189.sz) : ∃ z, k189.K w z cs ∧ Good189 z := by
 obtain ⟨m, hfs⟩ := Opn.fields_of Try.underlying189 (by kernel_rfl) hy
 match cs, hl with
 | [c0, c1], _ =>
  obtain ⟨y0, h0⟩ := hfs 0 _ c0 rfl rfl
  obtain ⟨n0, e0, _, w0⟩ := DataW.trod_int Try.underlying162 h0
  obtain rfl : c0 = _ := by simpa using e0
  obtain ⟨y1, h1⟩ := hfs 1 _ c1 rfl rfl
  obtain ⟨n1, e1, _⟩ := DataW.trod_bool Try.underlying4 h1
  obtain rfl : c1 = _ := by simpa using e1
  exact ⟨⟨n0, n1⟩, k189_mk _ _, ⟨w0, trivial⟩⟩
theorem row82 {H : Type} {enc : TypeId × Value → H} {w : World} {base : Nat} {spare : Nat → Bool} {held : Bool} {n : Nat} {cs : List Value} {x : DataW H × List MemPlace} (h : DataW.trod enc Try.prog w base spare held n 82 cs = some x) : ∃ A n c, cs = [.slice A n c] ∧ n ≤ c ∧ ∃ xs, k189.C w A n xs ∧ ∀ y ∈ xs, Good189 y :=
 Opn.open_row k189 (fun y => Good189 y) Try.underlying82 (by kernel_rfl) (fun n cs y hy hl => el189 hy hl) h
def Good84 (z : S84) : Prop := (Lit.int .i64 z.f0).wf = true ∧ z.f1.size ≤ maxLen ∧ True ∧ (∀ y ∈ z.f3, Good189 y)
theorem el84 {H : Type} {enc : TypeId × Value → H} {w : World} {base : Nat} {spare : Nat → Bool} {held : Bool} {n : Nat} {cs : List Value} {y : DataW H × List MemPlace} (hy : DataW.trod enc Try.prog w base spare held n 84 cs = some y) (hl : cs.length = k84.sz) : ∃ z, k84.K w z cs ∧ Good84 z := by
 obtain ⟨m, hfs⟩ := Opn.fields_of Try.underlying84 (by kernel_rfl) hy
 match cs, hl with
 | [c0, c1, c2, c3], _ =>
  obtain ⟨y0, h0⟩ := hfs 0 _ c0 rfl rfl
  obtain ⟨n0, e0, _, w0⟩ := DataW.trod_int Try.underlying3 h0
  obtain rfl : c0 = _ := by simpa using e0
  obtain ⟨y1, h1⟩ := hfs 1 _ c1 rfl rfl
  obtain ⟨n1, e1, _, w1⟩ := DataW.trod_string Try.underlying9 h1
  obtain rfl : c1 = _ := by simpa using e1
  obtain ⟨y2, h2⟩ := hfs 2 _ c2 rfl rfl
  obtain ⟨n2, e2, _⟩ := DataW.trod_bool Try.underlying4 h2
  obtain rfl : c2 = _ := by simpa using e2
  obtain ⟨y3, h3⟩ := hfs 3 _ c3 rfl rfl
  obtain ⟨A3, m3, d3, e3, l3, n3, C3, w3⟩ := row82 h3
  obtain rfl : c3 = _ := by simpa using e3
  obtain rfl := C3.1
  exact ⟨⟨n0, n1, n2, n3⟩, k84_mk _ _ l3 C3, ⟨w0, w1, trivial, w3⟩⟩
theorem row23 {H : Type} {enc : TypeId × Value → H} {w : World} {base : Nat} {spare : Nat → Bool} {held : Bool} {n : Nat} {cs : List Value} {x : DataW H × List MemPlace} (h : DataW.trod enc Try.prog w base spare held n 23 cs = some x) : ∃ A n c, cs = [.slice A n c] ∧ n ≤ c ∧ ∃ xs, k84.C w A n xs ∧ ∀ y ∈ xs, Good84 y :=
 Opn.open_row k84 (fun y => Good84 y) Try.underlying23 (by kernel_rfl) (fun n cs y hy hl => el84 hy hl) h
def Good120 (z : S120) : Prop := (Lit.int .i64 z.f0).wf = true ∧ (Lit.int .i64 z.f1).wf = true ∧ (Lit.int .i64 z.f2).wf = true
theorem el120 {H : Type} {enc : TypeId × Value → H} {w : World} {base : Nat} {spare : Nat → Bool} {held : Bool} {n : Nat} {cs : List Value} {y : DataW H × List MemPlace} (hy : DataW.trod enc Try.prog w base spare held n 120 cs = some y) (hl : cs.length = k120.sz) : ∃ z, k120.K w z cs ∧ Good120 z := by
 obtain ⟨m, hfs⟩ := Opn.fields_of Try.underlying120 (by kernel_rfl) hy
 match cs, hl with
 | [c0, c1, c2], _ =>
  obtain ⟨y0, h0⟩ := hfs 0 _ c0 rfl rfl
  obtain ⟨n0, e0, _, w0⟩ := DataW.trod_int Try.underlying3 h0
  obtain rfl : c0 = _ := by simpa using e0
  obtain ⟨y1, h1⟩ := hfs 1 _ c1 rfl rfl
  obtain ⟨n1, e1, _, w1⟩ := DataW.trod_int Try.underlying3 h1
  obtain rfl : c1 = _ := by simpa using e1
  obtain ⟨y2, h2⟩ := hfs 2 _ c2 rfl rfl
  obtain ⟨n2, e2, _, w2⟩ := DataW.trod_int Try.underlying3 h2
  obtain rfl : c2 = _ := by simpa using e2
  exact ⟨⟨n0, n1, n2⟩, k120_mk _ _, ⟨w0, w1, w2⟩⟩
theorem row43 {H : Type} {enc : TypeId × Value → H} {w : World} {base : Nat} {spare : Nat → Bool} {held : Bool} {n : Nat} {cs : List Value} {x : DataW H × List MemPlace} (h : DataW.trod enc Try.prog w base spare held n 43 cs = some x) : ∃ A n c, cs = [.slice A n c] ∧ n ≤ c ∧ ∃ xs, k120.C w A n xs ∧ ∀ y ∈ xs, Good120 y :=
 Opn.open_row k120 (fun y => Good120 y) Try.underlying43 (by kernel_rfl) (fun n cs y hy hl => el120 hy hl) h
def Good69 (z : S69) : Prop := (Lit.int .i64 z.f0).wf = true ∧ (Lit.int .i64 z.f1).wf = true ∧ (Lit.int .i64 z.f2).wf = true
theorem el69 {H : Type} {enc : TypeId × Value → H} {w : World} {base : Nat} {spare : Nat → Bool} {held : Bool} {n : Nat} {cs : List Value} {y : DataW H × List MemPlace} (hy : DataW.trod enc Try.prog w base spare held n 69 cs = some y) (hl : cs.length = k69.sz) : ∃ z, k69.K w z cs ∧ Good69 z := by
 obtain ⟨m, hfs⟩ := Opn.fields_of Try.underlying69 (by kernel_rfl) hy
 match cs, hl with
 | [c0, c1, c2], _ =>
  obtain ⟨y0, h0⟩ := hfs 0 _ c0 rfl rfl
  obtain ⟨n0, e0, _, w0⟩ := DataW.trod_int Try.underlying3 h0
  obtain rfl : c0 = _ := by simpa using e0
  obtain ⟨y1, h1⟩ := hfs 1 _ c1 rfl rfl
  obtain ⟨n1, e1, _, w1⟩ := DataW.trod_int Try.underlying3 h1
  obtain rfl : c1 = _ := by simpa using e1
  obtain ⟨y2, h2⟩ := hfs 2 _ c2 rfl rfl
  obtain ⟨n2, e2, _, w2⟩ := DataW.trod_int Try.underlying3 h2
  obtain rfl : c2 = _ := by simpa using e2
  exact ⟨⟨n0, n1, n2⟩, k69_mk _ _, ⟨w0, w1, w2⟩⟩
theorem row44 {H : Type} {enc : TypeId × Value → H} {w : World} {base : Nat} {spare : Nat → Bool} {held : Bool} {n : Nat} {cs : List Value} {x : DataW H × List MemPlace} (h : DataW.trod enc Try.prog w base spare held n 44 cs = some x) : ∃ A n c, cs = [.slice A n c] ∧ n ≤ c ∧ ∃ xs, k69.C w A n xs ∧ ∀ y ∈ xs, Good69 y :=
 Opn.open_row k69 (fun y => Good69 y) Try.underlying44 (by kernel_rfl) (fun n cs y hy hl => el69 hy hl) h
def Good46 (z : S46) : Prop := (Lit.int .i64 z.f0).wf = true ∧ (Lit.int .i64 z.f1).wf = true ∧ (∀ y ∈ z.f2, Good120 y) ∧ (∀ y ∈ z.f3, Good69 y)
theorem el46 {H : Type} {enc : TypeId × Value → H} {w : World} {base : Nat} {spare : Nat → Bool} {held : Bool} {n : Nat} {cs : List Value} {y : DataW H × List MemPlace} (hy : DataW.trod enc Try.prog w base spare held n 46 cs = some y) (hl : cs.length = k46.sz) : ∃ z, k46.K w z cs ∧ Good46 z := by
 obtain ⟨m, hfs⟩ := Opn.fields_of Try.underlying46 (by kernel_rfl) hy
 match cs, hl with
 | [c0, c1, c2, c3], _ =>
  obtain ⟨y0, h0⟩ := hfs 0 _ c0 rfl rfl
  obtain ⟨n0, e0, _, w0⟩ := DataW.trod_int Try.underlying3 h0
  obtain rfl : c0 = _ := by simpa using e0
  obtain ⟨y1, h1⟩ := hfs 1 _ c1 rfl rfl
  obtain ⟨n1, e1, _, w1⟩ := DataW.trod_int Try.underlying3 h1
  obtain rfl : c1 = _ := by simpa using e1
  obtain ⟨y2, h2⟩ := hfs 2 _ c2 rfl rfl
  obtain ⟨A2, m2, d2, e2, l2, n2, C2, w2⟩ := row43 h2
  obtain rfl : c2 = _ := by simpa using e2
  obtain rfl := C2.1
  obtain ⟨y3, h3⟩ := hfs 3 _ c3 rfl rfl
  obtain ⟨A3, m3, d3, e3, l3, n3, C3, w3⟩ := row44 h3
  obtain rfl : c3 = _ := by simpa using e3
  obtain rfl := C3.1
  exact ⟨⟨n0, n1, n2, n3⟩, k46_mk _ _ l2 C2 l3 C3, ⟨w0, w1, w2, w3⟩⟩
theorem row24 {H : Type} {enc : TypeId × Value → H} {w : World} {base : Nat} {spare : Nat → Bool} {held : Bool} {n : Nat} {cs : List Value} {x : DataW H × List MemPlace} (h : DataW.trod enc Try.prog w base spare held n 24 cs = some x) : ∃ A n c, cs = [.slice A n c] ∧ n ≤ c ∧ ∃ xs, k46.C w A n xs ∧ ∀ y ∈ xs, Good46 y :=
 Opn.open_row k46 (fun y => Good46 y) Try.underlying24 (by kernel_rfl) (fun n cs y hy hl => el46 hy hl) h
def Good95 (z : S95) : Prop := (Lit.int .i64 z.f0).wf = true ∧ (Lit.int .i64 z.f1).wf = true
theorem el95 {H : Type} {enc : TypeId × Value → H} {w : World} {base : Nat} {spare : Nat → Bool} {held : Bool} {n : Nat} {cs : List Value} {y : DataW H × List MemPlace} (hy : DataW.trod enc Try.prog w base spare held n 95 cs = some y) (hl : cs.length = k95.sz) : ∃ z, k95.K w z cs ∧ Good95 z := by
 obtain ⟨m, hfs⟩ := Opn.fields_of Try.underlying95 (by kernel_rfl) hy
 match cs, hl with
 | [c0, c1], _ =>
  obtain ⟨y0, h0⟩ := hfs 0 _ c0 rfl rfl
  obtain ⟨n0, e0, _, w0⟩ := DataW.trod_int Try.underlying3 h0
  obtain rfl : c0 = _ := by simpa using e0
  obtain ⟨y1, h1⟩ := hfs 1 _ c1 rfl rfl
  obtain ⟨n1, e1, _, w1⟩ := DataW.trod_int Try.underlying3 h1
  obtain rfl : c1 = _ := by simpa using e1
  exact ⟨⟨n0, n1⟩, k95_mk _ _, ⟨w0, w1⟩⟩
theorem row25 {H : Type} {enc : TypeId × Value → H} {w : World} {base : Nat} {spare : Nat → Bool} {held : Bool} {n : Nat} {cs : List Value} {x : DataW H × List MemPlace} (h : DataW.trod enc Try.prog w base spare held n 25 cs = some x) : ∃ A n c, cs = [.slice A n c] ∧ n ≤ c ∧ ∃ xs, k95.C w A n xs ∧ ∀ y ∈ xs, Good95 y :=
 Opn.open_row k95 (fun y => Good95 y) Try.underlying25 (by kernel_rfl) (fun n cs y hy hl => el95 hy hl) h
def Good125 (z : S125) : Prop := (Lit.int .i64 z.f0).wf = true ∧ (Lit.int .i64 z.f1).wf = true ∧ (Lit.int .i64 z.f2).wf = true
theorem el125 {H : Type} {enc : TypeId × Value → H} {w : World} {base : Nat} {spare : Nat → Bool} {held : Bool} {n : Nat} {cs : List Value} {y : DataW H × List MemPlace} (hy : DataW.trod enc Try.prog w base spare held n 125 cs = some y) (hl : cs.length = k125.sz) : ∃ z, k125.K w z cs ∧ Good125 z := by
 obtain ⟨m, hfs⟩ := Opn.fields_of Try.underlying125 (by kernel_rfl) hy
 match cs, hl with
 | [c0, c1, c2], _ =>
  obtain ⟨y0, h0⟩ := hfs 0 _ c0 rfl rfl
  obtain ⟨n0, e0, _, w0⟩ := DataW.trod_int Try.underlying3 h0
  obtain rfl : c0 = _ := by simpa using e0
  obtain ⟨y1, h1⟩ := hfs 1 _ c1 rfl rfl
  obtain ⟨n1, e1, _, w1⟩ := DataW.trod_int Try.underlying3 h1
  obtain rfl : c1 = _ := by simpa using e1
  obtain ⟨y2, h2⟩ := hfs 2 _ c2 rfl rfl
  obtain ⟨n2, e2, _, w2⟩ := DataW.trod_int Try.underlying3 h2
  obtain rfl : c2 = _ := by simpa using e2
  exact ⟨⟨n0, n1, n2⟩, k125_mk _ _, ⟨w0, w1, w2⟩⟩
theorem row26 {H : Type} {enc : TypeId × Value → H} {w : World} {base : Nat} {spare : Nat → Bool} {held : Bool} {n : Nat} {cs : List Value} {x : DataW H × List MemPlace} (h : DataW.trod enc Try.prog w base spare held n 26 cs = some x) : ∃ A n c, cs = [.slice A n c] ∧ n ≤ c ∧ ∃ xs, k125.C w A n xs ∧ ∀ y ∈ xs, Good125 y :=
 Opn.open_row k125 (fun y => Good125 y) Try.underlying26 (by kernel_rfl) (fun n cs y hy hl => el125 hy hl) h
theorem open28 {H : Type} {enc : TypeId × Value → H} {w : World} {base : Nat} {spare : Nat → Bool} {held : Bool} {b0 : Nat} {r : Go.Reach} {v : Value} {x : DataW H} {p : List MemPlace} (hv : Value.okWide Try.prog w r b0 28 v) (h : DataW.Trod enc Try.prog w base spare held 28 v x p) : ∃ (n0 : Int) (n1 : Int) (A2 : Option Addr) (d2 : Nat) (n2 : List S84) (A3 : Option Addr) (d3 : Nat) (n3 : List S46) (A4 : Option Addr) (d4 : Nat) (n4 : List S95) (A5 : Option Addr) (d5 : Nat) (n5 : List S125), v = .agg #[.int .u64 n0, .int .i64 n1, .slice A2 n2.length d2, .slice A3 n3.length d3, .slice A4 n4.length d4, .slice A5 n5.length d5] ∧ (Lit.int .u64 n0).wf = true ∧ (Lit.int .i64 n1).wf = true ∧ n2.length ≤ d2 ∧ k84.C w A2 n2.length n2 ∧ (∀ y ∈ n2, Good84 y) ∧ n3.length ≤ d3 ∧ k46.C w A3 n3.length n3 ∧ (∀ y ∈ n3, Good46 y) ∧ n4.length ≤ d4 ∧ k95.C w A4 n4.length n4 ∧ (∀ y ∈ n4, Good95 y) ∧ n5.length ≤ d5 ∧ k125.C w A5 n5.length n5 ∧ (∀ y ∈ n5, Good125 y) := by
 obtain ⟨cs, rfl, hsz⟩ := okWide_struct Try.underlying28 hv
 obtain ⟨fuel, hf⟩ := h
 replace hf : DataW.trod enc Try.prog w base spare held fuel 28 cs.toList = some (x, p) := by simpa [Value.cells] using hf
 obtain ⟨m, hfs⟩ := Opn.fields_of Try.underlying28 (by kernel_rfl) hf
 obtain ⟨cs⟩ := cs
 have hl : cs.length = 6 := hsz
 clear hsz hv hf
 match cs, hl with
 | [c0, c1, c2, c3, c4, c5], _ =>
  obtain ⟨y0, h0⟩ := hfs 0 _ c0 rfl rfl
  obtain ⟨n0, e0, _, w0⟩ := DataW.trod_int Try.underlying22 h0
  obtain rfl : c0 = _ := by simpa using e0
  obtain ⟨y1, h1⟩ := hfs 1 _ c1 rfl rfl
  obtain ⟨n1, e1, _, w1⟩ := DataW.trod_int Try.underlying3 h1
  obtain rfl : c1 = _ := by simpa using e1
  obtain ⟨y2, h2⟩ := hfs 2 _ c2 rfl rfl
  obtain ⟨A2, m2, d2, e2, l2, n2, C2, w2⟩ := row23 h2
  obtain rfl : c2 = _ := by simpa using e2
  obtain rfl := C2.1
  obtain ⟨y3, h3⟩ := hfs 3 _ c3 rfl rfl
  obtain ⟨A3, m3, d3, e3, l3, n3, C3, w3⟩ := row24 h3
  obtain rfl : c3 = _ := by simpa using e3
  obtain rfl := C3.1
  obtain ⟨y4, h4⟩ := hfs 4 _ c4 rfl rfl
  obtain ⟨A4, m4, d4, e4, l4, n4, C4, w4⟩ := row25 h4
  obtain rfl : c4 = _ := by simpa using e4
  obtain rfl := C4.1
  obtain ⟨y5, h5⟩ := hfs 5 _ c5 rfl rfl
  obtain ⟨A5, m5, d5, e5, l5, n5, C5, w5⟩ := row26 h5
  obtain rfl : c5 = _ := by simpa using e5
  obtain rfl := C5.1
  exact ⟨n0, n1, A2, d2, n2, A3, d3, n3, A4, d4, n4, A5, d5, n5, rfl, w0, w1, l2, C2, w2, l3, C3, w3, l4, C4, w4, l5, C5, w5⟩
end Go.Proofs.Ytnniejaknnpcjaa.Opm
