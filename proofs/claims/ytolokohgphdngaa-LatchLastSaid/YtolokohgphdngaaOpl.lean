/- Arguments of struct types, opened to rows. -/
import Derived.Test.YtolokohgphdngaaLatD
import Derived.Test.YtolokohgphdngaaOpn
import Derived.Lib.SmallJoins
namespace Go.Proofs.Ytolokohgphdngaa.Opl
open Go.RowKit Go.ChangeShapes Go.WideShapes Go.Deep Go.Proofs.YtolokohgphdngaaW.PrintWords Go.Proofs.YtolokohgphdngaaW.PrintLast Go.Proofs.YtolokohgphdngaaW.PrintMore Go.Proofs.Ytolokohgphdngaa.PLatchLast Go.Proofs.Ytolokohgphdngaa.Lat
set_option linter.unusedVariables false
set_option maxRecDepth 100000
def Good192 (z : S192) : Prop := (Lit.int .u32 z.f0).wf = true ∧ True
theorem el192 {H : Type} {enc : TypeId × Value → H} {w : World} {base : Nat} {spare : Nat → Bool} {held : Bool} {n : Nat} {cs : List Value} {y : DataW H × List MemPlace} (hy : DataW.trod enc Try.prog w base spare held n 192 cs = some y) (hl : cs.length = k192.sz) : ∃ z, k192.K w z cs ∧ Good192 z := by
  obtain ⟨m, hfs⟩ := Opn.fields_of Try.underlying192 (by kernel_rfl) hy
  match cs, hl with
  | [c0, c1], _ =>
    obtain ⟨y0, h0⟩ := hfs 0 _ c0 rfl rfl
    obtain ⟨n0, e0, _, w0⟩ := DataW.trod_int Try.underlying165 h0
    obtain rfl : c0 = _ := by simpa using e0
    obtain ⟨y1, h1⟩ := hfs 1 _ c1 rfl rfl
    obtain ⟨n1, e1, _⟩ := DataW.trod_bool Try.underlying4 h1
    obtain rfl : c1 = _ := by simpa using e1
    exact ⟨⟨n0, n1⟩, k192_mk _ _, ⟨w0, trivial⟩⟩
theorem row128 {H : Type} {enc : TypeId × Value → H} {w : World} {base : Nat} {spare : Nat → Bool} {held : Bool} {n : Nat} {cs : List Value} {x : DataW H × List MemPlace} (h : DataW.trod enc Try.prog w base spare held n 128 cs = some x) : ∃ A n c, cs = [.slice A n c] ∧ n ≤ c ∧ ∃ xs, k192.C w A n xs ∧ ∀ y ∈ xs, Good192 y :=
  Opn.open_row k192 (fun y => Good192 y) Try.underlying128 (by kernel_rfl) (fun n cs y hy hl => el192 hy hl) h
def Good130 (z : S130) : Prop := (Lit.int .i64 z.f0).wf = true ∧ z.f1.size ≤ maxLen ∧ True ∧ (∀ y ∈ z.f3, Good192 y)
theorem el130 {H : Type} {enc : TypeId × Value → H} {w : World} {base : Nat} {spare : Nat → Bool} {held : Bool} {n : Nat} {cs : List Value} {y : DataW H × List MemPlace} (hy : DataW.trod enc Try.prog w base spare held n 130 cs = some y) (hl : cs.length = k130.sz) : ∃ z, k130.K w z cs ∧ Good130 z := by
  obtain ⟨m, hfs⟩ := Opn.fields_of Try.underlying130 (by kernel_rfl) hy
  match cs, hl with
  | [c0, c1, c2, c3], _ =>
    obtain ⟨y0, h0⟩ := hfs 0 _ c0 rfl rfl
    obtain ⟨n0, e0, _, w0⟩ := DataW.trod_int Try.underlying3 h0
    obtain rfl : c0 = _ := by simpa using e0
    obtain ⟨y1, h1⟩ := hfs 1 _ c1 rfl rfl
    obtain ⟨n1, e1, _, w1⟩ := DataW.trod_string Try.underlying9 h1
    obtain rfl : c1 = _ := by simpa using e1
    obtain ⟨y2, h2⟩ := hfs 2 _ c2 rfl rfl
    obtain ⟨n2, e2, _⟩ := DataW.trod_bool Try.underlying4 h2
    obtain rfl : c2 = _ := by simpa using e2
    obtain ⟨y3, h3⟩ := hfs 3 _ c3 rfl rfl
    obtain ⟨A3, m3, d3, e3, l3, n3, C3, w3⟩ := row128 h3
    obtain rfl : c3 = _ := by simpa using e3
    obtain rfl := C3.1
    exact ⟨⟨n0, n1, n2, n3⟩, k130_mk _ _ l3 C3, ⟨w0, w1, trivial, w3⟩⟩
theorem row67 {H : Type} {enc : TypeId × Value → H} {w : World} {base : Nat} {spare : Nat → Bool} {held : Bool} {n : Nat} {cs : List Value} {x : DataW H × List MemPlace} (h : DataW.trod enc Try.prog w base spare held n 67 cs = some x) : ∃ A n c, cs = [.slice A n c] ∧ n ≤ c ∧ ∃ xs, k130.C w A n xs ∧ ∀ y ∈ xs, Good130 y :=
  Opn.open_row k130 (fun y => Good130 y) Try.underlying67 (by kernel_rfl) (fun n cs y hy hl => el130 hy hl) h
def Good153 (z : S153) : Prop := (Lit.int .i64 z.f0).wf = true ∧ (Lit.int .i64 z.f1).wf = true ∧ (Lit.int .i64 z.f2).wf = true
theorem el153 {H : Type} {enc : TypeId × Value → H} {w : World} {base : Nat} {spare : Nat → Bool} {held : Bool} {n : Nat} {cs : List Value} {y : DataW H × List MemPlace} (hy : DataW.trod enc Try.prog w base spare held n 153 cs = some y) (hl : cs.length = k153.sz) : ∃ z, k153.K w z cs ∧ Good153 z := by
  obtain ⟨m, hfs⟩ := Opn.fields_of Try.underlying153 (by kernel_rfl) hy
  match cs, hl with
  | [c0, c1, c2], _ =>
    obtain ⟨y0, h0⟩ := hfs 0 _ c0 rfl rfl
    obtain ⟨n0, e0, _, w0⟩ := DataW.trod_int Try.underlying3 h0
    obtain rfl : c0 = _ := by simpa using e0
    obtain ⟨y1, h1⟩ := hfs 1 _ c1 rfl rfl
    obtain ⟨n1, e1, _, w1⟩ := DataW.trod_int Try.underlying3 h1
    obtain rfl : c1 = _ := by simpa using e1
    obtain ⟨y2, h2⟩ := hfs 2 _ c2 rfl rfl
    obtain ⟨n2, e2, _, w2⟩ := DataW.trod_int Try.underlying3 h2
    obtain rfl : c2 = _ := by simpa using e2
    exact ⟨⟨n0, n1, n2⟩, k153_mk _ _, ⟨w0, w1, w2⟩⟩
theorem row131 {H : Type} {enc : TypeId × Value → H} {w : World} {base : Nat} {spare : Nat → Bool} {held : Bool} {n : Nat} {cs : List Value} {x : DataW H × List MemPlace} (h : DataW.trod enc Try.prog w base spare held n 131 cs = some x) : ∃ A n c, cs = [.slice A n c] ∧ n ≤ c ∧ ∃ xs, k153.C w A n xs ∧ ∀ y ∈ xs, Good153 y :=
  Opn.open_row k153 (fun y => Good153 y) Try.underlying131 (by kernel_rfl) (fun n cs y hy hl => el153 hy hl) h
def Good194 (z : S194) : Prop := (Lit.int .i64 z.f0).wf = true ∧ (Lit.int .i64 z.f1).wf = true ∧ (Lit.int .i64 z.f2).wf = true
theorem el194 {H : Type} {enc : TypeId × Value → H} {w : World} {base : Nat} {spare : Nat → Bool} {held : Bool} {n : Nat} {cs : List Value} {y : DataW H × List MemPlace} (hy : DataW.trod enc Try.prog w base spare held n 194 cs = some y) (hl : cs.length = k194.sz) : ∃ z, k194.K w z cs ∧ Good194 z := by
  obtain ⟨m, hfs⟩ := Opn.fields_of Try.underlying194 (by kernel_rfl) hy
  match cs, hl with
  | [c0, c1, c2], _ =>
    obtain ⟨y0, h0⟩ := hfs 0 _ c0 rfl rfl
    obtain ⟨n0, e0, _, w0⟩ := DataW.trod_int Try.underlying3 h0
    obtain rfl : c0 = _ := by simpa using e0
    obtain ⟨y1, h1⟩ := hfs 1 _ c1 rfl rfl
    obtain ⟨n1, e1, _, w1⟩ := DataW.trod_int Try.underlying3 h1
    obtain rfl : c1 = _ := by simpa using e1
    obtain ⟨y2, h2⟩ := hfs 2 _ c2 rfl rfl
    obtain ⟨n2, e2, _, w2⟩ := DataW.trod_int Try.underlying3 h2
    obtain rfl : c2 = _ := by simpa using e2
    exact ⟨⟨n0, n1, n2⟩, k194_mk _ _, ⟨w0, w1, w2⟩⟩
theorem row132 {H : Type} {enc : TypeId × Value → H} {w : World} {base : Nat} {spare : Nat → Bool} {held : Bool} {n : Nat} {cs : List Value} {x : DataW H × List MemPlace} (h : DataW.trod enc Try.prog w base spare held n 132 cs = some x) : ∃ A n c, cs = [.slice A n c] ∧ n ≤ c ∧ ∃ xs, k194.C w A n xs ∧ ∀ y ∈ xs, Good194 y :=
  Opn.open_row k194 (fun y => Good194 y) Try.underlying132 (by kernel_rfl) (fun n cs y hy hl => el194 hy hl) h
def Good134 (z : S134) : Prop := (Lit.int .i64 z.f0).wf = true ∧ (Lit.int .i64 z.f1).wf = true ∧ (∀ y ∈ z.f2, Good153 y) ∧ (∀ y ∈ z.f3, Good194 y)
theorem el134 {H : Type} {enc : TypeId × Value → H} {w : World} {base : Nat} {spare : Nat → Bool} {held : Bool} {n : Nat} {cs : List Value} {y : DataW H × List MemPlace} (hy : DataW.trod enc Try.prog w base spare held n 134 cs = some y) (hl : cs.length = k134.sz) : ∃ z, k134.K w z cs ∧ Good134 z := by
  obtain ⟨m, hfs⟩ := Opn.fields_of Try.underlying134 (by kernel_rfl) hy
  match cs, hl with
  | [c0, c1, c2, c3], _ =>
    obtain ⟨y0, h0⟩ := hfs 0 _ c0 rfl rfl
    obtain ⟨n0, e0, _, w0⟩ := DataW.trod_int Try.underlying3 h0
    obtain rfl : c0 = _ := by simpa using e0
    obtain ⟨y1, h1⟩ := hfs 1 _ c1 rfl rfl
    obtain ⟨n1, e1, _, w1⟩ := DataW.trod_int Try.underlying3 h1
    obtain rfl : c1 = _ := by simpa using e1
    obtain ⟨y2, h2⟩ := hfs 2 _ c2 rfl rfl
    obtain ⟨A2, m2, d2, e2, l2, n2, C2, w2⟩ := row131 h2
    obtain rfl : c2 = _ := by simpa using e2
    obtain rfl := C2.1
    obtain ⟨y3, h3⟩ := hfs 3 _ c3 rfl rfl
    obtain ⟨A3, m3, d3, e3, l3, n3, C3, w3⟩ := row132 h3
    obtain rfl : c3 = _ := by simpa using e3
    obtain rfl := C3.1
    exact ⟨⟨n0, n1, n2, n3⟩, k134_mk _ _ l2 C2 l3 C3, ⟨w0, w1, w2, w3⟩⟩
theorem row68 {H : Type} {enc : TypeId × Value → H} {w : World} {base : Nat} {spare : Nat → Bool} {held : Bool} {n : Nat} {cs : List Value} {x : DataW H × List MemPlace} (h : DataW.trod enc Try.prog w base spare held n 68 cs = some x) : ∃ A n c, cs = [.slice A n c] ∧ n ≤ c ∧ ∃ xs, k134.C w A n xs ∧ ∀ y ∈ xs, Good134 y :=
  Opn.open_row k134 (fun y => Good134 y) Try.underlying68 (by kernel_rfl) (fun n cs y hy hl => el134 hy hl) h
def Good139 (z : S139) : Prop := (Lit.int .i64 z.f0).wf = true ∧ (Lit.int .i64 z.f1).wf = true
theorem el139 {H : Type} {enc : TypeId × Value → H} {w : World} {base : Nat} {spare : Nat → Bool} {held : Bool} {n : Nat} {cs : List Value} {y : DataW H × List MemPlace} (hy : DataW.trod enc Try.prog w base spare held n 139 cs = some y) (hl : cs.length = k139.sz) : ∃ z, k139.K w z cs ∧ Good139 z := by
  obtain ⟨m, hfs⟩ := Opn.fields_of Try.underlying139 (by kernel_rfl) hy
  match cs, hl with
  | [c0, c1], _ =>
    obtain ⟨y0, h0⟩ := hfs 0 _ c0 rfl rfl
    obtain ⟨n0, e0, _, w0⟩ := DataW.trod_int Try.underlying3 h0
    obtain rfl : c0 = _ := by simpa using e0
    obtain ⟨y1, h1⟩ := hfs 1 _ c1 rfl rfl
    obtain ⟨n1, e1, _, w1⟩ := DataW.trod_int Try.underlying3 h1
    obtain rfl : c1 = _ := by simpa using e1
    exact ⟨⟨n0, n1⟩, k139_mk _ _, ⟨w0, w1⟩⟩
theorem row69 {H : Type} {enc : TypeId × Value → H} {w : World} {base : Nat} {spare : Nat → Bool} {held : Bool} {n : Nat} {cs : List Value} {x : DataW H × List MemPlace} (h : DataW.trod enc Try.prog w base spare held n 69 cs = some x) : ∃ A n c, cs = [.slice A n c] ∧ n ≤ c ∧ ∃ xs, k139.C w A n xs ∧ ∀ y ∈ xs, Good139 y :=
  Opn.open_row k139 (fun y => Good139 y) Try.underlying69 (by kernel_rfl) (fun n cs y hy hl => el139 hy hl) h
def Good190 (z : S190) : Prop := (Lit.int .i64 z.f0).wf = true ∧ (Lit.int .i64 z.f1).wf = true ∧ (Lit.int .i64 z.f2).wf = true
theorem el190 {H : Type} {enc : TypeId × Value → H} {w : World} {base : Nat} {spare : Nat → Bool} {held : Bool} {n : Nat} {cs : List Value} {y : DataW H × List MemPlace} (hy : DataW.trod enc Try.prog w base spare held n 190 cs = some y) (hl : cs.length = k190.sz) : ∃ z, k190.K w z cs ∧ Good190 z := by
  obtain ⟨m, hfs⟩ := Opn.fields_of Try.underlying190 (by kernel_rfl) hy
  match cs, hl with
  | [c0, c1, c2], _ =>
    obtain ⟨y0, h0⟩ := hfs 0 _ c0 rfl rfl
    obtain ⟨n0, e0, _, w0⟩ := DataW.trod_int Try.underlying3 h0
    obtain rfl : c0 = _ := by simpa using e0
    obtain ⟨y1, h1⟩ := hfs 1 _ c1 rfl rfl
    obtain ⟨n1, e1, _, w1⟩ := DataW.trod_int Try.underlying3 h1
    obtain rfl : c1 = _ := by simpa using e1
    obtain ⟨y2, h2⟩ := hfs 2 _ c2 rfl rfl
    obtain ⟨n2, e2, _, w2⟩ := DataW.trod_int Try.underlying3 h2
    obtain rfl : c2 = _ := by simpa using e2
    exact ⟨⟨n0, n1, n2⟩, k190_mk _ _, ⟨w0, w1, w2⟩⟩
theorem row70 {H : Type} {enc : TypeId × Value → H} {w : World} {base : Nat} {spare : Nat → Bool} {held : Bool} {n : Nat} {cs : List Value} {x : DataW H × List MemPlace} (h : DataW.trod enc Try.prog w base spare held n 70 cs = some x) : ∃ A n c, cs = [.slice A n c] ∧ n ≤ c ∧ ∃ xs, k190.C w A n xs ∧ ∀ y ∈ xs, Good190 y :=
  Opn.open_row k190 (fun y => Good190 y) Try.underlying70 (by kernel_rfl) (fun n cs y hy hl => el190 hy hl) h
theorem open72 {H : Type} {enc : TypeId × Value → H} {w : World} {base : Nat} {spare : Nat → Bool} {held : Bool} {b0 : Nat} {r : Go.Reach} {v : Value} {x : DataW H} {p : List MemPlace} (hv : Value.okWide Try.prog w r b0 72 v) (h : DataW.Trod enc Try.prog w base spare held 72 v x p) : ∃ (n0 : Int) (n1 : Int) (A2 : Option Addr) (d2 : Nat) (n2 : List S130) (A3 : Option Addr) (d3 : Nat) (n3 : List S134) (A4 : Option Addr) (d4 : Nat) (n4 : List S139) (A5 : Option Addr) (d5 : Nat) (n5 : List S190), v = .agg #[.int .u64 n0, .int .i64 n1, .slice A2 n2.length d2, .slice A3 n3.length d3, .slice A4 n4.length d4, .slice A5 n5.length d5] ∧ (Lit.int .u64 n0).wf = true ∧ (Lit.int .i64 n1).wf = true ∧ n2.length ≤ d2 ∧ k130.C w A2 n2.length n2 ∧ (∀ y ∈ n2, Good130 y) ∧ n3.length ≤ d3 ∧ k134.C w A3 n3.length n3 ∧ (∀ y ∈ n3, Good134 y) ∧ n4.length ≤ d4 ∧ k139.C w A4 n4.length n4 ∧ (∀ y ∈ n4, Good139 y) ∧ n5.length ≤ d5 ∧ k190.C w A5 n5.length n5 ∧ (∀ y ∈ n5, Good190 y) := by
  obtain ⟨cs, rfl, hsz⟩ := okWide_struct Try.underlying72 hv
  obtain ⟨fuel, hf⟩ := h
  replace hf : DataW.trod enc Try.prog w base spare held fuel 72 cs.toList = some (x, p) := by simpa [Value.cells] using hf
  obtain ⟨m, hfs⟩ := Opn.fields_of Try.underlying72 (by kernel_rfl) hf
  obtain ⟨cs⟩ := cs
  have hl : cs.length = 6 := hsz
  clear hsz hv hf
  match cs, hl with
  | [c0, c1, c2, c3, c4, c5], _ =>
    obtain ⟨y0, h0⟩ := hfs 0 _ c0 rfl rfl
    obtain ⟨n0, e0, _, w0⟩ := DataW.trod_int Try.underlying22 h0
    obtain rfl : c0 = _ := by simpa using e0
    obtain ⟨y1, h1⟩ := hfs 1 _ c1 rfl rfl
    obtain ⟨n1, e1, _, w1⟩ := DataW.trod_int Try.underlying3 h1
    obtain rfl : c1 = _ := by simpa using e1
    obtain ⟨y2, h2⟩ := hfs 2 _ c2 rfl rfl
    obtain ⟨A2, m2, d2, e2, l2, n2, C2, w2⟩ := row67 h2
    obtain rfl : c2 = _ := by simpa using e2
    obtain rfl := C2.1
    obtain ⟨y3, h3⟩ := hfs 3 _ c3 rfl rfl
    obtain ⟨A3, m3, d3, e3, l3, n3, C3, w3⟩ := row68 h3
    obtain rfl : c3 = _ := by simpa using e3
    obtain rfl := C3.1
    obtain ⟨y4, h4⟩ := hfs 4 _ c4 rfl rfl
    obtain ⟨A4, m4, d4, e4, l4, n4, C4, w4⟩ := row69 h4
    obtain rfl : c4 = _ := by simpa using e4
    obtain rfl := C4.1
    obtain ⟨y5, h5⟩ := hfs 5 _ c5 rfl rfl
    obtain ⟨A5, m5, d5, e5, l5, n5, C5, w5⟩ := row70 h5
    obtain rfl : c5 = _ := by simpa using e5
    obtain rfl := C5.1
    exact ⟨n0, n1, A2, d2, n2, A3, d3, n3, A4, d4, n4, A5, d5, n5, rfl, w0, w1, l2, C2, w2, l3, C3, w3, l4, C4, w4, l5, C5, w5⟩
def Good82 (z : S82) : Prop := True ∧ (Lit.int .i64 z.f1).wf = true ∧ (Lit.int .i64 z.f2).wf = true ∧ (Lit.int .u64 z.f3).wf = true
theorem el82 {H : Type} {enc : TypeId × Value → H} {w : World} {base : Nat} {spare : Nat → Bool} {held : Bool} {n : Nat} {cs : List Value} {y : DataW H × List MemPlace} (hy : DataW.trod enc Try.prog w base spare held n 82 cs = some y) (hl : cs.length = k82.sz) : ∃ z, k82.K w z cs ∧ Good82 z := by
  obtain ⟨m, hfs⟩ := Opn.fields_of Try.underlying82 (by kernel_rfl) hy
  match cs, hl with
  | [c0, c1, c2, c3], _ =>
    obtain ⟨y0, h0⟩ := hfs 0 _ c0 rfl rfl
    obtain ⟨n0, e0, _⟩ := DataW.trod_bool Try.underlying4 h0
    obtain rfl : c0 = _ := by simpa using e0
    obtain ⟨y1, h1⟩ := hfs 1 _ c1 rfl rfl
    obtain ⟨n1, e1, _, w1⟩ := DataW.trod_int Try.underlying3 h1
    obtain rfl : c1 = _ := by simpa using e1
    obtain ⟨y2, h2⟩ := hfs 2 _ c2 rfl rfl
    obtain ⟨n2, e2, _, w2⟩ := DataW.trod_int Try.underlying3 h2
    obtain rfl : c2 = _ := by simpa using e2
    obtain ⟨y3, h3⟩ := hfs 3 _ c3 rfl rfl
    obtain ⟨n3, e3, _, w3⟩ := DataW.trod_int Try.underlying22 h3
    obtain rfl : c3 = _ := by simpa using e3
    exact ⟨⟨n0, n1, n2, n3⟩, k82_mk _ _, ⟨trivial, w1, w2, w3⟩⟩
theorem row73 {H : Type} {enc : TypeId × Value → H} {w : World} {base : Nat} {spare : Nat → Bool} {held : Bool} {n : Nat} {cs : List Value} {x : DataW H × List MemPlace} (h : DataW.trod enc Try.prog w base spare held n 73 cs = some x) : ∃ A n c, cs = [.slice A n c] ∧ n ≤ c ∧ ∃ xs, k82.C w A n xs ∧ ∀ y ∈ xs, Good82 y :=
  Opn.open_row k82 (fun y => Good82 y) Try.underlying73 (by kernel_rfl) (fun n cs y hy hl => el82 hy hl) h
theorem open73 {H : Type} {enc : TypeId × Value → H} {w : World} {base : Nat} {spare : Nat → Bool} {held : Bool} {b0 : Nat} {r : Go.Reach} {v : Value} {x : DataW H} {p : List MemPlace} (hv : Value.okWide Try.prog w r b0 73 v) (h : DataW.Trod enc Try.prog w base spare held 73 v x p) : ∃ A n c, v = .slice A n c ∧ ∃ xs, n ≤ c ∧ k82.C w A n xs ∧ ∀ y ∈ xs, Good82 y := by
  obtain ⟨A, n, c, rfl⟩ := okWide_slice Try.underlying73 hv
  obtain ⟨fuel, hf⟩ := h
  obtain ⟨A', n', c', hcs, hl, xs, hC, hg⟩ := row73 hf
  simp [Value.cells] at hcs
  obtain ⟨rfl, rfl, rfl⟩ := hcs
  exact ⟨_, _, _, rfl, xs, hl, hC, hg⟩
end Go.Proofs.Ytolokohgphdngaa.Opl
