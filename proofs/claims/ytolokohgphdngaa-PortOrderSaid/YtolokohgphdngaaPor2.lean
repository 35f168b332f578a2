/- PortSamples: the times of reading as a row; the document's port in its own block. -/
import Derived.Test.YtolokohgphdngaaPor1
namespace Go.Proofs.Ytolokohgphdngaa.Por
open Go.RowKit Go.WideShapes Go.ChangeShapes Go.Proofs.Ytolokohgphdngaa.PPortSamples Go.Proofs.YtolokohgphdngaaW.PrintWords Go.Proofs.YtolokohgphdngaaW.PrintLast Go.Proofs.YtolokohgphdngaaW.PrintMore Go.Proofs.Ytolokohgphdngaa.Opn
set_option linter.unusedVariables false
set_option linter.unusedSimpArgs false
set_option maxRecDepth 100000
attribute [local go_sem] max2_int min2_int max_two min_two max_three min_three max_four min_four
structure S26 where
  f0 : Bool
  f1 : Int
  f2 : ByteArray
def z26 : S26 := ⟨false, 0, ⟨#[]⟩⟩
def k26 : Kd S26 := Kd.iso (Kd.pair Kd.bool (Kd.pair (Kd.int .u64) Kd.string)) (fun x : S26 => (x.f0, x.f1, x.f2))
theorem k26_open {w : World} {x : S26} {cs : List Value} (h : k26.K w x cs) : cs = [.bool x.f0, .int .u64 x.f1, .string x.f2] := by
  obtain ⟨_, _, rfl, rfl, ⟨_, _, rfl, rfl, rfl⟩⟩ := h
  exact rfl
theorem k26_mk (w : World) (x : S26) : k26.K w x [.bool x.f0, .int .u64 x.f1, .string x.f2] := ⟨[.bool x.f0], [.int .u64 x.f1, .string x.f2], rfl, rfl, ⟨[.int .u64 x.f1], [.string x.f2], rfl, rfl, rfl⟩⟩
def rd_T26 (xs : List S26) (i : Int) : S26 := xs.getD i.toNat z26
theorem at_T26 {w : World} {A : Option Addr} {n : Nat} {xs : List S26} (h : Kd.C k26 w A n xs) (i : Int) (h0 : 0 ≤ i) (h1 : i < n) : ∃ ad , A = some ad ∧ w.cell? (ad.add (i.toNat * 3)) = some (.bool (rd_T26 xs i).f0) ∧
    w.cell? ⟨(ad.add (i.toNat * 3)).block, (ad.add (i.toNat * 3)).off + 1, none⟩ = some (.int .u64 (rd_T26 xs i).f1) ∧ w.cell? ⟨(ad.add (i.toNat * 3)).block, (ad.add (i.toNat * 3)).off + 2, none⟩ = some (.string (rd_T26 xs i).f2) := by
  obtain ⟨ad, c, e, _, hK, hc0⟩ := Kd.C_get h z26 i h0 h1
  have hc : ∀ j u, c[j]? = some u → w.cell? (ad.add (i.toNat * 3 + j)) = some u := hc0
  obtain rfl := k26_open hK
  exact ⟨ad, e, hc 0 _ rfl, by rw [← add_field _ _ 1 (by omega)]; exact hc 1 _ rfl, by rw [← add_field _ _ 2 (by omega)]; exact hc 2 _ rfl⟩
theorem open23 {H : Type} {enc : TypeId × Value → H} {w : World} {base b0 : Nat} {spare : Nat → Bool} {held : Bool} {r : Go.Reach} {v : Value} {x : DataW H} {p : List MemPlace} (hv : Value.okWide Try.prog w r b0 23 v)
    (h : DataW.Trod enc Try.prog w base spare held 23 v x p) : ∃ A n c, v = .slice A n c ∧ ∃ xs, n ≤ c ∧ k26.C w A n xs ∧ ∀ z ∈ xs, (Lit.int .u64 z.f1).wf = true ∧ z.f2.size ≤ maxLen := by
  obtain ⟨A, n, c, rfl⟩ := okWide_slice Try.underlying23 hv
  obtain ⟨fuel, hf⟩ := h
  obtain ⟨A', n', c', hcs, hl, xs, hC, hg⟩ := Opn.open_row k26 (fun z => (Lit.int .u64 z.f1).wf = true ∧ z.f2.size ≤ maxLen) Try.underlying23 (by kernel_rfl) (fun n cs' y hy hlen => by
    obtain ⟨m, hfs⟩ := Opn.fields_of Try.underlying26 (by kernel_rfl) hy
    match cs', hlen with
    | [c0, c1, c2], _ =>
      obtain ⟨y0, h0⟩ := hfs 0 _ c0 rfl rfl
      obtain ⟨y1, h1⟩ := hfs 1 _ c1 rfl rfl
      obtain ⟨y2, h2⟩ := hfs 2 _ c2 rfl rfl
      obtain ⟨n0, e0, _⟩ := DataW.trod_bool Try.underlying4 h0
      obtain ⟨n1, e1, _, w1⟩ := DataW.trod_int Try.underlying22 h1
      obtain ⟨n2, e2, _, w2⟩ := DataW.trod_string Try.underlying9 h2
      obtain rfl : c0 = _ := by simpa using e0
      obtain rfl : c1 = _ := by simpa using e1
      obtain rfl : c2 = _ := by simpa using e2
      exact ⟨⟨n0, n1, n2⟩, k26_mk _ _, w1, w2⟩) hf
  simp [Value.cells] at hcs
  obtain ⟨rfl, rfl, rfl⟩ := hcs
  exact ⟨_, _, _, rfl, xs, hl, hC, hg⟩
/-- The document's port, in block y. -/
def IsRef (w : World) (y : Nat) (size refresh : Int) (m : ByteArray) (at_ n : Int) : Prop := w.heap[y]? = some (.cells #[.int .i64 size, .int .u64 refresh, .string m, .int .u64 at_, .bool (decide (0 < n))] 32 (0, 0))
/-- One time of reading, in block x. -/
def IsRd (w : World) (b : Nat) (x : S26) : Prop := w.heap[b]? = some (.cells #[.bool x.f0, .int .u64 x.f1, .string x.f2] 26 (0, 0))
/-- A struct of five cells, written anew. -/
theorem put5 {W : World} {y t : Nat} {a b c d e : Value} (h : W.heap[y]? = some (.cells #[a, b, c, d, e] t (0, 0))) (a' b' c' d' e' : Value) :
    (((((W.setCell ⟨y, 0, none⟩ a').setCell ⟨y, 1, none⟩ b').setCell ⟨y, 2, none⟩ c').setCell ⟨y, 3, none⟩ d').setCell ⟨y, 4, none⟩ e').heap[y]? = some (.cells #[a', b', c', d', e'] t (0, 0)) ∧
    KeepBut W (((((W.setCell ⟨y, 0, none⟩ a').setCell ⟨y, 1, none⟩ b').setCell ⟨y, 2, none⟩ c').setCell ⟨y, 3, none⟩ d').setCell ⟨y, 4, none⟩ e') y none :=
  ⟨blk_put (cs := #[a', b', c', d', e]) (blk_put (cs := #[a', b', c', d, e]) (blk_put (cs := #[a', b', c, d, e]) (blk_put (cs := #[a', b, c, d, e]) (blk_put (cs := #[a, b, c, d, e]) h 0 _ rfl) 1 _ rfl) 2 _ rfl) 3 _ rfl) 4 _ rfl,
    (((((KeepBut.refl W y none).set_ 0 _).set_ 1 _).set_ 2 _).set_ 3 _).set_ 4 _⟩
theorem below_put5 {w0 W : World} {y : Nat} (h : Below w0.heap.size w0 W) (hg : w0.heap.size ≤ y) (a' b' c' d' e' : Value) :
    Below w0.heap.size w0 (((((W.setCell ⟨y, 0, none⟩ a').setCell ⟨y, 1, none⟩ b').setCell ⟨y, 2, none⟩ c').setCell ⟨y, 3, none⟩ d').setCell ⟨y, 4, none⟩ e') :=
  below_set (below_set (below_set (below_set (below_set h hg) hg) hg) hg) hg
end Go.Proofs.Ytolokohgphdngaa.Por
