/- The contracts, over any state. -/
import Derived.Test.YtolokohgphdngaaStrH
import Derived.Test.YtolokohgphdngaaOpn
namespace Go.Proofs.Ytolokohgphdngaa.Str
open Go.RowKit Go.Proofs.YtolokohgphdngaaW.PrintWords Go.Proofs.YtolokohgphdngaaW.PrintLast Go.Proofs.YtolokohgphdngaaW.PrintMore Go.Proofs.Ytolokohgphdngaa.Mine Go.Proofs.Ytolokohgphdngaa.PStripAdds
open Go.Proofs.Ytolokohgphdngaa.Sl (SL Stp Chg St No)
set_option linter.unusedVariables false
set_option linter.unusedSimpArgs false
attribute [local go_sem] max2_int min2_int max_two min_two max_three min_three max_four min_four
variable {l : List SL} {w0 w : World} {g : Nat} {rs : List S95}
open Go.ChangeShapes Go.WideShapes
set_option maxRecDepth 100000 in
theorem open90 {H : Type} {enc : TypeId × Value → H} {w : World} {base b0 : Nat} {spare : Nat → Bool} {held : Bool} {r : Go.Reach} {v : Value} {x : DataW H} {p : List MemPlace} (hv : Value.okWide Try.prog w r b0 90 v)
    (h : DataW.Trod enc Try.prog w base spare held 90 v x p) : ∃ A n c, v = .slice A n c ∧ ∃ xs, n ≤ c ∧ k95.C w A n xs ∧ ∀ z ∈ xs, (Lit.int .i64 z.f0).wf = true ∧ (Lit.int .i64 z.f1).wf = true := by
  obtain ⟨A, n, c, rfl⟩ := okWide_slice Try.underlying90 hv
  obtain ⟨fuel, hf⟩ := h
  obtain ⟨A', n', c', hcs, hl, xs, hC, hg⟩ := Opn.open_row k95 (fun z => (Lit.int .i64 z.f0).wf = true ∧ (Lit.int .i64 z.f1).wf = true) Try.underlying90 (by kernel_rfl) (fun n cs' y hy hlen => by
    obtain ⟨m, hfs⟩ := Opn.fields_of Try.underlying95 (by kernel_rfl) hy
    match cs', hlen with
    | [c0, c1], _ =>
      obtain ⟨y0, h0⟩ := hfs 0 _ c0 rfl rfl
      obtain ⟨y1, h1⟩ := hfs 1 _ c1 rfl rfl
      obtain ⟨n0, e0, _, w0⟩ := DataW.trod_int Try.underlying3 h0
      obtain ⟨n1, e1, _, w1⟩ := DataW.trod_int Try.underlying3 h1
      obtain rfl : c0 = _ := by simpa using e0
      obtain rfl : c1 = _ := by simpa using e1
      exact ⟨⟨n0, n1⟩, k95_mk _ _, w0, w1⟩) hf
  simp [Value.cells] at hcs
  obtain ⟨rfl, rfl, rfl⟩ := hcs
  exact ⟨_, _, _, rfl, xs, hl, hC, hg⟩
theorem wf64 {z : Int} (h : (Lit.int .i64 z).wf = true) : -9223372036854775808 ≤ z ∧ z ≤ 9223372036854775807 := by
  simp [Lit.wf, IntKind.min, IntKind.max, IntKind.signed, IntKind.bits] at h
  omega
variable {x a b : Int}
theorem at_st (h : St l w0 w) (k : Nat) (e : l[k]? = some (stp g rs)) (hk : Oks rs) : Calls Try.prog 38 #[.pointer (some ⟨g, 0, none⟩), .int .i64 x] w fun e w' => e = .returned (.tuple #[.int .i64 (atR rs x).1, .bool (atR rs x).2]) ∧ St l w0 w' :=
  (at_hd (h.front k _ e) hk).mono fun _ _ ⟨he, hS⟩ => ⟨he, by have := St.back k (List.getElem?_eq_some_iff.1 e).1 hS; rwa [set_same e] at this⟩
theorem back1 {y : SL} {k : Nat} {z : SL} (e : l[k]? = some z) (h : St (y :: z :: l.eraseIdx k) w0 w) : St (y :: l) w0 w := by
  have e2 : (y :: l)[k + 1]? = some z := by simpa using e
  have := St.back (l := y :: l) (A := z) (k + 1) (List.getElem?_eq_some_iff.1 e2).1 (by rw [List.eraseIdx_cons_succ]; exact h.swap)
  rwa [set_same e2] at this
theorem part_st (h : St l w0 w) (k : Nat) (e : l[k]? = some (stp g rs)) (hk : Oks rs) : Calls Try.prog 40 #[.pointer (some ⟨g, 0, none⟩), .int .i64 a, .int .i64 b] w fun e w' => ∃ g2, e = .returned (.pointer (some ⟨g2, 0, none⟩)) ∧ St (stp g2 (partR rs a b) :: l) w0 w' :=
  (part_hd (h.front k _ e) hk a b).mono fun _ _ ⟨g2, he, hS⟩ => ⟨g2, he, back1 e hS⟩
theorem word_st (h : St l w0 w) (k : Nat) (e : l[k]? = some (stp g rs)) (hk : Oks rs) (ht : total rs ≤ 3000) : Calls Try.prog 47 #[.pointer (some ⟨g, 0, none⟩)] w fun e w' => ∃ A c, e = .returned (.slice A (wordR rs).length c) ∧ St (SL.row (Kd.int .i64) 3 (.slice A (wordR rs).length c) (wordR rs) :: l) w0 w' :=
  (word_hd (h.front k _ e) hk ht).mono fun _ _ ⟨A, c, he, hS⟩ => ⟨A, c, he, back1 e hS⟩
theorem len27_st (h : St l w0 w) (k : Nat) {A : Option Addr} {c : Nat} (e : l[k]? = some (SL.row k99 99 (.slice A rs.length c) (cv rs))) (hk : Oks rs) : Calls Try.prog 46 #[.slice A rs.length c] w fun e w' => e = .returned (.int .i64 (total rs)) ∧ St l w0 w' := by
  obtain ⟨A', c', hv, hc, hC⟩ := h.rowC k e
  injection hv with q1 _ q3
  subst q1 q3
  have := countwheelref27_Len.calls (rs.length + 1) A c (cv rs) (total rs) w hC hc (len_is hk _ (Nat.le_refl _))
  rw [cv_len] at this
  exact this.mono fun _ _ ⟨he, hd⟩ => ⟨he, h.drawn hd⟩
theorem at27_st (h : St l w0 w) (k : Nat) {A : Option Addr} {c : Nat} (e : l[k]? = some (SL.row k99 99 (.slice A rs.length c) (cv rs))) (hk : Oks rs) (hx : x ≤ 9223372036854775807) : Calls Try.prog 39 #[.slice A rs.length c, .int .i64 x] w fun e w' => e = .returned (.tuple #[.int .i64 (atR rs x).1, .bool (atR rs x).2]) ∧ St l w0 w' := by
  obtain ⟨A', c', hv, hc, hC⟩ := h.rowC k e
  injection hv with q1 _ q3
  subst q1 q3
  have := countwheelref27_At.calls (rs.length + 1) A c (cv rs) x _ _ w hC hc (at_is hk _ x (Nat.le_refl _) hx)
  rw [cv_len] at this
  exact this.mono fun _ _ ⟨he, hd⟩ => ⟨he, h.drawn hd⟩
theorem part27_st (h : St l w0 w) (k : Nat) {A : Option Addr} {c : Nat} (e : l[k]? = some (SL.row k99 99 (.slice A rs.length c) (cv rs))) (hk : Oks rs) : Calls Try.prog 43 #[.slice A rs.length c, .int .i64 a, .int .i64 b] w fun e w' => ∃ A2 c2, e = .returned (.slice A2 (partR rs a b).length c2) ∧ St (SL.row k99 99 (.slice A2 (partR rs a b).length c2) (cv (partR rs a b)) :: l) w0 w' := by
  obtain ⟨A', c', hv, hc, hC⟩ := h.rowC k e
  injection hv with q1 _ q3
  subst q1 q3
  have := countwheelref27_Part.calls (3 * rs.length + 6) A c (cv rs) a b _ w hC hc (part_is hk _ a b (Nat.le_refl _))
  rw [cv_len] at this
  refine this.mono ?_
  rintro e w' ⟨v, rfl, hR, hB⟩
  have hS := h.row hR hB
  obtain ⟨A2, c2, hv, _⟩ := hS.rowC 0 rfl
  rw [cv_len] at hv
  subst hv
  exact ⟨_, _, rfl, hS⟩
theorem same27_st (h : St l w0 w) (i j : Nat) {A A2 : Option Addr} {c c2 : Nat} (e : l[i]? = some (SL.row k95 95 (.slice A rs.length c) rs)) (e2 : l[j]? = some (SL.row k99 99 (.slice A2 rs.length c2) (cv rs))) (hk : Oks rs) : Calls Try.prog 41 #[.slice A rs.length c, .slice A2 rs.length c2] w fun e w' => e = .returned (.bool true) ∧ St l w0 w' := by
  obtain ⟨A', c', hv, hc, hC⟩ := h.rowC i e
  injection hv with q1 _ q3
  subst q1 q3
  obtain ⟨A', c', hv, hc2, hC2⟩ := h.rowC j e2
  injection hv with q1 _ q3
  subst q1 q3
  have := countwheellaw27_same.calls (rs.length + 1) A c rs A2 c2 (cv rs) true w hC hc hC2 hc2 (same_is _ (Nat.le_refl _) (by have := hk.len; omega))
  rw [cv_len] at this
  exact this.mono fun _ _ ⟨he, hd⟩ => ⟨he, h.drawn hd⟩
end Go.Proofs.Ytolokohgphdngaa.Str
