/- A partition that is given, and the laws' calls, opened; what changes of a partition's state. -/
import Derived.Test.YtkmhgolohppliaaPrt3
import Derived.Lib.SmallJoins
import Derived.Test.YtkmhgolohppliaaOpn
namespace Go.Proofs.Ytkmhgolohppliaa.Prt
open Go.RowKit Go.WideShapes Go.ChangeShapes Go.Deep Go.Joins Go.Proofs.Ytkmhgolohppliaa.PCellsPlays Go.Proofs.YtkmhgolohppliaaW.PrintWords Go.Proofs.YtkmhgolohppliaaW.PrintLast Go.Proofs.YtkmhgolohppliaaW.PrintMore Go.Proofs.Ytkmhgolohppliaa.Mine Go.Proofs.Ytkmhgolohppliaa.Cel Go.Proofs.Ytkmhgolohppliaa.Cls
open Go.Proofs.Ytkmhgolohppliaa.Sl (SL Stp St No)
open Go.Proofs.Ytkmhgolohppliaa.Mod (strt actM runs right askd)
set_option linter.unusedVariables false
set_option linter.unusedSimpArgs false
attribute [local go_sem] max2_int min2_int max_two min_two max_three min_three max_four min_four
set_option maxRecDepth 100000
variable {l : List SL} {w0 w : World} {g : Nat} {id : Int} {name : ByteArray} {may : Bool} {fst : List S43} {s : PS}
/-- A call of the law: its kind, its place, its number. -/
structure S67 where
  f0 : Int
  f1 : Int
  f2 : Int
def z67 : S67 := ⟨0, 0, 0⟩
def k67 : Kd S67 := Kd.iso (Kd.pair (Kd.int .i64) (Kd.pair (Kd.int .i64) (Kd.int .u32))) (fun x : S67 => (x.f0, x.f1, x.f2))
theorem k67_open {w : World} {x : S67} {cs : List Value} (h : k67.K w x cs) : cs = [.int .i64 x.f0, .int .i64 x.f1, .int .u32 x.f2] := by
  obtain ⟨_, _, rfl, rfl, ⟨_, _, rfl, rfl, rfl⟩⟩ := h
  exact rfl
theorem k67_mk (w : World) (x : S67) : k67.K w x [.int .i64 x.f0, .int .i64 x.f1, .int .u32 x.f2] := ⟨[.int .i64 x.f0], [.int .i64 x.f1, .int .u32 x.f2], rfl, rfl, ⟨[.int .i64 x.f1], [.int .u32 x.f2], rfl, rfl, rfl⟩⟩
def rd_T67 (xs : List S67) (i : Int) : S67 := xs.getD i.toNat z67
theorem at_T67 {w : World} {A : Option Addr} {n : Nat} {xs : List S67} (h : Kd.C k67 w A n xs) (i : Int) (h0 : 0 ≤ i) (h1 : i < n) : ∃ ad , A = some ad ∧ w.cell? (ad.add (i.toNat * 3)) = some (.int .i64 (rd_T67 xs i).f0) ∧
    w.cell? ⟨(ad.add (i.toNat * 3)).block, (ad.add (i.toNat * 3)).off + 1, none⟩ = some (.int .i64 (rd_T67 xs i).f1) ∧
    w.cell? ⟨(ad.add (i.toNat * 3)).block, (ad.add (i.toNat * 3)).off + 2, none⟩ = some (.int .u32 (rd_T67 xs i).f2) := by
  obtain ⟨ad, c, e, _, hK, hc0⟩ := Kd.C_get h z67 i h0 h1
  have hc : ∀ j u, c[j]? = some u → w.cell? (ad.add (i.toNat * 3 + j)) = some u := hc0
  obtain rfl := k67_open hK
  exact ⟨ad, e, hc 0 _ rfl, by rw [← add_field _ _ 1 (by omega)]; exact hc 1 _ rfl, by rw [← add_field _ _ 2 (by omega)]; exact hc 2 _ rfl⟩
theorem open64 {H : Type} {enc : TypeId × Value → H} {w : World} {base b0 : Nat} {spare : Nat → Bool} {held : Bool} {r : Go.Reach} {v : Value} {x : DataW H} {p : List MemPlace} (hv : Value.okWide Try.prog w r b0 64 v)
    (h : DataW.Trod enc Try.prog w base spare held 64 v x p) : ∃ A n c, v = .slice A n c ∧ ∃ xs, n ≤ c ∧ k67.C w A n xs ∧ ∀ z ∈ xs, (Lit.int .i64 z.f0).wf = true ∧ (Lit.int .i64 z.f1).wf = true ∧ (Lit.int .u32 z.f2).wf = true := by
  obtain ⟨A, n, c, rfl⟩ := okWide_slice Try.underlying64 hv
  obtain ⟨fuel, hf⟩ := h
  obtain ⟨A', n', c', hcs, hl, xs, hC, hg⟩ := Opn.open_row k67 (fun z => (Lit.int .i64 z.f0).wf = true ∧ (Lit.int .i64 z.f1).wf = true ∧ (Lit.int .u32 z.f2).wf = true) Try.underlying64 (by kernel_rfl) (fun n cs' y hy hlen => by
    obtain ⟨m, hfs⟩ := Opn.fields_of Try.underlying67 (by kernel_rfl) hy
    match cs', hlen with
    | [c0, c1, c2], _ =>
      obtain ⟨y0, h0⟩ := hfs 0 _ c0 rfl rfl
      obtain ⟨y1, h1⟩ := hfs 1 _ c1 rfl rfl
      obtain ⟨y2, h2⟩ := hfs 2 _ c2 rfl rfl
      obtain ⟨n0, e0, _, w0⟩ := DataW.trod_int Try.underlying3 h0
      obtain ⟨n1, e1, _, w1⟩ := DataW.trod_int Try.underlying3 h1
      obtain ⟨n2, e2, _, w2⟩ := DataW.trod_int Try.underlying39 h2
      obtain rfl : c0 = _ := by simpa using e0
      obtain rfl : c1 = _ := by simpa using e1
      obtain rfl : c2 = _ := by simpa using e2
      exact ⟨⟨n0, n1, n2⟩, k67_mk _ _, w0, w1, w2⟩) hf
  simp [Value.cells] at hcs
  obtain ⟨rfl, rfl, rfl⟩ := hcs
  exact ⟨_, _, _, rfl, xs, hl, hC, hg⟩

theorem open63 {H : Type} {enc : TypeId × Value → H} {w : World} {base b0 : Nat} {spare : Nat → Bool} {held : Bool} {r : Go.Reach} {v : Value} {x : DataW H} {p : List MemPlace} (hv : Value.okWide Try.prog w r b0 63 v)
    (h : DataW.Trod enc Try.prog w base spare held 63 v x p) : ∃ id name may A n c xs, v = .agg #[.int .i64 id, .string name, .bool may, .slice A n c] ∧ n ≤ c ∧ k43.C w A n xs ∧ name.size ≤ maxLen ∧ (Lit.int .i64 id).wf = true ∧ ∀ z ∈ xs, (Lit.int .u32 z.f0).wf = true := by
  obtain ⟨v0, v1, v2, v3, y0, y1, y2, y3, n, rfl, _, _, h0, h1, h2, h3⟩ := open_agg4 Try.underlying63 (by kernel_rfl) (by kernel_rfl) hv h
  obtain ⟨id, e0, _, w0⟩ := DataW.trod_int Try.underlying3 h0
  obtain ⟨name, e1, _, w1⟩ := DataW.trod_string Try.underlying9 h1
  obtain ⟨may, e2, _⟩ := DataW.trod_bool Try.underlying4 h2
  obtain rfl : v0 = _ := by simpa using e0
  obtain rfl : v1 = _ := by simpa using e1
  obtain rfl : v2 = _ := by simpa using e2
  obtain ⟨A', n', c', hcs, hl, xs, hC, hg⟩ := Opn.open_row k43 (fun z => (Lit.int .u32 z.f0).wf = true) Try.underlying35 (by kernel_rfl) (fun n cs' y hy hlen => by
    obtain ⟨m, hfs⟩ := Opn.fields_of Try.underlying43 (by kernel_rfl) hy
    match cs', hlen with
    | [c0, c1], _ =>
      obtain ⟨y0, h0⟩ := hfs 0 _ c0 rfl rfl
      obtain ⟨y1, h1⟩ := hfs 1 _ c1 rfl rfl
      obtain ⟨n0, e0, _, w0⟩ := DataW.trod_int Try.underlying39 h0
      obtain ⟨b1, e1, _⟩ := DataW.trod_bool Try.underlying4 h1
      obtain rfl : c0 = _ := by simpa using e0
      obtain rfl : c1 = _ := by simpa using e1
      exact ⟨⟨n0, b1⟩, k43_mk _ _, w0⟩) h3
  obtain rfl : v3 = _ := by simpa using hcs
  exact ⟨id, name, may, A', n', c', xs, rfl, hl, hC, w1, w0, hg⟩
theorem become_wr (fst : List S43) (s : PS) (m st c : Int) (h : 0 ≤ s.wr) : 0 ≤ (s.become fst m st c).wr ∧ (s.become fst m st c).wr ≤ s.wr := by
  unfold PS.become; split <;> (try split) <;> simp <;> omega
theorem become_starts (fst : List S43) (s : PS) (m st c : Int) : (s.become fst m st c).starts = if st = 0 then s.starts else s.starts + 1 := by
  unfold PS.become; split <;> (try split) <;> simp_all
theorem become_cause (fst : List S43) (s : PS) (m st c : Int) : (s.become fst m st c).cause = if st = 0 then s.cause else c := by
  unfold PS.become; split <;> (try split) <;> simp_all
theorem become_len (fst : List S43) (s : PS) (m st c : Int) (h : s.now.length = fst.length) : (s.become fst m st c).now.length = fst.length := by
  unfold PS.become; split <;> (try split) <;> simp [back_len, h]
theorem setMode_wr (fst : List S43) (s : PS) (want : Int) (h : 0 ≤ s.wr) : 0 ≤ (s.setMode fst want).wr ∧ (s.setMode fst want).wr ≤ s.wr := by
  unfold PS.setMode; split
  · exact become_wr _ _ _ _ _ h
  · exact ⟨h, Int.le_refl _⟩
theorem act_wr (fst : List S43) (s : PS) (a : Int) (h : 0 ≤ s.wr) : 0 ≤ (s.act fst a).wr ∧ (s.act fst a).wr ≤ s.wr := by
  unfold PS.act; split
  · exact ⟨h, Int.le_refl _⟩
  · exact become_wr _ _ _ _ _ h
theorem write_wr (s : PS) (i x : Int) (h : 0 ≤ s.wr) : 0 ≤ (s.write i x).wr ∧ (s.write i x).wr ≤ s.wr + 1 := by
  unfold PS.write; split
  · exact ⟨setM_lo _ _ _ h, setM_hi _ _ _ _ (Int.le_refl _)⟩
  · exact ⟨h, by omega⟩
theorem setMode_len (fst : List S43) (s : PS) (want : Int) (h : s.now.length = fst.length) : (s.setMode fst want).now.length = fst.length := by
  unfold PS.setMode; split
  · exact become_len _ _ _ _ _ h
  · exact h
theorem act_len (fst : List S43) (s : PS) (a : Int) (h : s.now.length = fst.length) : (s.act fst a).now.length = fst.length := by
  unfold PS.act; split
  · exact h
  · exact become_len _ _ _ _ _ h
theorem write_len (fst : List S43) (s : PS) (i x : Int) (h : s.now.length = fst.length) : (s.write i x).now.length = fst.length := by
  unfold PS.write; split
  · exact (setN_len _ _ _).trans h
  · exact h
theorem write_starts (s : PS) (i x : Int) : (s.write i x).starts = s.starts ∧ (s.write i x).cause = s.cause ∧ (s.write i x).mode = s.mode := by
  unfold PS.write; split <;> simp
theorem mset_ok_start (now want : Int) (h : (mset now want).2.2 = 0) : (mset now want).2.1 = strt want := by
  unfold mset Go.Proofs.Ytkmhgolohppliaa.Mod.setM at h ⊢
  split
  · rfl
  · rename_i hn; rw [if_neg hn] at h; exact absurd h hn
theorem setMode_grant (fst : List S43) (s : PS) (want : Int) (h : (mset s.mode want).2.2 = 0) (hw : want = 1 ∨ want = 2) : (s.setMode fst want).starts = s.starts + 1 ∧ (s.setMode fst want).cause = 1 := by
  unfold PS.setMode
  rw [if_pos h, become_starts, become_cause, mset_ok_start _ _ h]
  rcases hw with rfl | rfl <;> simp [strt]
theorem setMode_plain (fst : List S43) (s : PS) (want : Int) (hw : (mset s.mode want).2.2 ≠ 0 ∨ (want ≠ 1 ∧ want ≠ 2)) : (s.setMode fst want).starts = s.starts ∧ (s.setMode fst want).cause = s.cause := by
  unfold PS.setMode
  split
  · rename_i h
    have hw2 := hw.resolve_left (fun hn => hn h)
    rw [become_starts, become_cause, mset_ok_start _ _ h]
    simp [strt, hw2.1, hw2.2]
  · exact ⟨rfl, rfl⟩
theorem act_grant (fst : List S43) (s : PS) (a : Int) (h : (actM s.mode a).2.1 ≠ 0) : (s.act fst a).starts = s.starts + 1 ∧ (s.act fst a).cause = 2 := by
  unfold PS.act
  rw [if_neg h, become_starts, become_cause, if_neg h, if_neg h]; exact ⟨rfl, rfl⟩
theorem act_plain (fst : List S43) (s : PS) (a : Int) (h : (actM s.mode a).2.1 = 0) : (s.act fst a) = s := by
  unfold PS.act
  rw [if_pos h]
theorem setMode_code (h : St l w0 w) (k : Nat) (e : l[k]? = some (part g id name may fst s)) (want c3 : Int) (hc : c3 = (mset s.mode want).2.2) (hs0 : 0 ≤ s.starts) (hs1 : s.starts ≤ 1000000) (hn : fst.length ≤ 1000000) : Calls Try.prog 40 #[.pointer (some ⟨g, 0, none⟩), .int .i64 want] w fun e w' => e = .returned (.int .i64 c3) ∧ St (l.set k (part g id name may fst (s.setMode fst want))) w0 w' := by
  rw [hc]; exact setMode_at h k e want hs0 hs1 hn
theorem act_told (h : St l w0 w) (k : Nat) (e : l[k]? = some (part g id name may fst s)) (want : Int) (b : Bool) (hb : b = !decide ((actM s.mode want).2.1 = 0)) (hs0 : 0 ≤ s.starts) (hs1 : s.starts ≤ 1000000) (hn : fst.length ≤ 1000000) : Calls Try.prog 41 #[.pointer (some ⟨g, 0, none⟩), .int .i64 want] w fun e w' => e = .returned (.bool b) ∧ St (l.set k (part g id name may fst (s.act fst want))) w0 w' := by
  rw [hb]; exact act_at h k e want hs0 hs1 hn
theorem starts_is (h : St l w0 w) (n : Nat) (e : l[n]? = some (part g id name may fst s)) (k : Int) (hk : s.starts = k) : Calls Try.prog 43 #[.pointer (some ⟨g, 0, none⟩)] w fun e w' => e = .returned (.int .i64 k) ∧ w = w' := by
  rw [← hk]; exact starts_st h n e
theorem cause_is (h : St l w0 w) (n : Nat) (e : l[n]? = some (part g id name may fst s)) (k : Int) (hk : s.cause = k) : Calls Try.prog 44 #[.pointer (some ⟨g, 0, none⟩)] w fun e w' => e = .returned (.int .i64 k) ∧ w = w' := by
  rw [← hk]; exact cause_st h n e
end Go.Proofs.Ytkmhgolohppliaa.Prt
