/- slices.Backward over windows: its closure's contract, for every loop body that keeps what lay below. -/
import Derived.RangeFuncNested
import Derived.RangeFuncBound
import Derived.RangeFuncCalls
import Derived.RangeFuncLeaves
import Derived.Shelf.Abstract
import Derived.Shelf.RegionOpen
import Derived.WalkKit
import Derived.OwnWalkIn
import Derived.TacticsInMore
import Derived.LoopNIn
import Derived.LoopIn
import Derived.Test.YtolokohgphdngaaProg
import Derived.Test.YtolokohgphdngaaSle
namespace Go.Proofs.Ytolokohgphdngaa.Win
open Go.RowKit Go.Shelf Go.Proofs.YtolokohgphdngaaW.PrintWords Go.Proofs.YtolokohgphdngaaW.PrintLast Go.Proofs.YtolokohgphdngaaW.PrintMore Go.Proofs.Ytolokohgphdngaa.Mine
set_option linter.unusedVariables false
set_option linter.unusedSimpArgs false
attribute [local go_sem] Oper.semAt_some
/-- A window. -/
structure Wn where
  id : Int
  off : Int
  len : Int
def Wn.cells (x : Wn) : List Value := [.int .i64 x.id, .int .i64 x.off, .int .i64 x.len]
def Wn.agg (x : Wn) : Value := .agg #[.int .i64 x.id, .int .i64 x.off, .int .i64 x.len]
/-- The windows from the last one on, each with its number. -/
def back (zs : List Wn) (k : Nat) : List (Nat × Wn) := (List.range k).map fun j => (zs.length - 1 - j, zs.getD (zs.length - 1 - j) ⟨0, 0, 0⟩)
theorem back_succ (zs : List Wn) (k : Nat) : back zs (k + 1) = back zs k ++ [(zs.length - 1 - k, zs.getD (zs.length - 1 - k) ⟨0, 0, 0⟩)] := by simp [back, List.range_succ]
theorem back_len (zs : List Wn) (k : Nat) : (back zs k).length = k := by simp [back]
/-- What a round keeps: all that lay below, and the iterator's own box. -/
def Keeps (n₀ Bn : Nat) (A B : World) : Prop := Below n₀ A B ∧ B.heap[Bn]? = A.heap[Bn]?
theorem Keeps.trans {n₀ Bn : Nat} {A B C : World} (h : Keeps n₀ Bn A B) (k : Keeps n₀ Bn B C) : Keeps n₀ Bn A C := ⟨h.1.trans k.1, k.2.trans h.2⟩
theorem Keeps.refl (n₀ Bn : Nat) (A : World) : Keeps n₀ Bn A A := ⟨Below.refl _ _, rfl⟩
theorem Keeps.box {n₀ Bn : Nat} {A B : World} (h : Keeps n₀ Bn A B) {i : Nat} : B.cell? ⟨Bn, i, none⟩ = A.cell? ⟨Bn, i, none⟩ := by unfold World.cell?; rw [h.2]
theorem keeps_b {n₀ Bn : Nat} {w : World} (hn : n₀ ≤ w.heap.size) (hB : Bn < w.heap.size) (W : World) (l : Nat) (o o' : Obj) (hl : w.heap.size ≤ l) (h : W.heap[l]? = some o) (h1 : o.isCells = false) (h2 : o.isWalk = false) : Keeps n₀ Bn W (W.putObj l o') :=
  ⟨belowK_b hn W l o o' hl h h1 h2, World.putObj_heap_other (by omega)⟩
/-- A slice of windows in a block below n₀; or none. -/
def Holds (n₀ : Nat) (W : World) (sv : Value) (zs : List Wn) : Prop :=
  (sv = .slice none 0 0 ∧ zs = []) ∨ ∃ b off cap, sv = .slice (some ⟨b, off, none⟩) zs.length cap ∧ b < n₀ ∧ ∀ j, j < zs.length → W.cell? ⟨b, off + j * 3, none⟩ = some (.int .i64 (zs.getD j ⟨0, 0, 0⟩).id) ∧ W.cell? ⟨b, off + j * 3 + 1, none⟩ = some (.int .i64 (zs.getD j ⟨0, 0, 0⟩).off) ∧ W.cell? ⟨b, off + j * 3 + 2, none⟩ = some (.int .i64 (zs.getD j ⟨0, 0, 0⟩).len)
theorem Holds.below {n₀ : Nat} {A B : World} (h : Below n₀ A B) {sv : Value} {zs : List Wn} : Holds n₀ A sv zs → Holds n₀ B sv zs
  | .inl e => .inl e
  | .inr ⟨b, off, cap, e, hb, hc⟩ => .inr ⟨b, off, cap, e, hb, fun j hj => ⟨(h.cell (p := ⟨b, off + j * 3, none⟩) hb).trans (hc j hj).1, (h.cell (p := ⟨b, off + j * 3 + 1, none⟩) hb).trans (hc j hj).2.1, (h.cell (p := ⟨b, off + j * 3 + 2, none⟩) hb).trans (hc j hj).2.2⟩⟩
theorem Holds.mono {n₀ n₁ : Nat} {A : World} {sv : Value} {zs : List Wn} (h : Holds n₀ A sv zs) (hn : n₀ ≤ n₁) : Holds n₁ A sv zs :=
  h.elim .inl (fun ⟨b, off, cap, e, hb, hc⟩ => .inr ⟨b, off, cap, e, by omega, hc⟩)
set_option maxRecDepth 100000 in
set_option maxHeartbeats 2000000 in
theorem bwd1_in (F : Fence) (n : Nat) (hf : F.fn 87) (hro : F.round = none) (hn : 1 ≤ n) (l Bn n₀ b off cap : Nat) (zs : List Wn) (hreach : zs.length ≤ 1000000) (hb : b < n₀) (J Jx : List (Nat × Wn) → World → Prop)
    (hY : ∀ pre x W, J pre W → pre.length < zs.length → YieldAt F (n - 1) Try.prog l #[.int .i64 (x.1 : Int), x.2.agg] W fun e W' =>
      (e = .returned (.bool true) ∧ J (pre ++ [x]) W' ∧ Keeps n₀ Bn W W') ∨ (e = .returned (.bool false) ∧ Jx (pre ++ [x]) W'))
    (W : World) (hBn : W.cell? ⟨Bn, 0, none⟩ = some (.slice (some ⟨b, off, none⟩) zs.length cap))
    (hc : ∀ j, j < zs.length → W.cell? ⟨b, off + j * 3, none⟩ = some (.int .i64 (zs.getD j ⟨0, 0, 0⟩).id) ∧ W.cell? ⟨b, off + j * 3 + 1, none⟩ = some (.int .i64 (zs.getD j ⟨0, 0, 0⟩).off) ∧ W.cell? ⟨b, off + j * 3 + 2, none⟩ = some (.int .i64 (zs.getD j ⟨0, 0, 0⟩).len)) (h0 : J [] W) :
    CallsIn F n Try.prog 87 #[.func (.yield l) #[] #[], .pointer (some ⟨Bn, 0, none⟩)] W fun e W' => (∃ v, e = .returned v) ∧
      ((∃ ys, ys = back zs zs.length ∧ J ys W') ∨ (∃ pre, (∃ k, k ≤ zs.length ∧ pre = back zs k) ∧ Jx pre W')) := by
  have hw0 : wrap64 ((zs.length : Int) - 1) = (zs.length : Int) - 1 := by unfold wrap64; omega
  refine callsIn_of_wp Try.func87 rfl hf ?_ hro
  simp only [Try.ntmps87, List.size_toArray, List.length_cons, List.length_nil, Nat.reduceAdd, Nat.reduceSub, Array.replicate_succ, Array.replicate_zero, List.push_toArray, List.append_toArray, List.nil_append, List.cons_append]
  gi_wp2
  gi_loopw [3] (fun i wr => ∃ k : Nat, k ≤ zs.length ∧ i = .int .i64 ((zs.length : Int) - 1 - k) ∧ J (back zs k) wr ∧ Keeps n₀ Bn W wr) (fun i _ => ((intOf i) + 1).toNat)
  case atStart => exact ⟨0, Nat.zero_le _, by simp, h0, Keeps.refl _ _ _⟩
  case round =>
    clear hw0
    obtain ⟨k, hk, rfl, hJs, hnx⟩ := hrel
    have hbx := hnx.box (i := 0)
    rw [hBn] at hbx
    by_cases hlt : k < zs.length
    · obtain ⟨c0, c1, c2⟩ := hc (zs.length - 1 - k) (by omega)
      have d0 := (hnx.1.cell (p := ⟨b, off + (zs.length - 1 - k) * 3, none⟩) hb).trans c0
      have d1 := (hnx.1.cell (p := ⟨b, off + (zs.length - 1 - k) * 3 + 1, none⟩) hb).trans c1
      have d2 := (hnx.1.cell (p := ⟨b, off + (zs.length - 1 - k) * 3 + 2, none⟩) hb).trans c2
      clear c0 c1 c2
      have hn1 := back_succ zs k
      have hi : ((zs.length : Int) - 1 - k) = ((zs.length - 1 - k : Nat) : Int) := by omega
      have hil : (((zs.length - 1 - k : Nat) : Int) < (zs.length : Int)) = True := eq_true (by omega)
      have hi0 : (0 ≤ ((zs.length - 1 - k : Nat) : Int)) = True := eq_true (by omega)
      rw [hi]
      have hw1 : wrap64 (((zs.length - 1 - k : Nat) : Int) - 1) = (zs.length : Int) - 1 - ((k + 1 : Nat) : Int) := by unfold wrap64; omega
      have hm : (((zs.length : Int) - 1 - ((k + 1 : Nat) : Int)) + 1).toNat < (((zs.length - 1 - k : Nat) : Int) + 1).toNat := by omega
      obtain ⟨fn, tmps, assign, body, hy, hR⟩ := hY _ (zs.length - 1 - k, zs.getD (zs.length - 1 - k) ⟨0, 0, 0⟩) wr hJs (by rw [back_len]; exact hlt)
      dsimp only [Wn.agg] at hy
      generalize zs.getD (zs.length - 1 - k) ⟨0, 0, 0⟩ = x at *
      generalize zs.length - 1 - k = i at *
      have hz := Go.Lib.hid hn1
      clear hn1 hi
      gi_wp2
      refine hR.mono ?_
      rintro e W3 (⟨rfl, hJ3, hk3⟩ | ⟨rfl, hJx3⟩)
      · gi_wp2
        go_roundw
        case rel => exact ⟨k + 1, by omega, by rw [hw1], by rw [hz.out]; exact hJ3, hnx.trans hk3⟩
        case measure => generalize wrap64 ((i : Int) - 1) = z at hw1 ⊢; subst hw1; simp only [intOf]; exact hm
      · gi_wp2
        refine bodyPost_ret (results_none rfl _ _ _) rfl ?_
        exact ⟨⟨_, rfl⟩, .inr ⟨_, ⟨k + 1, by omega, hz.out.symm⟩, hJx3⟩⟩
    · obtain rfl : k = zs.length := by omega
      have hi0 : (0 ≤ ((zs.length : Int) - 1 - (zs.length : Int))) = False := eq_false (by omega)
      gi_wp2
      go_end0
      exact ⟨⟨_, rfl⟩, .inl ⟨_, rfl, hJs⟩⟩
set_option maxRecDepth 100000 in
set_option maxHeartbeats 1000000 in
/-- .. at the nil slice: no round. -/
theorem bwd1_nil_in (F : Fence) (n : Nat) (hf : F.fn 87) (hro : F.round = none) (l Bn : Nat) (J : List (Nat × Wn) → World → Prop) (W : World) (hBn : W.cell? ⟨Bn, 0, none⟩ = some (.slice none 0 0)) (h0 : J [] W) :
    CallsIn F n Try.prog 87 #[.func (.yield l) #[] #[], .pointer (some ⟨Bn, 0, none⟩)] W fun e W' => (∃ v, e = .returned v) ∧ J [] W' := by
  refine callsIn_of_wp Try.func87 rfl hf ?_ hro
  simp only [Try.ntmps87, List.size_toArray, List.length_cons, List.length_nil, Nat.reduceAdd, Nat.reduceSub, Array.replicate_succ, Array.replicate_zero, List.push_toArray, List.append_toArray, List.nil_append, List.cons_append]
  gi_wp2
  gi_loopw [3] (fun i wr => i = .int .i64 (-1) ∧ J [] wr) (fun _ _ => 0)
  case atStart => exact ⟨rfl, h0⟩
  case round =>
    obtain ⟨rfl, hJs⟩ := hrel
    gi_wp2
    go_end0
    exact ⟨⟨_, rfl⟩, hJs⟩
/-- slices.Backward's value: all windows come, from the last one on. -/
theorem bwd_stops (F : Fence) (n : Nat) (hf : F.fn 87) (hro : F.round = none) (hn : 1 ≤ n) (Bn n₀ : Nat) (sv : Value) (zs : List Wn) (hreach : zs.length ≤ 1000000) (w : World) (hBn : Bn < w.heap.size) (hn₀ : n₀ ≤ w.heap.size)
    (hc : w.cell? ⟨Bn, 0, none⟩ = some sv) (hI : Holds n₀ w sv zs) :
    SeqStopsK F n Try.prog 87 #[.pointer (some ⟨Bn, 0, none⟩)] (fun x : Nat × Wn => #[Value.int .i64 (x.1 : Int), x.2.agg]) (Keeps n₀ Bn) (fun ys => ys = back zs zs.length) (fun pre => True) zs.length w := fun l J Jx W hW _ _ hY h0 => by
  have hc' := (hW.cell (p := ⟨Bn, 0, none⟩) hBn).trans hc
  rcases hI.below (hW.mono hn₀) with ⟨rfl, rfl⟩ | ⟨b, off, cap, rfl, hb, hcs⟩
  · exact (bwd1_nil_in F n hf hro l Bn J W hc' h0).mono fun e W' ⟨he, hj⟩ => ⟨he, .inl ⟨_, rfl, hj⟩⟩
  · refine (bwd1_in F n hf hro hn l Bn n₀ b off cap zs hreach hb J Jx hY W hc' hcs h0).mono ?_
    rintro e W' ⟨he, ⟨ys, rfl, hj⟩ | ⟨pre, ⟨k, hk, rfl⟩, hj⟩⟩
    · exact ⟨he, .inl ⟨_, rfl, hj⟩⟩
    · exact ⟨he, .inr ⟨_, trivial, hj⟩⟩
set_option maxHeartbeats 1000000 in
set_option maxRecDepth 100000 in
/-- slices.Backward: the slice is boxed, the function holds the box. -/
theorem bwd_in (F : Fence) (n : Nat) (hf : F.fn 85) (hro : F.round = none) (a : Option Addr) (len cap : Nat) (w : World) :
    CallsIn F n Try.prog 85 #[.slice a len cap] w fun e w' => e = .returned (.func (.func 87) #[] #[.pointer (some ⟨w.heap.size, 0, none⟩)]) ∧ w' = w.alloc (.cells #[.slice a len cap] 131) := by
  refine callsIn_of_wp Try.func85 rfl hf ?_ hro
  simp only [Try.ntmps85, List.size_toArray, List.length_cons, List.length_nil, Nat.reduceAdd, Nat.reduceSub, Array.replicate_succ, Array.replicate_zero, List.push_toArray, List.append_toArray, List.nil_append, List.cons_append]
  gi_wp2
  go_ret
  exact ⟨rfl, rfl⟩
end Go.Proofs.Ytolokohgphdngaa.Win
