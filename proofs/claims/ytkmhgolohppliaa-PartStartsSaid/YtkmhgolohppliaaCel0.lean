/- Cells: a partition's numbers in memory, and what each call of them comes to. -/
import Derived.Test.YtkmhgolohppliaaPCellsPlaysx0
import Derived.Test.YtkmhgolohppliaaMine
import Derived.OpenShut
namespace Go.Proofs.Ytkmhgolohppliaa.Cel
open Go.RowKit Go.Proofs.Ytkmhgolohppliaa.PCellsPlays Go.Proofs.YtkmhgolohppliaaW.PrintWords Go.Proofs.YtkmhgolohppliaaW.PrintLast Go.Proofs.YtkmhgolohppliaaW.PrintMore Go.Proofs.Ytkmhgolohppliaa.Mine
set_option linter.unusedVariables false
set_option linter.unusedSimpArgs false

/-- What a call keeps: all but the blocks of S, and what is new. -/
structure Chg (S : Nat → Prop) (w w' : World) : Prop where
  os : w'.os = w.os
  tape : w'.tape = w.tape
  output : w'.output = w.output
  size : w.heap.size ≤ w'.heap.size
  block : ∀ i, i < w.heap.size → ¬ S i → w'.heap[i]? = w.heap[i]?
section
variable {S S2 : Nat → Prop} {w w1 w2 : World}
theorem Chg.refl (S : Nat → Prop) (w : World) : Chg S w w := ⟨rfl, rfl, rfl, Nat.le_refl _, fun _ _ _ => rfl⟩
theorem Chg.of_below (h : Below w.heap.size w w1) : Chg S w w1 := ⟨h.os, h.tape, h.output, h.size, fun i hi _ => h.block i hi⟩
theorem Chg.trans (h : Chg S w w1) (k : Chg S2 w1 w2) (hs : ∀ i, S2 i → S i ∨ w.heap.size ≤ i) : Chg S w w2 :=
  ⟨k.os.trans h.os, k.tape.trans h.tape, k.output.trans h.output, Nat.le_trans h.size k.size, fun i hi hn =>
    (k.block i (Nat.lt_of_lt_of_le hi h.size) (fun h2 => (hs i h2).elim hn (fun h3 => by omega))).trans (h.block i hi hn)⟩
theorem Chg.same (h : Chg S w w1) (k : Chg S w1 w2) : Chg S w w2 := h.trans k (fun _ hk => .inl hk)
theorem Chg.then_below (h : Chg S w w1) (k : Below w1.heap.size w1 w2) : Chg S w w2 := h.trans (S2 := fun _ => False) (Chg.of_below k) (fun _ hk => hk.elim)
theorem Chg.drewN (h : Chg S w w1) (n : Nat) : Chg S w (w1.drewN n) := ⟨h.os, h.tape, h.output, h.size, h.block⟩
theorem Chg.drew (h : Chg S w w1) : Chg S w w1.drew := ⟨h.os, h.tape, h.output, h.size, h.block⟩
theorem Chg.alloc (h : Chg S w w1) (o : Obj) : Chg S w (w1.alloc o) := h.then_below (below_alloc (Below.refl _ _) o)
theorem Chg.setCell (h : Chg S w w1) {p : Addr} (hp : S p.block ∨ w.heap.size ≤ p.block) (u : Value) : Chg S w (w1.setCell p u) :=
  ⟨h.os, h.tape, h.output, by simpa [World.setCell] using h.size, fun i hi hn => (Below.heap_setCell w1 p u i (by rintro rfl; rcases hp with hp | hp; exact hn hp; omega)).trans (h.block i hi hn)⟩
theorem Chg.mono (h : Chg S w w1) (hs : ∀ i, S i → S2 i) : Chg S2 w w1 := ⟨h.os, h.tape, h.output, h.size, fun i hi hn => h.block i hi (fun hk => hn (hs i hk))⟩
/-- What came in stays, if all that was changed is younger. -/
theorem Below.chg {B : Nat} (h : Below B w w1) (k : Chg S w1 w2) (hs : ∀ i, S i → B ≤ i) (hB : B ≤ w1.heap.size) : Below B w w2 :=
  ⟨k.os.trans h.os, k.tape.trans h.tape, k.output.trans h.output, Nat.le_trans h.size k.size, fun i hi =>
    (k.block i (Nat.lt_of_lt_of_le hi hB) (fun hk => by have := hs i hk; omega)).trans (h.block i hi)⟩
theorem blk_chg {g : Nat} {o : Obj} (hb : w.heap[g]? = some o) (k : Chg S w w1) (hn : ¬ S g) : w1.heap[g]? = some o := (k.block g (blk_lt hb) hn).trans hb
theorem R_chg {α : Type} {d : Kd α} {e base : Nat} {ok : Nat → Prop} {v : Value} {xs : List α} (h : d.R e w base ok v xs) (k : Chg S w w1) (hok : ∀ i, ok i → ¬ S i) : d.R e w1 base ok v xs :=
  Kd.R_step h (fun i ho hi => k.block i hi (hok i ho))
end

/-- Cells: the struct in block g, what they are at first in v1, what they are now in v2, how often they were written. -/
structure IsCells (w : World) (base g : Nat) (v1 v2 : Value) (fst : List S43) (now : List Int) (wr : Int) : Prop where
  blk : w.heap[g]? = some (.cells #[v1, v2, .int .i64 wr] 170 (0, 0))
  base_ : base ≤ g
  fst_ : k43.R 43 w base (fun i => v1.ownBlock = some i) v1 fst
  now_ : (Kd.int .u32).R 39 w base (fun i => v2.ownBlock = some i) v2 now
  len : now.length = fst.length
/-- The blocks that calls of cells write. -/
def Mut (g : Nat) (v2 : Value) (i : Nat) : Prop := i = g ∨ v2.ownBlock = some i
/-- All blocks of cells. -/
def All (g : Nat) (v1 v2 : Value) (i : Nat) : Prop := i = g ∨ v1.ownBlock = some i ∨ v2.ownBlock = some i
section
variable {w w1 : World} {base g : Nat} {v1 v2 : Value} {fst : List S43} {now : List Int} {wr : Int} {S : Nat → Prop}
theorem IsCells.chg (h : IsCells w base g v1 v2 fst now wr) (k : Chg S w w1) (hs : ∀ i, All g v1 v2 i → ¬ S i) : IsCells w1 base g v1 v2 fst now wr :=
  ⟨blk_chg h.blk k (hs g (.inl rfl)), h.base_, R_chg h.fst_ k (fun i hi => hs i (.inr (.inl hi))), R_chg h.now_ k (fun i hi => hs i (.inr (.inr hi))), h.len⟩
theorem IsCells.below (h : IsCells w base g v1 v2 fst now wr) (k : Below w.heap.size w w1) : IsCells w1 base g v1 v2 fst now wr :=
  h.chg (S := fun _ => False) (Chg.of_below k) (fun _ _ hf => hf)
theorem IsCells.drewN (h : IsCells w base g v1 v2 fst now wr) (n : Nat) : IsCells (w.drewN n) base g v1 v2 fst now wr := h.below (pw_below_drewN (Below.refl _ _) n)
theorem IsCells.drew (h : IsCells w base g v1 v2 fst now wr) : IsCells w.drew base g v1 v2 fst now wr := h.below (below_drew1 (Below.refl _ _))
theorem IsCells.alloc (h : IsCells w base g v1 v2 fst now wr) (o : Obj) : IsCells (w.alloc o) base g v1 v2 fst now wr := h.below (below_alloc (Below.refl _ _) o)
theorem IsCells.ge (h : IsCells w base g v1 v2 fst now wr) : ∀ i, All g v1 v2 i → base ≤ i := by
  rintro i (rfl | hi | hi)
  · exact h.base_
  · obtain ⟨inner, ho⟩ := Kd.R_own h.fst_; exact own_base ho i hi
  · obtain ⟨inner, ho⟩ := Kd.R_own h.now_; exact own_base ho i hi
theorem IsCells.lt (h : IsCells w base g v1 v2 fst now wr) : ∀ i, All g v1 v2 i → i < w.heap.size := by
  rintro i (rfl | hi | hi)
  · exact blk_lt h.blk
  · obtain ⟨inner, ho⟩ := Kd.R_own h.fst_; exact own_lt ho i hi
  · obtain ⟨inner, ho⟩ := Kd.R_own h.now_; exact own_lt ho i hi
theorem Mut.all {i : Nat} (h : Mut g v2 i) : All g v1 v2 i := h.elim .inl (fun k => .inr (.inr k))
/-- The three blocks are three. -/
theorem IsCells.ne1 (h : IsCells w base g v1 v2 fst now wr) : v1.ownBlock ≠ some g := by
  obtain ⟨inner, ho⟩ := Kd.R_own h.fst_
  intro e
  obtain ⟨c, hc⟩ := own_typed ho g e
  rw [h.blk] at hc; injection hc with hc; injection hc with _ hc; cases hc
theorem IsCells.ne2 (h : IsCells w base g v1 v2 fst now wr) : v2.ownBlock ≠ some g := by
  obtain ⟨inner, ho⟩ := Kd.R_own h.now_
  intro e
  obtain ⟨c, hc⟩ := own_typed ho g e
  rw [h.blk] at hc; injection hc with hc; injection hc with _ hc; cases hc
theorem IsCells.ne12 (h : IsCells w base g v1 v2 fst now wr) : ∀ i, v1.ownBlock = some i → v2.ownBlock ≠ some i := by
  obtain ⟨inner, ho⟩ := Kd.R_own h.fst_
  obtain ⟨inner2, ho2⟩ := Kd.R_own h.now_
  intro i e e2
  obtain ⟨c, hc⟩ := own_typed ho i e
  obtain ⟨c2, hc2⟩ := own_typed ho2 i e2
  rw [hc] at hc2; injection hc2 with hc2; injection hc2 with _ hc2; cases hc2
end
/-- Another number of writes. -/
theorem IsCells.setWr {w : World} {base g : Nat} {v1 v2 : Value} {fst : List S43} {now : List Int} {wr : Int} (h : IsCells w base g v1 v2 fst now wr) (x : Int) :
    IsCells (w.setCell ⟨g, 2, none⟩ (.int .i64 x)) base g v1 v2 fst now x :=
  ⟨by simpa using blk_set h.blk 2 (.int .i64 x), h.base_,
    Kd.R_far h.fst_ (p := ⟨g, 2, none⟩) (fun k hk => by rintro rfl; exact h.ne1 hk) _, Kd.R_far h.now_ (p := ⟨g, 2, none⟩) (fun k hk => by rintro rfl; exact h.ne2 hk) _, h.len⟩
/-- The place of a number, and another number there. -/
theorem IsCells.at_ {w : World} {base g : Nat} {v1 v2 : Value} {fst : List S43} {now : List Int} {wr : Int} (h : IsCells w base g v1 v2 fst now wr) (i : Int) (h0 : 0 ≤ i) (h1 : i < now.length) :
    ∃ b cap, v2 = .slice (some ⟨b, 0, none⟩) now.length cap ∧ now.length ≤ cap ∧ w.cell? ⟨b, i.toNat, none⟩ = some (.int .u32 (rd now i)) ∧ w.frozen? ⟨b, i.toNat, none⟩ = false ∧
      (∀ x, IsCells (w.setCell ⟨b, i.toNat, none⟩ (.int .u32 x)) base g v1 v2 fst (now.set i.toNat x) wr) := by
  have ho := Kd.own_of_R h.now_
  obtain ⟨b, cap, hv, hge, hlt⟩ := ho.form (by omega)
  subst hv
  have hle := own_le ho
  have ha := own_at_of (d := (0 : Int)) ho i h0 (by simpa using h1)
  refine ⟨b, cap, rfl, hle, ha.1, ha.2, fun x => ⟨?_, h.base_, ?_, ?_, by simpa using h.len⟩⟩
  · exact (Below.heap_setCell w ⟨b, i.toNat, none⟩ _ g (by rintro rfl; exact h.ne2 rfl)).trans h.blk
  · exact Kd.R_far h.fst_ (p := ⟨b, i.toNat, none⟩) (fun k hk => by rintro rfl; exact h.ne12 _ hk rfl) _
  · have hs := (own_store_of (enc := Value.int .u32) ho i x).1
    refine Kd.R_of_own (h1 := fun _ => rfl) ?_ (fun k hk => hk)
    simpa using hs

set_option maxHeartbeats 400000 in
theorem clone89_calls (A : Option Addr) (n c : Nat) (xs : List S43) (w : World) (hC : (k43).C w A n xs) (hn : n * 8 ≤ 140737488355328) :
    Calls Try.prog 89 #[.slice A n c] w fun e w' => ∃ v, e = .returned v ∧ (k43).R 43 w' w.heap.size (fun _ => True) v xs ∧ Below w.heap.size w w' := by
  rcases A with _ | ad
  · have h0 : n = 0 := by
      rcases Nat.eq_zero_or_pos n with h0 | h0
      · exact h0
      · obtain ⟨_, h, _⟩ := hC.2.2 h0; cases h
    subst h0
    obtain rfl : xs = [] := List.eq_nil_of_length_eq_zero hC.1
    have hq := Go.Lib.run_eql_slice_nil (P := Try.prog) w 35 43 none 0 c 0 0 Try.underlying35
    go_enter Try.func89, Try.ntmps89
    go_wp2_with fail
    go_ret
    exact ⟨_, rfl, Kd.R_nil _ _ _ _ _, Below.refl _ _⟩
  · have HC := Go.Lib.hid hC
    clear hC
    have hq := Go.Lib.run_eql_slice_nil (P := Try.prog) w 35 43 (some ad) n c 0 0 Try.underlying35
    go_enter Try.func89, Try.ntmps89
    go_wp2_with (first | (at_builtin; refine append_clone (d := k43) (flat_iso (flat_pair (flat_int .u32) flat_bool)) w rfl _ _ 35 43 (.agg #[(.int .u32 0), (.bool false)]) 8 rfl Try.underlying35 (by kernel_rfl) rfl (by decide) (by decide) xs ad n c rfl rfl HC.out hn ?_; intro v1 w1 hR1 hB1; have HR1 := Go.Lib.hid hR1; have HB1 := Go.Lib.hid hB1; clear hR1 hB1))
    go_ret
    exact ⟨_, rfl, HR1.out, HB1.out⟩
set_option maxHeartbeats 400000 in
theorem clone93_calls (A : Option Addr) (n c : Nat) (xs : List Int) (w : World) (hC : (Kd.int .u32).C w A n xs) (hn : n * 4 ≤ 140737488355328) :
    Calls Try.prog 93 #[.slice A n c] w fun e w' => ∃ v, e = .returned v ∧ (Kd.int .u32).R 39 w' w.heap.size (fun _ => True) v xs ∧ Below w.heap.size w w' := by
  rcases A with _ | ad
  · have h0 : n = 0 := by
      rcases Nat.eq_zero_or_pos n with h0 | h0
      · exact h0
      · obtain ⟨_, h, _⟩ := hC.2.2 h0; cases h
    subst h0
    obtain rfl : xs = [] := List.eq_nil_of_length_eq_zero hC.1
    have hq := Go.Lib.run_eql_slice_nil (P := Try.prog) w 36 39 none 0 c 0 0 Try.underlying36
    go_enter Try.func93, Try.ntmps93
    go_wp2_with fail
    go_ret
    exact ⟨_, rfl, Kd.R_nil _ _ _ _ _, Below.refl _ _⟩
  · have HC := Go.Lib.hid hC
    clear hC
    have hq := Go.Lib.run_eql_slice_nil (P := Try.prog) w 36 39 (some ad) n c 0 0 Try.underlying36
    go_enter Try.func93, Try.ntmps93
    go_wp2_with (first | (at_builtin; refine append_clone (d := Kd.int .u32) (flat_int .u32) w rfl _ _ 36 39 (.int .u32 0) 4 rfl Try.underlying36 (by kernel_rfl) rfl (by decide) (by decide) xs ad n c rfl rfl HC.out hn ?_; intro v1 w1 hR1 hB1; have HR1 := Go.Lib.hid hR1; have HB1 := Go.Lib.hid hB1; clear hR1 hB1))
    go_ret
    exact ⟨_, rfl, HR1.out, HB1.out⟩

end Go.Proofs.Ytkmhgolohppliaa.Cel
