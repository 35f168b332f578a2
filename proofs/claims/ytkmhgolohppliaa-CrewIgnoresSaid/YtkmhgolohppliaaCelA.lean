/- CelA: texts of one matter, laid together. -/
import Derived.Test.YtkmhgolohppliaaPCellsPlaysx0
import Derived.Test.YtkmhgolohppliaaMine
import Derived.OpenShut
import Derived.BigQuiet
import Derived.BigRegion
import Derived.Deep.QuietTactic
import Derived.Test.YtkmhgolohppliaaPCellsPlaysx1
import Derived.Deep.RegionWith
import Derived.Deep.DrawnRows
import Derived.Test.YtkmhgolohppliaaOpn
/-! Cells: a partition's numbers in memory, and what each call of them comes to. -/
namespace Go.Proofs.Ytkmhgolohppliaa.Cel
open Go.RowKit Go.Proofs.Ytkmhgolohppliaa.PCellsPlays Go.Proofs.YtkmhgolohppliaaW.PrintWords Go.Proofs.YtkmhgolohppliaaW.PrintLast Go.Proofs.YtkmhgolohppliaaW.PrintMore Go.Proofs.Ytkmhgolohppliaa.Mine
set_option linter.unusedVariables false
set_option linter.unusedSimpArgs false

/-- What a call keeps: all but the blocks of S, and what is new. -/
structure Chg (S : Nat → Prop) (w w' : World) : Prop where
  os : w'.os = w.os
  tape : w'.tape = w.tape
  output : w'.output = w.output
  size : w.heap.size ≤ w'.heap.size
  block : ∀ i, i < w.heap.size → ¬ S i → w'.heap[i]? = w.heap[i]?
section
variable {S S2 : Nat → Prop} {w w1 w2 : World}
theorem Chg.refl (S : Nat → Prop) (w : World) : Chg S w w := ⟨rfl, rfl, rfl, Nat.le_refl _, fun _ _ _ => rfl⟩
theorem Chg.of_below (h : Below w.heap.size w w1) : Chg S w w1 := ⟨h.os, h.tape, h.output, h.size, fun i hi _ => h.block i hi⟩
theorem Chg.trans (h : Chg S w w1) (k : Chg S2 w1 w2) (hs : ∀ i, S2 i → S i ∨ w.heap.size ≤ i) : Chg S w w2 :=
  ⟨k.os.trans h.os, k.tape.trans h.tape, k.output.trans h.output, Nat.le_trans h.size k.size, fun i hi hn =>
    (k.block i (Nat.lt_of_lt_of_le hi h.size) (fun h2 => (hs i h2).elim hn (fun h3 => by omega))).trans (h.block i hi hn)⟩
theorem Chg.same (h : Chg S w w1) (k : Chg S w1 w2) : Chg S w w2 := h.trans k (fun _ hk => .inl hk)
theorem Chg.then_below (h : Chg S w w1) (k : Below w1.heap.size w1 w2) : Chg S w w2 := h.trans (S2 := fun _ => False) (Chg.of_below k) (fun _ hk => hk.elim)
theorem Chg.drewN (h : Chg S w w1) (n : Nat) : Chg S w (w1.drewN n) := ⟨h.os, h.tape, h.output, h.size, h.block⟩
theorem Chg.drew (h : Chg S w w1) : Chg S w w1.drew := ⟨h.os, h.tape, h.output, h.size, h.block⟩
theorem Chg.alloc (h : Chg S w w1) (o : Obj) : Chg S w (w1.alloc o) := h.then_below (below_alloc (Below.refl _ _) o)
theorem Chg.setCell (h : Chg S w w1) {p : Addr} (hp : S p.block ∨ w.heap.size ≤ p.block) (u : Value) : Chg S w (w1.setCell p u) :=
  ⟨h.os, h.tape, h.output, by simpa [World.setCell] using h.size, fun i hi hn => (Below.heap_setCell w1 p u i (by rintro rfl; rcases hp with hp | hp; exact hn hp; omega)).trans (h.block i hi hn)⟩
theorem Chg.mono (h : Chg S w w1) (hs : ∀ i, S i → S2 i) : Chg S2 w w1 := ⟨h.os, h.tape, h.output, h.size, fun i hi hn => h.block i hi (fun hk => hn (hs i hk))⟩
/-- What came in stays, if all that was changed is younger. -/
theorem Below.chg {B : Nat} (h : Below B w w1) (k : Chg S w1 w2) (hs : ∀ i, S i → B ≤ i) (hB : B ≤ w1.heap.size) : Below B w w2 :=
  ⟨k.os.trans h.os, k.tape.trans h.tape, k.output.trans h.output, Nat.le_trans h.size k.size, fun i hi =>
    (k.block i (Nat.lt_of_lt_of_le hi hB) (fun hk => by have := hs i hk; omega)).trans (h.block i hi)⟩
theorem blk_chg {g : Nat} {o : Obj} (hb : w.heap[g]? = some o) (k : Chg S w w1) (hn : ¬ S g) : w1.heap[g]? = some o := (k.block g (blk_lt hb) hn).trans hb
theorem R_chg {α : Type} {d : Kd α} {e base : Nat} {ok : Nat → Prop} {v : Value} {xs : List α} (h : d.R e w base ok v xs) (k : Chg S w w1) (hok : ∀ i, ok i → ¬ S i) : d.R e w1 base ok v xs :=
  Kd.R_step h (fun i ho hi => k.block i hi (hok i ho))
end

/-- Cells: the struct in block g, what they are at first in v1, what they are now in v2, how often they were written. -/
structure IsCells (w : World) (base g : Nat) (v1 v2 : Value) (fst : List S43) (now : List Int) (wr : Int) : Prop where
  blk : w.heap[g]? = some (.cells #[v1, v2, .int .i64 wr] 170 (0, 0))
  base_ : base ≤ g
  fst_ : k43.R 43 w base (fun i => v1.ownBlock = some i) v1 fst
  now_ : (Kd.int .u32).R 39 w base (fun i => v2.ownBlock = some i) v2 now
  len : now.length = fst.length
/-- The blocks that calls of cells write. -/
def Mut (g : Nat) (v2 : Value) (i : Nat) : Prop := i = g ∨ v2.ownBlock = some i
/-- All blocks of cells. -/
def All (g : Nat) (v1 v2 : Value) (i : Nat) : Prop := i = g ∨ v1.ownBlock = some i ∨ v2.ownBlock = some i
section
variable {w w1 : World} {base g : Nat} {v1 v2 : Value} {fst : List S43} {now : List Int} {wr : Int} {S : Nat → Prop}
theorem IsCells.chg (h : IsCells w base g v1 v2 fst now wr) (k : Chg S w w1) (hs : ∀ i, All g v1 v2 i → ¬ S i) : IsCells w1 base g v1 v2 fst now wr :=
  ⟨blk_chg h.blk k (hs g (.inl rfl)), h.base_, R_chg h.fst_ k (fun i hi => hs i (.inr (.inl hi))), R_chg h.now_ k (fun i hi => hs i (.inr (.inr hi))), h.len⟩
theorem IsCells.below (h : IsCells w base g v1 v2 fst now wr) (k : Below w.heap.size w w1) : IsCells w1 base g v1 v2 fst now wr :=
  h.chg (S := fun _ => False) (Chg.of_below k) (fun _ _ hf => hf)
theorem IsCells.drewN (h : IsCells w base g v1 v2 fst now wr) (n : Nat) : IsCells (w.drewN n) base g v1 v2 fst now wr := h.below (pw_below_drewN (Below.refl _ _) n)
theorem IsCells.drew (h : IsCells w base g v1 v2 fst now wr) : IsCells w.drew base g v1 v2 fst now wr := h.below (below_drew1 (Below.refl _ _))
theorem IsCells.alloc (h : IsCells w base g v1 v2 fst now wr) (o : Obj) : IsCells (w.alloc o) base g v1 v2 fst now wr := h.below (below_alloc (Below.refl _ _) o)
theorem IsCells.ge (h : IsCells w base g v1 v2 fst now wr) : ∀ i, All g v1 v2 i → base ≤ i := by
  rintro i (rfl | hi | hi)
  · exact h.base_
  · obtain ⟨inner, ho⟩ := Kd.R_own h.fst_; exact own_base ho i hi
  · obtain ⟨inner, ho⟩ := Kd.R_own h.now_; exact own_base ho i hi
theorem IsCells.lt (h : IsCells w base g v1 v2 fst now wr) : ∀ i, All g v1 v2 i → i < w.heap.size := by
  rintro i (rfl | hi | hi)
  · exact blk_lt h.blk
  · obtain ⟨inner, ho⟩ := Kd.R_own h.fst_; exact own_lt ho i hi
  · obtain ⟨inner, ho⟩ := Kd.R_own h.now_; exact own_lt ho i hi
theorem Mut.all {i : Nat} (h : Mut g v2 i) : All g v1 v2 i := h.elim .inl (fun k => .inr (.inr k))
/-- The three blocks are three. -/
theorem IsCells.ne1 (h : IsCells w base g v1 v2 fst now wr) : v1.ownBlock ≠ some g := by
  obtain ⟨inner, ho⟩ := Kd.R_own h.fst_
  intro e
  obtain ⟨c, hc⟩ := own_typed ho g e
  rw [h.blk] at hc; injection hc with hc; injection hc with _ hc; cases hc
theorem IsCells.ne2 (h : IsCells w base g v1 v2 fst now wr) : v2.ownBlock ≠ some g := by
  obtain ⟨inner, ho⟩ := Kd.R_own h.now_
  intro e
  obtain ⟨c, hc⟩ := own_typed ho g e
  rw [h.blk] at hc; injection hc with hc; injection hc with _ hc; cases hc
theorem IsCells.ne12 (h : IsCells w base g v1 v2 fst now wr) : ∀ i, v1.ownBlock = some i → v2.ownBlock ≠ some i := by
  obtain ⟨inner, ho⟩ := Kd.R_own h.fst_
  obtain ⟨inner2, ho2⟩ := Kd.R_own h.now_
  intro i e e2
  obtain ⟨c, hc⟩ := own_typed ho i e
  obtain ⟨c2, hc2⟩ := own_typed ho2 i e2
  rw [hc] at hc2; injection hc2 with hc2; injection hc2 with _ hc2; cases hc2
end
/-- Another number of writes. -/
theorem IsCells.setWr {w : World} {base g : Nat} {v1 v2 : Value} {fst : List S43} {now : List Int} {wr : Int} (h : IsCells w base g v1 v2 fst now wr) (x : Int) :
    IsCells (w.setCell ⟨g, 2, none⟩ (.int .i64 x)) base g v1 v2 fst now x :=
  ⟨by simpa using blk_set h.blk 2 (.int .i64 x), h.base_,
    Kd.R_far h.fst_ (p := ⟨g, 2, none⟩) (fun k hk => by rintro rfl; exact h.ne1 hk) _, Kd.R_far h.now_ (p := ⟨g, 2, none⟩) (fun k hk => by rintro rfl; exact h.ne2 hk) _, h.len⟩
/-- The place of a number, and another number there. -/
theorem IsCells.at_ {w : World} {base g : Nat} {v1 v2 : Value} {fst : List S43} {now : List Int} {wr : Int} (h : IsCells w base g v1 v2 fst now wr) (i : Int) (h0 : 0 ≤ i) (h1 : i < now.length) :
    ∃ b cap, v2 = .slice (some ⟨b, 0, none⟩) now.length cap ∧ now.length ≤ cap ∧ w.cell? ⟨b, i.toNat, none⟩ = some (.int .u32 (rd now i)) ∧ w.frozen? ⟨b, i.toNat, none⟩ = false ∧
      (∀ x, IsCells (w.setCell ⟨b, i.toNat, none⟩ (.int .u32 x)) base g v1 v2 fst (now.set i.toNat x) wr) := by
  have ho := Kd.own_of_R h.now_
  obtain ⟨b, cap, hv, hge, hlt⟩ := ho.form (by omega)
  subst hv
  have hle := own_le ho
  have ha := own_at_of (d := (0 : Int)) ho i h0 (by simpa using h1)
  refine ⟨b, cap, rfl, hle, ha.1, ha.2, fun x => ⟨?_, h.base_, ?_, ?_, by simpa using h.len⟩⟩
  · exact (Below.heap_setCell w ⟨b, i.toNat, none⟩ _ g (by rintro rfl; exact h.ne2 rfl)).trans h.blk
  · exact Kd.R_far h.fst_ (p := ⟨b, i.toNat, none⟩) (fun k hk => by rintro rfl; exact h.ne12 _ hk rfl) _
  · have hs := (own_store_of (enc := Value.int .u32) ho i x).1
    refine Kd.R_of_own (h1 := fun _ => rfl) ?_ (fun k hk => hk)
    simpa using hs

set_option maxHeartbeats 400000 in
theorem clone89_calls (A : Option Addr) (n c : Nat) (xs : List S43) (w : World) (hC : (k43).C w A n xs) (hn : n * 8 ≤ 140737488355328) :
    Calls Try.prog 89 #[.slice A n c] w fun e w' => ∃ v, e = .returned v ∧ (k43).R 43 w' w.heap.size (fun _ => True) v xs ∧ Below w.heap.size w w' := by
  rcases A with _ | ad
  · have h0 : n = 0 := by
      rcases Nat.eq_zero_or_pos n with h0 | h0
      · exact h0
      · obtain ⟨_, h, _⟩ := hC.2.2 h0; cases h
    subst h0
    obtain rfl : xs = [] := List.eq_nil_of_length_eq_zero hC.1
    have hq := Go.Lib.run_eql_slice_nil (P := Try.prog) w 35 43 none 0 c 0 0 Try.underlying35
    go_enter Try.func89, Try.ntmps89
    go_wp2_with fail
    go_ret
    exact ⟨_, rfl, Kd.R_nil _ _ _ _ _, Below.refl _ _⟩
  · have HC := Go.Lib.hid hC
    clear hC
    have hq := Go.Lib.run_eql_slice_nil (P := Try.prog) w 35 43 (some ad) n c 0 0 Try.underlying35
    go_enter Try.func89, Try.ntmps89
    go_wp2_with (first | (at_builtin; refine append_clone (d := k43) (flat_iso (flat_pair (flat_int .u32) flat_bool)) w rfl _ _ 35 43 (.agg #[(.int .u32 0), (.bool false)]) 8 rfl Try.underlying35 (by kernel_rfl) rfl (by decide) (by decide) xs ad n c rfl rfl HC.out hn ?_; intro v1 w1 hR1 hB1; have HR1 := Go.Lib.hid hR1; have HB1 := Go.Lib.hid hB1; clear hR1 hB1))
    go_ret
    exact ⟨_, rfl, HR1.out, HB1.out⟩
set_option maxHeartbeats 400000 in
theorem clone93_calls (A : Option Addr) (n c : Nat) (xs : List Int) (w : World) (hC : (Kd.int .u32).C w A n xs) (hn : n * 4 ≤ 140737488355328) :
    Calls Try.prog 93 #[.slice A n c] w fun e w' => ∃ v, e = .returned v ∧ (Kd.int .u32).R 39 w' w.heap.size (fun _ => True) v xs ∧ Below w.heap.size w w' := by
  rcases A with _ | ad
  · have h0 : n = 0 := by
      rcases Nat.eq_zero_or_pos n with h0 | h0
      · exact h0
      · obtain ⟨_, h, _⟩ := hC.2.2 h0; cases h
    subst h0
    obtain rfl : xs = [] := List.eq_nil_of_length_eq_zero hC.1
    have hq := Go.Lib.run_eql_slice_nil (P := Try.prog) w 36 39 none 0 c 0 0 Try.underlying36
    go_enter Try.func93, Try.ntmps93
    go_wp2_with fail
    go_ret
    exact ⟨_, rfl, Kd.R_nil _ _ _ _ _, Below.refl _ _⟩
  · have HC := Go.Lib.hid hC
    clear hC
    have hq := Go.Lib.run_eql_slice_nil (P := Try.prog) w 36 39 (some ad) n c 0 0 Try.underlying36
    go_enter Try.func93, Try.ntmps93
    go_wp2_with (first | (at_builtin; refine append_clone (d := Kd.int .u32) (flat_int .u32) w rfl _ _ 36 39 (.int .u32 0) 4 rfl Try.underlying36 (by kernel_rfl) rfl (by decide) (by decide) xs ad n c rfl rfl HC.out hn ?_; intro v1 w1 hR1 hB1; have HR1 := Go.Lib.hid hR1; have HB1 := Go.Lib.hid hB1; clear hR1 hB1))
    go_ret
    exact ⟨_, rfl, HR1.out, HB1.out⟩

end Go.Proofs.Ytkmhgolohppliaa.Cel

/-! Cells: the contracts of each call, walked. -/
namespace Go.Proofs.Ytkmhgolohppliaa.Cel
open Go.RowKit Go.Proofs.Ytkmhgolohppliaa.PCellsPlays Go.Proofs.YtkmhgolohppliaaW.PrintWords Go.Proofs.YtkmhgolohppliaaW.PrintLast Go.Proofs.YtkmhgolohppliaaW.PrintMore Go.Proofs.Ytkmhgolohppliaa.Mine
set_option linter.unusedVariables false
set_option linter.unusedSimpArgs false

variable {w : World} {base g : Nat} {v1 v2 : Value} {fst : List S43} {now : List Int} {wr : Int}

/-- Is there a cell? -/
def inB (i : Int) (n : Nat) : Bool := decide (0 ≤ i) && decide (i < (n : Int))

theorem there_calls (h : IsCells w base g v1 v2 fst now wr) (i : Int) :
    Calls Try.prog 92 #[.pointer (some ⟨g, 0, none⟩), .int .i64 i] w fun e w' => e = .returned (.bool (inB i now.length)) ∧ w = w' := by
  obtain ⟨A, c, rfl, _, _⟩ := Kd.R_reads h.now_
  have hc := blk_cell h.blk 1
  unfold inB
  by_cases h0 : 0 ≤ i
  · have hb : decide (0 ≤ i) = true := by simpa using h0
    clear h h0
    go_enter Try.func92, Try.ntmps92
    go_wp2_with fail
    go_ret
    exact ⟨by simp [hb], rfl⟩
  · have hb : decide (0 ≤ i) = false := by simpa using h0
    clear h h0
    go_enter Try.func92, Try.ntmps92
    go_wp2_with fail
    go_ret
    exact ⟨by simp [hb], rfl⟩

theorem len_calls (h : IsCells w base g v1 v2 fst now wr) :
    Calls Try.prog 31 #[.pointer (some ⟨g, 0, none⟩)] w fun e w' => e = .returned (.int .i64 (now.length : Int)) ∧ w = w' := by
  obtain ⟨A, c, rfl, _, _⟩ := Kd.R_reads h.now_
  have hc := blk_cell h.blk 1
  clear h
  go_enter Try.func31, Try.ntmps31
  go_wp2_with fail
  go_ret
  exact ⟨rfl, rfl⟩

theorem writes_calls (h : IsCells w base g v1 v2 fst now wr) :
    Calls Try.prog 29 #[.pointer (some ⟨g, 0, none⟩)] w fun e w' => e = .returned (.int .i64 wr) ∧ w = w' := by
  have hc := blk_cell h.blk 2
  clear h
  go_enter Try.func29, Try.ntmps29
  go_wp2_with fail
  go_ret
  exact ⟨rfl, rfl⟩

theorem get_no (h : IsCells w base g v1 v2 fst now wr) (i : Int) (hi : inB i now.length = false) :
    Calls Try.prog 35 #[.pointer (some ⟨g, 0, none⟩), .int .i64 i] w fun e w' => e = .returned (.tuple #[.int .u32 0, .bool false]) ∧ w = w' := by
  have HT := Go.Lib.hid (there_calls h i)
  rw [hi] at HT
  clear h hi
  go_enter Try.func35, Try.ntmps35
  go_wp2_with fail
  refine HT.out.mono ?_
  rintro e w1 ⟨rfl, rfl⟩
  go_wp2_with fail
  go_ret2
  exact ⟨rfl, rfl⟩

theorem inB_of {i : Int} {n : Nat} (h : inB i n = true) : 0 ≤ i ∧ i < (n : Int) := by unfold inB at h; simpa using h

theorem get_yes (h : IsCells w base g v1 v2 fst now wr) (i : Int) (hi : inB i now.length = true) :
    Calls Try.prog 35 #[.pointer (some ⟨g, 0, none⟩), .int .i64 i] w fun e w' => e = .returned (.tuple #[.int .u32 (rd now i), .bool true]) ∧ w = w' := by
  have HT := Go.Lib.hid (there_calls h i)
  rw [hi] at HT
  obtain ⟨h0, h1⟩ := inB_of hi
  obtain ⟨b, cap, rfl, hle, hcell, _, _⟩ := h.at_ i h0 h1
  have hc := blk_cell h.blk 1
  clear h hi
  go_enter Try.func35, Try.ntmps35
  go_wp2_with fail
  refine HT.out.mono ?_
  rintro e w1 ⟨rfl, rfl⟩
  go_wp2_with fail
  go_ret2
  exact ⟨rfl, rfl⟩

theorem set_no (h : IsCells w base g v1 v2 fst now wr) (i x : Int) (hi : inB i now.length = false) :
    Calls Try.prog 25 #[.pointer (some ⟨g, 0, none⟩), .int .i64 i, .int .u32 x] w fun e w' => e = .returned (.bool false) ∧ w = w' := by
  have HT := Go.Lib.hid (there_calls h i)
  rw [hi] at HT
  clear h hi
  go_enter Try.func25, Try.ntmps25
  go_wp2_with fail
  refine HT.out.mono ?_
  rintro e w1 ⟨rfl, rfl⟩
  go_wp2_with fail
  go_ret
  exact ⟨rfl, rfl⟩

theorem set_yes (h : IsCells w base g v1 v2 fst now wr) (i x : Int) (hi : inB i now.length = true) (hw0 : 0 ≤ wr) (hw1 : wr ≤ 1000000) :
    Calls Try.prog 25 #[.pointer (some ⟨g, 0, none⟩), .int .i64 i, .int .u32 x] w fun e w' => e = .returned (.bool true) ∧ IsCells w' base g v1 v2 fst (now.set i.toNat x) (wr + 1) ∧ Chg (Mut g v2) w w' := by
  have HT := Go.Lib.hid (there_calls h i)
  rw [hi] at HT
  obtain ⟨h0, h1⟩ := inB_of hi
  obtain ⟨b, cap, rfl, hle, hcell, hfz, hst⟩ := h.at_ i h0 h1
  have hc := blk_cell h.blk 1
  have hs := hst x
  have hg2 := blk_cell hs.blk 2
  have hf2 := blk_frozen hs.blk 2
  have hne : g ≠ b := fun e => h.ne2 (by rw [e]; rfl)
  have HS := Go.Lib.hid (hs.setWr (wr + 1))
  clear h hi hst hs
  go_enter Try.func25, Try.ntmps25
  go_wp2_with fail
  refine HT.out.mono ?_
  rintro e w1 ⟨rfl, rfl⟩
  go_wp2_with fail
  go_ret
  exact ⟨rfl, HS.out, ((Chg.refl _ _).setCell (.inl (.inr rfl)) _).setCell (.inl (.inl rfl)) _⟩

theorem all_calls (h : IsCells w base g v1 v2 fst now wr) (hn : now.length ≤ 1000000) :
    Calls Try.prog 26 #[.pointer (some ⟨g, 0, none⟩)] w fun e w' => ∃ v, e = .returned v ∧ (Kd.int .u32).R 39 w' w.heap.size (fun _ => True) v now ∧ Below w.heap.size w w' := by
  obtain ⟨A, c, rfl, _, hC⟩ := Kd.R_reads h.now_
  have hc := blk_cell h.blk 1
  have HC := Go.Lib.hid (clone93_calls A now.length c now w hC (by omega))
  clear h hC
  go_enter Try.func26, Try.ntmps26
  go_wp2_with fail
  refine HC.out.mono ?_
  rintro e w1 ⟨v, rfl, hR, hB⟩
  have HR := Go.Lib.hid hR
  have HB := Go.Lib.hid hB
  clear hR hB
  go_wp2_with fail
  go_ret
  exact ⟨_, rfl, HR.out, HB.out⟩
end Go.Proofs.Ytkmhgolohppliaa.Cel

/-! Cells: cold and warm starts, walked. -/
namespace Go.Proofs.Ytkmhgolohppliaa.Cel
open Go.RowKit Go.Proofs.Ytkmhgolohppliaa.PCellsPlays Go.Proofs.YtkmhgolohppliaaW.PrintWords Go.Proofs.YtkmhgolohppliaaW.PrintLast Go.Proofs.YtkmhgolohppliaaW.PrintMore Go.Proofs.Ytkmhgolohppliaa.Mine
set_option linter.unusedVariables false
set_option linter.unusedSimpArgs false

variable {w : World} {base g : Nat} {v1 v2 : Value} {fst : List S43} {now : List Int} {wr : Int}

theorem cold1_calls (a : Int) (b : Bool) (w : World) : Calls Try.prog 96 #[.agg #[.int .u32 a, .bool b]] w fun e w' => e = .returned (.bool true) ∧ Below w.heap.size w w' := by
  go_enter Try.func96, Try.ntmps96
  go_wp2_with fail
  go_ret
  exact ⟨rfl, by go_grown⟩
theorem warm1_calls (a : Int) (b : Bool) (w : World) : Calls Try.prog 95 #[.agg #[.int .u32 a, .bool b]] w fun e w' => e = .returned (.bool (!b)) ∧ Below w.heap.size w w' := by
  go_enter Try.func95, Try.ntmps95
  go_wp2_with fail
  go_ret
  exact ⟨rfl, by go_grown⟩

/-- Does a cell go back: all of them cold, those that aren't kept warm. -/
def goes (cold : Bool) (c : S43) : Bool := cold || !c.f1
/-- The numbers behind the first k cells' going back. -/
def back (cold : Bool) (fst : List S43) (now : List Int) : Nat → List Int
  | 0 => now
  | k + 1 => if goes cold (rd_T43 fst k) = true then (back cold fst now k).set k (rd_T43 fst k).f0 else back cold fst now k
theorem back_len (cold : Bool) (fst : List S43) (now : List Int) (k : Nat) : (back cold fst now k).length = now.length := by
  induction k with
  | zero => rfl
  | succ k ih => unfold back; split <;> simp [ih]

set_option maxHeartbeats 1600000 in
theorem back_cold (h : IsCells w base g v1 v2 fst now wr) (hn : fst.length ≤ 1000000) :
    Calls Try.prog 94 #[.pointer (some ⟨g, 0, none⟩), .func (.func 96) #[] #[]] w fun e w' => e = .returned (.tuple #[]) ∧ IsCells w' base g v1 v2 fst (back true fst now fst.length) wr ∧ Chg (Mut g v2) w w' := by
  obtain ⟨A, c, rfl, hc1, _⟩ := Kd.R_reads h.fst_
  have hc0 := blk_cell h.blk 0
  have H := Go.Lib.hid h
  clear h
  go_enter Try.func94, Try.ntmps94
  go_wp2_with fail
  clear hc0
  go_loopw [11] (fun i wr0 => ∃ k : Nat, k ≤ fst.length ∧ i = .int .i64 k ∧ IsCells wr0 base g (.slice A fst.length c) v2 fst (back true fst now k) wr ∧ Chg (Mut g v2) w wr0) (fun i _ => fst.length - (intOf i).toNat)
  case atStart => exact ⟨0, Nat.zero_le _, rfl, H.out, Chg.refl _ _⟩
  case round =>
    obtain ⟨k, hk, rfl, hI, hC⟩ := hrel
    by_cases hlt : k < fst.length
    · obtain ⟨A', c', he, _, hCC⟩ := Kd.R_reads hI.fst_
      injection he with he1 _ he2
      subst he1 he2
      obtain ⟨ad, rfl, g0, g1⟩ := at_T43 hCC (k : Int) (by omega) (by omega)
      rw [Int.toNat_natCast] at g0 g1
      have HE : Hid (back true fst now (k + 1) = if goes true (rd_T43 fst k) = true then (back true fst now k).set k (rd_T43 fst k).f0 else back true fst now k) := Go.Lib.hid rfl
      have hkn : (k : Int) < ((back true fst now k).length : Int) := by rw [hI.len]; omega
      generalize hx : rd_T43 fst k = x at *
      clear hx
      obtain ⟨xa, xb⟩ := x
      have HI := Go.Lib.hid hI
      have HC := Go.Lib.hid hC
      have HK := Go.Lib.hid hkn
      clear hI hC hCC hkn
      go_wp2_with fail
      refine (cold1_calls xa xb _).mono ?_
      rintro e w2 ⟨rfl, hB2⟩
      have hx0 : w2.cell? ⟨wr.heap.size, 0, none⟩ = some (.int .u32 xa) := by
        rw [hB2.cell (by simp)]
        exact blk_cell (blk_new wr _) 0
      have hI2 := (HI.out.alloc (.cells #[.int .u32 xa, .bool xb] 43)).below hB2
      have hC2 := (HC.out.alloc (.cells #[.int .u32 xa, .bool xb] 43)).then_below hB2
      clear hB2 g0 g1
      obtain ⟨b, cap, rfl, hle, hcell, hfz, hst⟩ := hI2.at_ (k : Int) (by omega) HK.out
      have hg1 := blk_cell hI2.blk 1
      rw [Int.toNat_natCast] at hcell hfz
      have hs := hst xa
      rw [Int.toNat_natCast] at hs
      have hkb : (k : Int) < ((back true fst now k).length : Int) := HK.out
      have HS := Go.Lib.hid hs
      have HC2 := Go.Lib.hid hC2
      have HE2 : Hid (back true fst now (k + 1) = (back true fst now k).set k xa) := Go.Lib.hid HE.out
      clear hI2 hs hst hC2
      go_wp2_with fail
      go_region
      go_wp2_with fail
      go_roundw
      case rel => exact ⟨k + 1, by omega, by go_num, by rw [HE2.out]; exact HS.out.drew, (HC2.out.setCell (p := ⟨b, k, none⟩) (.inl (.inr rfl)) _).drew⟩
      case measure => simp [intOf]; omega
    · obtain rfl : k = fst.length := by omega
      have HI := Go.Lib.hid hI
      have HC := Go.Lib.hid hC
      clear hI hC
      go_wp2_with fail
      go_end0
      exact ⟨rfl, HI.out, HC.out⟩
set_option maxHeartbeats 1600000 in
theorem back_warm (h : IsCells w base g v1 v2 fst now wr) (hn : fst.length ≤ 1000000) :
    Calls Try.prog 94 #[.pointer (some ⟨g, 0, none⟩), .func (.func 95) #[] #[]] w fun e w' => e = .returned (.tuple #[]) ∧ IsCells w' base g v1 v2 fst (back false fst now fst.length) wr ∧ Chg (Mut g v2) w w' := by
  obtain ⟨A, c, rfl, hc1, _⟩ := Kd.R_reads h.fst_
  have hc0 := blk_cell h.blk 0
  have H := Go.Lib.hid h
  clear h
  go_enter Try.func94, Try.ntmps94
  go_wp2_with fail
  clear hc0
  go_loopw [11] (fun i wr0 => ∃ k : Nat, k ≤ fst.length ∧ i = .int .i64 k ∧ IsCells wr0 base g (.slice A fst.length c) v2 fst (back false fst now k) wr ∧ Chg (Mut g v2) w wr0) (fun i _ => fst.length - (intOf i).toNat)
  case atStart => exact ⟨0, Nat.zero_le _, rfl, H.out, Chg.refl _ _⟩
  case round =>
    obtain ⟨k, hk, rfl, hI, hC⟩ := hrel
    by_cases hlt : k < fst.length
    · obtain ⟨A', c', he, _, hCC⟩ := Kd.R_reads hI.fst_
      injection he with he1 _ he2
      subst he1 he2
      obtain ⟨ad, rfl, g0, g1⟩ := at_T43 hCC (k : Int) (by omega) (by omega)
      rw [Int.toNat_natCast] at g0 g1
      have HE : Hid (back false fst now (k + 1) = if goes false (rd_T43 fst k) = true then (back false fst now k).set k (rd_T43 fst k).f0 else back false fst now k) := Go.Lib.hid rfl
      have hkn : (k : Int) < ((back false fst now k).length : Int) := by rw [hI.len]; omega
      generalize hx : rd_T43 fst k = x at *
      clear hx
      obtain ⟨xa, xb⟩ := x
      have HI := Go.Lib.hid hI
      have HC := Go.Lib.hid hC
      have HK := Go.Lib.hid hkn
      clear hI hC hCC hkn
      go_wp2_with fail
      refine (warm1_calls xa xb _).mono ?_
      rintro e w2 ⟨rfl, hB2⟩
      have hx0 : w2.cell? ⟨wr.heap.size, 0, none⟩ = some (.int .u32 xa) := by
        rw [hB2.cell (by simp)]
        exact blk_cell (blk_new wr _) 0
      have hI2 := (HI.out.alloc (.cells #[.int .u32 xa, .bool xb] 43)).below hB2
      have hC2 := (HC.out.alloc (.cells #[.int .u32 xa, .bool xb] 43)).then_below hB2
      clear hB2 g0 g1
      cases xb with
      | false =>
        obtain ⟨b, cap, rfl, hle, hcell, hfz, hst⟩ := hI2.at_ (k : Int) (by omega) HK.out
        have hg1 := blk_cell hI2.blk 1
        rw [Int.toNat_natCast] at hcell hfz
        have hs := hst xa
        rw [Int.toNat_natCast] at hs
        have hkb : (k : Int) < ((back false fst now k).length : Int) := HK.out
        have HS := Go.Lib.hid hs
        have HC2 := Go.Lib.hid hC2
        have HE2 : Hid (back false fst now (k + 1) = (back false fst now k).set k xa) := Go.Lib.hid HE.out
        clear hI2 hs hst hC2
        go_wp2_with fail
        go_region
        go_wp2_with fail
        go_roundw
        case rel => exact ⟨k + 1, by omega, by go_num, by rw [HE2.out]; exact HS.out.drew, (HC2.out.setCell (p := ⟨b, k, none⟩) (.inl (.inr rfl)) _).drew⟩
        case measure => simp [intOf]; omega
      | true =>
        have HI2 := Go.Lib.hid hI2
        have HC2 := Go.Lib.hid hC2
        have HE2 : Hid (back false fst now (k + 1) = back false fst now k) := Go.Lib.hid HE.out
        clear hI2 hC2
        go_wp2_with fail
        go_roundw
        case rel => exact ⟨k + 1, by omega, by go_num, by rw [HE2.out]; exact HI2.out, HC2.out⟩
        case measure => simp [intOf]; omega
    · obtain rfl : k = fst.length := by omega
      have HI := Go.Lib.hid hI
      have HC := Go.Lib.hid hC
      clear hI hC
      go_wp2_with fail
      go_end0
      exact ⟨rfl, HI.out, HC.out⟩

theorem warm_calls (h : IsCells w base g v1 v2 fst now wr) (hn : fst.length ≤ 1000000) :
    Calls Try.prog 27 #[.pointer (some ⟨g, 0, none⟩)] w fun e w' => e = .returned (.tuple #[]) ∧ IsCells w' base g v1 v2 fst (back false fst now fst.length) wr ∧ Chg (Mut g v2) w w' := by
  have HB := Go.Lib.hid (back_warm h hn)
  clear h
  go_enter Try.func27, Try.ntmps27
  go_wp2_with fail
  refine HB.out.mono ?_
  rintro e w1 ⟨rfl, hI, hC⟩
  have HI := Go.Lib.hid hI
  have HC := Go.Lib.hid hC
  clear hI hC
  go_wp2_with fail
  go_end0
  exact ⟨rfl, HI.out, HC.out⟩
theorem cold_calls (h : IsCells w base g v1 v2 fst now wr) (hn : fst.length ≤ 1000000) :
    Calls Try.prog 28 #[.pointer (some ⟨g, 0, none⟩)] w fun e w' => e = .returned (.tuple #[]) ∧ IsCells w' base g v1 v2 fst (back true fst now fst.length) 0 ∧ Chg (Mut g v2) w w' := by
  have HB := Go.Lib.hid (back_cold h hn)
  clear h
  go_enter Try.func28, Try.ntmps28
  go_wp2_with fail
  refine HB.out.mono ?_
  rintro e w1 ⟨rfl, hI, hC⟩
  have HS := Go.Lib.hid (hI.setWr 0)
  have HC := Go.Lib.hid hC
  have hc2 := blk_cell hI.blk 2
  have hf2 := blk_frozen hI.blk 2
  clear hI hC
  go_wp2_with fail
  go_end0
  exact ⟨rfl, HS.out, HC.out.setCell (.inl (.inl rfl)) _⟩
end Go.Proofs.Ytkmhgolohppliaa.Cel

/-! Cells: fresh, same, new and copied cells, walked. -/
namespace Go.Proofs.Ytkmhgolohppliaa.Cel
open Go.RowKit Go.Proofs.Ytkmhgolohppliaa.PCellsPlays Go.Proofs.YtkmhgolohppliaaW.PrintWords Go.Proofs.YtkmhgolohppliaaW.PrintLast Go.Proofs.YtkmhgolohppliaaW.PrintMore Go.Proofs.Ytkmhgolohppliaa.Mine
set_option linter.unusedVariables false
set_option linter.unusedSimpArgs false
attribute [local go_sem] max2_int min2_int max_two min_two max_three min_three max_four min_four

variable {w : World} {base g : Nat} {v1 v2 : Value} {fst : List S43} {now : List Int} {wr : Int}

theorem fresh1_calls (a : Int) (b : Bool) (x : Int) (w : World) : Calls Try.prog 91 #[.agg #[.int .u32 a, .bool b], .int .u32 x] w fun e w' => e = .returned (.bool (a == x)) ∧ Below w.heap.size w w' := by
  go_enter Try.func91, Try.ntmps91
  go_wp2_with fail
  go_ret
  exact ⟨rfl, by go_grown⟩

/-- Are all what they were at first? -/
def fresh (fst : List S43) (now : List Int) : Bool := decide (∀ i : Nat, i < fst.length → (rd_T43 fst i).f0 = rd now i)

set_option maxHeartbeats 1600000 in
set_option maxRecDepth 100000 in
theorem equalFunc_calls (A : Option Addr) (c : Nat) (B : Option Addr) (c2 : Nat) (hA : k43.C w A fst.length fst) (hcA : fst.length ≤ c) (hB : (Kd.int .u32).C w B now.length now) (hcB : now.length ≤ c2) (hl : now.length = fst.length) :
    Calls Try.prog 90 #[.slice A fst.length c, .slice B now.length c2, .func (.func 91) #[] #[]] w fun e w' => e = .returned (.bool (fresh fst now)) ∧ Below w.heap.size w w' := by
  have HA := Go.Lib.hid hA
  have HB := Go.Lib.hid hB
  have HL := Go.Lib.hid hl
  have hm := Kd.C_max hA
  have hlt0 : (fst.length != now.length) = false := by simp [hl]
  have hlt1 : ((fst.length : Int) != (now.length : Int)) = false := by simp [hl]
  clear hA hB hl
  go_enter Try.func90, Try.ntmps90
  go_wp2_with fail
  go_loopw [17] (fun i wr0 => ∃ k : Nat, k ≤ fst.length ∧ i = .int .i64 k ∧ (∀ j : Nat, j < k → (rd_T43 fst j).f0 = rd now j) ∧ Below w.heap.size w wr0) (fun i _ => fst.length - (intOf i).toNat)
  case atStart => exact ⟨0, Nat.zero_le _, rfl, fun j hj => absurd hj (Nat.not_lt_zero _), Below.refl _ _⟩
  case round =>
    obtain ⟨k, hk, rfl, hal, hBk⟩ := hrel
    have HAL := Go.Lib.hid hal
    have HBK := Go.Lib.hid hBk
    clear hal hBk
    by_cases hlt : k < fst.length
    · obtain ⟨ad, rfl, g0, g1⟩ := at_T43 (Kd.C_below HA.out HBK.out) (k : Int) (by omega) (by omega)
      have hkn : (k : Int) < (now.length : Int) := by rw [HL.out]; omega
      obtain ⟨ad2, rfl, g2⟩ := Kd.at_int (Kd.C_below HB.out HBK.out) (k : Int) (by omega) hkn
      rw [Int.toNat_natCast] at g0 g1 g2
      have hkc : k < now.length := by omega
      by_cases hq : (rd_T43 fst k).f0 = rd now k
      · have HQ := Go.Lib.hid hq
        have hb : ((rd_T43 fst k).f0 == rd now k) = true := beq_iff_eq.2 hq
        have hb2 : ((rd_T43 fst k).f0 != rd now k) = false := bne_eq_false_iff_eq.2 hq
        clear hq
        have g2' := (World.cell?_alloc_lt wr (.cells #[.int .u32 (rd_T43 fst k).f0, .bool (rd_T43 fst k).f1] 43) _ (World.block_lt_of_cell? _ _ g2)).trans g2
        generalize hx : rd_T43 fst k = x at *
        generalize hy : rd now k = y at *
        obtain ⟨xa, xb⟩ := x
        have HX := Go.Lib.hid hx
        have HY := Go.Lib.hid hy
        clear hx hy
        go_wp2_with fail
        refine (fresh1_calls xa xb y _).mono ?_
        rintro e w2 ⟨rfl, hB2⟩
        have HB2 := Go.Lib.hid ((below_alloc HBK.out (.cells #[.int .u32 xa, .bool xb] 43)).trans (hB2.mono (by have := HBK.out.size; simp; omega)))
        clear hB2 g0 g1 g2 g2'
        rw [hb]
        go_wp2_with fail
        go_roundw
        case rel => exact ⟨k + 1, by omega, by go_num, fun j hj => by
          by_cases e : j = k
          · subst e; rw [HX.out, HY.out]; exact HQ.out
          · exact HAL.out j (by omega), HB2.out⟩
        case measure => simp [intOf]; omega
      · have HQ : Hid (fresh fst now = false) := Go.Lib.hid (by unfold fresh; rw [decide_eq_false_iff_not]; intro h; exact hq (h k hlt))
        have hb : ((rd_T43 fst k).f0 == rd now k) = false := beq_eq_false_iff_ne.2 hq
        clear hq
        have g2' := (World.cell?_alloc_lt wr (.cells #[.int .u32 (rd_T43 fst k).f0, .bool (rd_T43 fst k).f1] 43) _ (World.block_lt_of_cell? _ _ g2)).trans g2
        generalize hx : rd_T43 fst k = x at *
        generalize hy : rd now k = y at *
        clear hx hy
        obtain ⟨xa, xb⟩ := x
        go_wp2_with fail
        refine (fresh1_calls xa xb y _).mono ?_
        rintro e w2 ⟨rfl, hB2⟩
        have HB2 := Go.Lib.hid ((below_alloc HBK.out (.cells #[.int .u32 xa, .bool xb] 43)).trans (hB2.mono (by have := HBK.out.size; simp; omega)))
        clear hB2 g0 g1 g2 g2'
        rw [hb]
        go_wp2_with fail
        go_ret
        exact ⟨by rw [HQ.out]; rfl, HB2.out⟩
    · have HQ : Hid (fresh fst now = true) := Go.Lib.hid (by unfold fresh; rw [decide_eq_true_iff]; intro j hj; exact HAL.out j (by omega))
      obtain rfl : k = fst.length := by omega
      go_wp2_with fail
      go_ret
      exact ⟨by rw [HQ.out]; rfl, HBK.out⟩

set_option maxHeartbeats 1600000 in
set_option maxRecDepth 100000 in
theorem fresh_calls (h : IsCells w base g v1 v2 fst now wr) :
    Calls Try.prog 24 #[.pointer (some ⟨g, 0, none⟩)] w fun e w' => e = .returned (.bool (fresh fst now)) ∧ Below w.heap.size w w' := by
  obtain ⟨A, c, rfl, hcA, _⟩ := Kd.R_reads h.fst_
  obtain ⟨B, c2, rfl, hcB, _⟩ := Kd.R_reads h.now_
  have HE : Hid (∀ W : World, IsCells W base g (.slice A fst.length c) (.slice B now.length c2) fst now wr → Calls Try.prog 90 #[.slice A fst.length c, .slice B now.length c2, .func (.func 91) #[] #[]] W fun e w' => e = .returned (.bool (fresh fst now)) ∧ Below W.heap.size W w') := Go.Lib.hid (fun W hI => by
    obtain ⟨A', c', he, _, hA⟩ := Kd.R_reads hI.fst_
    obtain ⟨B', c2', he2, _, hB⟩ := Kd.R_reads hI.now_
    injection he with he _ _
    injection he2 with he2 _ _
    subst he he2
    exact equalFunc_calls A c B c2 hA hcA hB hcB hI.len)
  have HIW := Go.Lib.hid h.drew
  have HBW := Go.Lib.hid (below_drew1 (Below.refl w.heap.size w))
  have hc0 := blk_cell h.drew.blk 0
  have hc1 := blk_cell h.drew.blk 1
  clear h
  generalize fresh fst now = fr at *
  go_enter Try.func24, Try.ntmps24
  go_wp2_with fail
  refine start_ (n := 10) (S := fun w' => w'.cell? ⟨g, 0, none⟩ = some (.slice A fst.length c) ∧ w'.cell? ⟨g, 1, none⟩ = some (.slice B now.length c2)) (ds := []) #[false, false, false, false, false, false, false, false, false, false] (by kernel_rfl) rfl rfl ⟨hc0, hc1⟩ (fun hHeld => ?_)
  generalize w.drew = W at *
  refine pure_ (i := 0) (N := some 3) (v := ?_) (a' := ?_) #[true, false, false, false, false, false, false, false, false, false] rfl rfl (by kernel_rfl) (fun _ _ _ h => h) (Or.inl ⟨by rfl, ?_⟩) ?_ ?_
  rotate_left
  · intro w'
    go_simp
    with_reducible rfl
  rotate_left
  · simp only [Act.put, List.setIfInBounds_toArray, List.set_cons_zero, List.set_cons_succ, i64_w, i32_w]
    rfl
  refine pure_ (i := 1) (N := some 4) (v := ?_) (a' := ?_) #[true, true, false, false, false, false, false, false, false, false] rfl rfl (by kernel_rfl) (fun _ _ _ h => h) (Or.inl ⟨by rfl, ?_⟩) ?_ ?_
  rotate_left
  · intro w'
    go_simp
    with_reducible rfl
  rotate_left
  · simp only [Act.put, List.setIfInBounds_toArray, List.set_cons_zero, List.set_cons_succ, i64_w, i32_w]
    rfl
  refine pure_ (i := 2) (N := some 5) (v := ?_) (a' := ?_) #[true, true, true, false, false, false, false, false, false, false] rfl rfl (by kernel_rfl) (fun _ _ _ h => h) (Or.inl ⟨by rfl, ?_⟩) ?_ ?_
  rotate_left
  · intro w'
    go_simp
    with_reducible rfl
  rotate_left
  · simp only [Act.put, List.setIfInBounds_toArray, List.set_cons_zero, List.set_cons_succ, i64_w, i32_w]
    rfl
  refine take_ (i := 3) (N := some 6) (v := ?_) (a' := ?_) #[true, true, true, true, false, false, false, false, false, false] rfl rfl (by kernel_rfl) (fun _ _ _ h => h) (Or.inl ⟨by rfl, ?_⟩) hHeld ?_ ?_
  rotate_left
  · rintro w' ⟨s0, s1⟩
    go_simp
    with_reducible rfl
  rotate_left
  · simp only [Act.put, List.setIfInBounds_toArray, List.set_cons_zero, List.set_cons_succ, i64_w, i32_w]
    rfl
  refine pure_ (i := 4) (N := some 7) (v := ?_) (a' := ?_) #[true, true, true, true, true, false, false, false, false, false] rfl rfl (by kernel_rfl) (fun _ _ _ h => h) (Or.inl ⟨by rfl, ?_⟩) ?_ ?_
  rotate_left
  · intro w'
    go_simp
    with_reducible rfl
  rotate_left
  · simp only [Act.put, List.setIfInBounds_toArray, List.set_cons_zero, List.set_cons_succ, i64_w, i32_w]
    rfl
  refine pure_ (i := 5) (N := some 8) (v := ?_) (a' := ?_) #[true, true, true, true, true, true, false, false, false, false] rfl rfl (by kernel_rfl) (fun _ _ _ h => h) (Or.inl ⟨by rfl, ?_⟩) ?_ ?_
  rotate_left
  · intro w'
    go_simp
    with_reducible rfl
  rotate_left
  · simp only [Act.put, List.setIfInBounds_toArray, List.set_cons_zero, List.set_cons_succ, i64_w, i32_w]
    rfl
  refine pure_ (i := 6) (N := some 9) (v := ?_) (a' := ?_) #[true, true, true, true, true, true, true, false, false, false] rfl rfl (by kernel_rfl) (fun _ _ _ h => h) (Or.inl ⟨by rfl, ?_⟩) ?_ ?_
  rotate_left
  · intro w'
    go_simp
    with_reducible rfl
  rotate_left
  · simp only [Act.put, List.setIfInBounds_toArray, List.set_cons_zero, List.set_cons_succ, i64_w, i32_w]
    rfl
  refine take_ (i := 7) (N := some 10) (v := ?_) (a' := ?_) #[true, true, true, true, true, true, true, true, false, false] rfl rfl (by kernel_rfl) (fun _ _ _ h => h) (Or.inl ⟨by rfl, ?_⟩) hHeld ?_ ?_
  rotate_left
  · rintro w' ⟨s0, s1⟩
    go_simp
    with_reducible rfl
  rotate_left
  · simp only [Act.put, List.setIfInBounds_toArray, List.set_cons_zero, List.set_cons_succ, i64_w, i32_w]
    rfl
  refine one_ (i := 8) (N := some 11) #[true, true, true, true, true, true, true, true, true, false] rfl rfl (by kernel_rfl) (by decide) (fun K hK => ?_)
  refine goes_ Try.func90 (by kernel_rfl) rfl #[.slice A fst.length c, .slice B now.length c2, .func (.func 91) #[] #[]] (by rfl) rfl rfl (by (try simp only [List.map_toArray, List.map_cons, List.map_nil]); first | done | rfl) ?_
  refine (HE.out W HIW.out).mono ?_
  rintro e w9 ⟨rfl, hB9⟩
  have HW9 := Go.Lib.hid (HBW.out.trans (hB9.mono HBW.out.size))
  have HI9 := Go.Lib.hid (HIW.out.below hB9)
  clear hB9
  refine ⟨_, rfl, ?_⟩
  refine hK.out _ _ ⟨blk_cell HI9.out.blk 0, blk_cell HI9.out.blk 1⟩ (fun hHeld => ?_)
  clear hK K
  refine norm_ (a' := ?_) ?_ ?_
  rotate_left
  · show Act.put _ (some 11) _ = _
    simp only [Act.put, List.setIfInBounds_toArray, List.set_cons_zero, List.set_cons_succ, i64_w, i32_w]
    rfl
  refine pure_ (i := 9) (N := some 2) (v := ?_) (a' := ?_) #[true, true, true, true, true, true, true, true, true, true] rfl rfl (by kernel_rfl) (fun _ _ _ h => h) (Or.inl ⟨by rfl, ?_⟩) ?_ ?_
  rotate_left
  · intro w'
    go_simp
    with_reducible rfl
  rotate_left
  · simp only [Act.put, List.setIfInBounds_toArray, List.set_cons_zero, List.set_cons_succ, i64_w, i32_w]
    rfl
  refine done_ (by kernel_rfl) ?_
  go_wp2_with fail
  go_ret
  exact ⟨rfl, HW9.out⟩
end Go.Proofs.Ytkmhgolohppliaa.Cel

/-! Cells: same, new and copied cells, walked. -/
namespace Go.Proofs.Ytkmhgolohppliaa.Cel
open Go.RowKit Go.Proofs.Ytkmhgolohppliaa.PCellsPlays Go.Proofs.YtkmhgolohppliaaW.PrintWords Go.Proofs.YtkmhgolohppliaaW.PrintLast Go.Proofs.YtkmhgolohppliaaW.PrintMore Go.Proofs.Ytkmhgolohppliaa.Mine
set_option linter.unusedVariables false
set_option linter.unusedSimpArgs false
attribute [local go_sem] max2_int min2_int max_two min_two max_three min_three max_four min_four

variable {w : World} {base g : Nat} {v1 v2 : Value} {fst : List S43} {now : List Int} {wr : Int}

theorem rd_nat (l : List Int) (i : Nat) (h : i < l.length) : rd l (i : Int) = l[i] := by
  unfold rd
  rw [Int.toNat_natCast, List.getD_eq_getElem?_getD, List.getElem?_eq_getElem h]; rfl
theorem equal_tell (a b : List Int) (hl : a.length = b.length) (hm : a.length ≤ 1000000) (d : Nat) : ∀ (k i : Nat), i ≤ a.length → a.length - i = d → d < k → (∀ j : Nat, j < i → rd a j = rd b j) →
    slices_Equal_uint32_uint32.l0 k a b (a.length : Int) (i : Int) = some (decide (a = b)) := by
  induction d with
  | zero =>
    intro k i hi hd hk hp
    obtain ⟨k, rfl⟩ : ∃ m, k = m + 1 := ⟨k - 1, by omega⟩
    obtain rfl : i = a.length := by omega
    simp only [slices_Equal_uint32_uint32.l0]
    rw [if_neg (by omega)]
    have : a = b := List.ext_getElem hl (fun j h1 h2 => by have := hp j h1; rwa [rd_nat _ _ h1, rd_nat _ _ h2] at this)
    simp [this]
  | succ d ih =>
    intro k i hi hd hk hp
    obtain ⟨k, rfl⟩ : ∃ m, k = m + 1 := ⟨k - 1, by omega⟩
    have c1 : (i : Int) < (a.length : Int) := by omega
    have c2 : (0 : Int) ≤ (i : Int) := by omega
    have c3 : (i : Int) < (b.length : Int) := by omega
    have e : wrap64 ((i : Int) + 1) = ((i + 1 : Nat) : Int) := by unfold wrap64; omega
    simp only [slices_Equal_uint32_uint32.l0]
    rw [if_pos c1, if_pos c2, if_pos c1, if_pos c3]
    by_cases hq : rd a i = rd b i
    · rw [if_pos hq, e]
      clear e
      exact ih k (i + 1) (by omega) (by omega) (by omega) (fun j hj => by
        by_cases ej : j = i
        · subst ej; exact hq
        · exact hp j (by omega))
    · rw [if_neg hq]
      have : a ≠ b := by rintro rfl; exact hq rfl
      simp [this]
theorem equal_at (a b : List Int) (hm : a.length ≤ 1000000) : slices_Equal_uint32_uint32.f (a.length + 5) a b = some (decide (a = b)) := by
  unfold slices_Equal_uint32_uint32.f
  by_cases h : (a.length : Int) = (b.length : Int)
  · rw [if_pos h]
    exact equal_tell a b (by omega) hm a.length (a.length + 5) 0 (by omega) (by omega) (by omega) (fun j hj => absurd hj (Nat.not_lt_zero _))
  · rw [if_neg h]
    have : a ≠ b := by rintro rfl; exact h rfl
    simp [this]

set_option maxHeartbeats 1600000 in
set_option maxRecDepth 100000 in
theorem same_calls {base2 g2 : Nat} {u1 u2 : Value} {fst2 : List S43} {now2 : List Int} {wr2 : Int} (h : IsCells w base g v1 v2 fst now wr) (h2 : IsCells w base2 g2 u1 u2 fst2 now2 wr2) (hn : now.length ≤ 1000000) :
    Calls Try.prog 30 #[.pointer (some ⟨g, 0, none⟩), .pointer (some ⟨g2, 0, none⟩)] w fun e w' => e = .returned (.bool (decide (now = now2))) ∧ Drawn0 w w' := by
  obtain ⟨B, c2, rfl, hcB, _⟩ := Kd.R_reads h.now_
  obtain ⟨B2, c3, rfl, hcB2, _⟩ := Kd.R_reads h2.now_
  obtain ⟨W, hW⟩ : ∃ W, W = w.drew := ⟨_, rfl⟩
  have HE : Hid (∀ W : World, W = w.drew → Calls Try.prog 97 #[.slice B now.length c2, .slice B2 now2.length c3] W fun e w' => e = .returned (.bool (decide (now = now2))) ∧ Drawn0 W w') := Go.Lib.hid (fun W hI => by
    subst hI
    obtain ⟨B', c2', he, _, hB⟩ := Kd.R_reads h.drew.now_
    obtain ⟨B2', c3', he2, _, hB2⟩ := Kd.R_reads h2.drew.now_
    injection he with he _ _
    injection he2 with he2 _ _
    subst he he2
    exact slices_Equal_uint32_uint32.calls (now.length + 5) B c2 now B2 c3 now2 _ _ hB hcB hB2 hcB2 (equal_at now now2 hn))
  replace HE := Go.Lib.hid (HE.out _ rfl)
  have hc0 := blk_cell h.drew.blk 1
  have hc1 := blk_cell h2.drew.blk 1
  have hdw : Hid (Drawn0 w w.drew) := Go.Lib.hid ((Drawn0.refl w).step 1)
  clear h h2 hW W
  generalize decide (now = now2) = fr at *
  go_enter Try.func30, Try.ntmps30
  go_wp2_with fail
  refine start_ (n := 10) (S := fun w' => w'.cell? ⟨g, 1, none⟩ = some (.slice B now.length c2) ∧ w'.cell? ⟨g2, 1, none⟩ = some (.slice B2 now2.length c3)) (ds := []) #[false, false, false, false, false, false, false, false, false, false] (by kernel_rfl) rfl rfl ⟨hc0, hc1⟩ (fun hHeld => ?_)
  generalize w.drew = W at *
  refine pure_ (i := 0) (N := some 5) (v := ?_) (a' := ?_) #[true, false, false, false, false, false, false, false, false, false] rfl rfl (by kernel_rfl) (fun _ _ _ h => h) (Or.inl ⟨by rfl, ?_⟩) ?_ ?_
  rotate_left
  · intro w'
    go_simp
    with_reducible rfl
  rotate_left
  · simp only [Act.put, List.setIfInBounds_toArray, List.set_cons_zero, List.set_cons_succ, i64_w, i32_w]
    rfl
  refine pure_ (i := 1) (N := some 6) (v := ?_) (a' := ?_) #[true, true, false, false, false, false, false, false, false, false] rfl rfl (by kernel_rfl) (fun _ _ _ h => h) (Or.inl ⟨by rfl, ?_⟩) ?_ ?_
  rotate_left
  · intro w'
    go_simp
    with_reducible rfl
  rotate_left
  · simp only [Act.put, List.setIfInBounds_toArray, List.set_cons_zero, List.set_cons_succ, i64_w, i32_w]
    rfl
  refine pure_ (i := 2) (N := some 7) (v := ?_) (a' := ?_) #[true, true, true, false, false, false, false, false, false, false] rfl rfl (by kernel_rfl) (fun _ _ _ h => h) (Or.inl ⟨by rfl, ?_⟩) ?_ ?_
  rotate_left
  · intro w'
    go_simp
    with_reducible rfl
  rotate_left
  · simp only [Act.put, List.setIfInBounds_toArray, List.set_cons_zero, List.set_cons_succ, i64_w, i32_w]
    rfl
  refine take_ (i := 3) (N := some 8) (v := ?_) (a' := ?_) #[true, true, true, true, false, false, false, false, false, false] rfl rfl (by kernel_rfl) (fun _ _ _ h => h) (Or.inl ⟨by rfl, ?_⟩) hHeld ?_ ?_
  rotate_left
  · rintro w' ⟨s0, s1⟩
    go_simp
    with_reducible rfl
  rotate_left
  · simp only [Act.put, List.setIfInBounds_toArray, List.set_cons_zero, List.set_cons_succ, i64_w, i32_w]
    rfl
  refine pure_ (i := 4) (N := some 9) (v := ?_) (a' := ?_) #[true, true, true, true, true, false, false, false, false, false] rfl rfl (by kernel_rfl) (fun _ _ _ h => h) (Or.inl ⟨by rfl, ?_⟩) ?_ ?_
  rotate_left
  · intro w'
    go_simp
    with_reducible rfl
  rotate_left
  · simp only [Act.put, List.setIfInBounds_toArray, List.set_cons_zero, List.set_cons_succ, i64_w, i32_w]
    rfl
  refine pure_ (i := 5) (N := some 10) (v := ?_) (a' := ?_) #[true, true, true, true, true, true, false, false, false, false] rfl rfl (by kernel_rfl) (fun _ _ _ h => h) (Or.inl ⟨by rfl, ?_⟩) ?_ ?_
  rotate_left
  · intro w'
    go_simp
    with_reducible rfl
  rotate_left
  · simp only [Act.put, List.setIfInBounds_toArray, List.set_cons_zero, List.set_cons_succ, i64_w, i32_w]
    rfl
  refine pure_ (i := 6) (N := some 11) (v := ?_) (a' := ?_) #[true, true, true, true, true, true, true, false, false, false] rfl rfl (by kernel_rfl) (fun _ _ _ h => h) (Or.inl ⟨by rfl, ?_⟩) ?_ ?_
  rotate_left
  · intro w'
    go_simp
    with_reducible rfl
  rotate_left
  · simp only [Act.put, List.setIfInBounds_toArray, List.set_cons_zero, List.set_cons_succ, i64_w, i32_w]
    rfl
  refine take_ (i := 7) (N := some 12) (v := ?_) (a' := ?_) #[true, true, true, true, true, true, true, true, false, false] rfl rfl (by kernel_rfl) (fun _ _ _ h => h) (Or.inl ⟨by rfl, ?_⟩) hHeld ?_ ?_
  rotate_left
  · rintro w' ⟨s0, s1⟩
    go_simp
    with_reducible rfl
  rotate_left
  · simp only [Act.put, List.setIfInBounds_toArray, List.set_cons_zero, List.set_cons_succ, i64_w, i32_w]
    rfl
  refine one_ (i := 8) (N := some 13) #[true, true, true, true, true, true, true, true, true, false] rfl rfl (by kernel_rfl) (by decide) (fun K hK => ?_)
  refine goes_ Try.func97 (by kernel_rfl) rfl #[.slice B now.length c2, .slice B2 now2.length c3] (by rfl) rfl rfl (by (try simp only [List.map_toArray, List.map_cons, List.map_nil]); first | done | rfl) ?_
  refine (HE.out).mono ?_
  rintro e w9 ⟨rfl, hd9⟩
  obtain ⟨n9, rfl⟩ := hd9.out
  refine ⟨_, rfl, ?_⟩
  refine hK.out _ _ hHeld (fun hHeld => ?_)
  clear hK K
  refine norm_ (a' := ?_) ?_ ?_
  rotate_left
  · show Act.put _ (some 13) _ = _
    simp only [Act.put, List.setIfInBounds_toArray, List.set_cons_zero, List.set_cons_succ, i64_w, i32_w]
    rfl
  refine pure_ (i := 9) (N := some 4) (v := ?_) (a' := ?_) #[true, true, true, true, true, true, true, true, true, true] rfl rfl (by kernel_rfl) (fun _ _ _ h => h) (Or.inl ⟨by rfl, ?_⟩) ?_ ?_
  rotate_left
  · intro w'
    go_simp
    with_reducible rfl
  rotate_left
  · simp only [Act.put, List.setIfInBounds_toArray, List.set_cons_zero, List.set_cons_succ, i64_w, i32_w]
    rfl
  refine done_ (by kernel_rfl) ?_
  go_wp2_with fail
  go_ret
  exact ⟨rfl, hdw.out.step _⟩

theorem own_new (W : World) (n : Nat) (hn : n ≤ 1000000) : (Kd.int .u32).R 39 (W.alloc (.cells (madeCells #[.int .u32 0] n) 39)) W.heap.size (fun i => (Value.slice (some ⟨W.heap.size, 0, none⟩) n n).ownBlock = some i) (.slice (some ⟨W.heap.size, 0, none⟩) n n) (List.replicate n 0) :=
  Kd.R_of_own (h1 := fun _ => rfl) (own_made_of' (enc := Value.int .u32) (d := (0 : Int)) W W.heap.size 39 n (Nat.le_refl _) (by omega)) (fun k hk => hk)

end Go.Proofs.Ytkmhgolohppliaa.Cel

/-! Cells: new cells, walked. -/
namespace Go.Proofs.Ytkmhgolohppliaa.Cel
open Go.RowKit Go.Proofs.Ytkmhgolohppliaa.PCellsPlays Go.Proofs.YtkmhgolohppliaaW.PrintWords Go.Proofs.YtkmhgolohppliaaW.PrintLast Go.Proofs.YtkmhgolohppliaaW.PrintMore Go.Proofs.Ytkmhgolohppliaa.Mine
set_option linter.unusedVariables false
set_option linter.unusedSimpArgs false
attribute [local go_sem] max2_int min2_int max_two min_two max_three min_three max_four min_four
variable {w : World} {base g : Nat} {v1 v2 : Value} {fst : List S43} {now : List Int} {wr : Int}

theorem rd43_get (fst : List S43) (k : Nat) (h : k < fst.length) : rd_T43 fst (k : Int) = fst[k] := by
  unfold rd_T43
  rw [Int.toNat_natCast, List.getD_eq_getElem?_getD, List.getElem?_eq_getElem h]; rfl
theorem back_get (fst : List S43) (now : List Int) (hl : now.length = fst.length) (cold : Bool) : ∀ (k j : Nat), k ≤ fst.length → (hj : j < fst.length) →
    (back cold fst now k)[j]? = some (if j < k ∧ goes cold fst[j] = true then fst[j].f0 else now[j]'(by omega)) := by
  intro k
  induction k with
  | zero => intro j _ hj; simp [back]
  | succ k ih =>
    intro j hk hj
    have hb := back_len cold fst now k
    have e := rd43_get fst k (by omega)
    unfold back
    rw [e]
    by_cases hg : goes cold fst[k] = true
    · rw [if_pos hg, List.getElem?_set]
      by_cases ej : k = j
      · subst ej
        rw [if_pos rfl, if_pos (by omega), if_pos ⟨by omega, hg⟩]
      · rw [if_neg ej, ih j (by omega) hj]
        congr 1
        by_cases h2 : j < k ∧ goes cold fst[j] = true
        · rw [if_pos h2, if_pos ⟨by omega, h2.2⟩]
        · rw [if_neg h2, if_neg (fun h3 => h2 ⟨by omega, h3.2⟩)]
    · rw [if_neg hg, ih j (by omega) hj]
      congr 1
      by_cases h2 : j < k ∧ goes cold fst[j] = true
      · rw [if_pos h2, if_pos ⟨by omega, h2.2⟩]
      · rw [if_neg h2, if_neg (fun h3 => h2 ⟨by
          rcases Nat.lt_or_ge j k with h4 | h4
          · exact h4
          · have : j = k := by omega
            subst this; exact absurd h3.2 hg, h3.2⟩)]
theorem back_all (fst : List S43) (now : List Int) (hl : now.length = fst.length) : back true fst now fst.length = fst.map (·.f0) := by
  apply List.ext_getElem?
  intro j
  rcases Nat.lt_or_ge j fst.length with hj | hj
  · rw [back_get fst now hl true fst.length j (Nat.le_refl _) hj, if_pos ⟨hj, rfl⟩]
    simp [hj]
  · have := back_len true fst now fst.length
    rw [List.getElem?_eq_none (by omega), List.getElem?_eq_none (by simp; omega)]
/-- New cells, the copy made first. -/
theorem made_a {w5 : World} {A5 : Option Addr} {c5 : Nat} {B : Nat} (hR : k43.R 43 w5 B (fun _ => True) (.slice A5 fst.length c5) fst) (hB : Below B w.drew w5) (hb : w.heap.size = B) (hn : fst.length ≤ 1000) :
    IsCells ((w5.alloc (.cells (madeCells #[.int .u32 0] fst.length) 39)).alloc (.cells #[.slice A5 fst.length c5, .slice (some ⟨w5.heap.size, 0, none⟩) fst.length fst.length, .int .i64 0] 170))
      w.heap.size (w5.heap.size + 1) (.slice A5 fst.length c5) (.slice (some ⟨w5.heap.size, 0, none⟩) fst.length fst.length) fst (List.replicate fst.length 0) 0 ∧
    Below w.heap.size w ((w5.alloc (.cells (madeCells #[.int .u32 0] fst.length) 39)).alloc (.cells #[.slice A5 fst.length c5, .slice (some ⟨w5.heap.size, 0, none⟩) fst.length fst.length, .int .i64 0] 170)) := by
  subst hb
  have hsz : w.heap.size ≤ w5.heap.size := hB.size
  have hB' : Below w.heap.size w w5 := (below_drew1 (Below.refl _ _)).trans hB
  refine ⟨⟨?_, by omega, ?_, ?_, by simp⟩, below_alloc (below_alloc hB' _) _⟩
  · have hz : (w5.alloc (.cells (madeCells #[.int .u32 0] fst.length) 39)).heap.size = w5.heap.size + 1 := by simp
    have h := heap_alloc_new (w5.alloc (.cells (madeCells #[.int .u32 0] fst.length) 39)) (.cells #[.slice A5 fst.length c5, .slice (some ⟨w5.heap.size, 0, none⟩) fst.length fst.length, .int .i64 0] 170)
    rw [hz] at h
    exact h
  · exact Kd.R_alloc (Kd.R_alloc (Kd.R_flat (fun h => h) hR (fun k hk _ => hk)) _) _
  · exact Kd.R_alloc (Kd.R_lower (own_new w5 fst.length (by omega)) hsz) _
/-- New cells, the numbers made first. -/
theorem made_b {w5 : World} {A5 : Option Addr} {c5 : Nat} {B : Nat} (hR : k43.R 43 w5 B (fun _ => True) (.slice A5 fst.length c5) fst) (hB : Below B (w.alloc (.cells (madeCells #[.int .u32 0] fst.length) 39)).drew w5)
    (hb : (w.alloc (.cells (madeCells #[.int .u32 0] fst.length) 39)).drew.heap.size = B) (hn : fst.length ≤ 1000) :
    IsCells (w5.alloc (.cells #[.slice A5 fst.length c5, .slice (some ⟨w.heap.size, 0, none⟩) fst.length fst.length, .int .i64 0] 170))
      w.heap.size w5.heap.size (.slice A5 fst.length c5) (.slice (some ⟨w.heap.size, 0, none⟩) fst.length fst.length) fst (List.replicate fst.length 0) 0 ∧
    Below w.heap.size w (w5.alloc (.cells #[.slice A5 fst.length c5, .slice (some ⟨w.heap.size, 0, none⟩) fst.length fst.length, .int .i64 0] 170)) := by
  subst hb
  have hz : (w.alloc (.cells (madeCells #[.int .u32 0] fst.length) 39)).drew.heap.size = w.heap.size + 1 := by simp
  have hsz := hB.size
  rw [hz] at hsz
  have hB' : Below w.heap.size w w5 := Below.chg (below_drew1 (below_alloc (Below.refl _ _) _)) (Chg.of_below (S := fun _ => False) hB) (fun _ h => False.elim h) (by omega)
  refine ⟨⟨?_, by omega, ?_, ?_, by simp⟩, below_alloc hB' _⟩
  · exact heap_alloc_new w5 _
  · exact Kd.R_alloc (Kd.R_lower (Kd.R_flat (fun h => h) hR (fun k hk _ => hk)) (by omega)) _
  · exact Kd.R_alloc (Kd.R_below (Kd.R_drew (own_new w fst.length (by omega))) hB) _

set_option maxHeartbeats 3200000 in
set_option maxRecDepth 100000 in
theorem new_calls (A : Option Addr) (c : Nat) (hC : k43.C w A fst.length fst) (hn : fst.length ≤ 1000) :
    Calls Try.prog 23 #[.slice A fst.length c] w fun e w' => ∃ g v1 v2, e = .returned (.pointer (some ⟨g, 0, none⟩)) ∧ IsCells w' w.heap.size g v1 v2 fst (fst.map (·.f0)) 0 ∧ Below w.heap.size w w' := by
  have HC := Go.Lib.hid hC
  have hmk := print_make (P := Try.prog) 36 39 .u32 4 Try.underlying36 (by kernel_rfl) (by decide) fst.length (by omega)
  clear hC
  go_enter Try.func23, Try.ntmps23
  go_wp2_with fail
  go_region_with (first | (go_at_call 89; refine (clone89_calls A fst.length c fst _ ?hC (by omega)).mono ?_; (case hC => first | exact Kd.C_drew HC.out | exact Kd.C_alloc (Kd.C_drew HC.out) _); rintro e w5 ⟨s5, rfl, hR5, hB5⟩; obtain ⟨A5, c5, hs5, _, _⟩ := Kd.R_reads hR5; subst hs5; have HR5 := Go.Lib.hid hR5; have HB5 := Go.Lib.hid hB5; clear hR5 hB5))
  all_goals go_ways
  all_goals go_wp2_with fail
  · obtain ⟨hI, hBw⟩ := made_a HR5.out HB5.out rfl hn
    refine (cold_calls hI (by omega)).mono ?_
    rintro e w6 ⟨rfl, hI6, hC6⟩
    have hbw := Below.chg hBw hC6 (fun i hi => hI.ge i hi.all) hBw.size
    rw [back_all fst _ (by simp)] at hI6
    have HI6 := Go.Lib.hid hI6
    have HW := Go.Lib.hid hbw
    clear hI hBw hC6 hI6 hbw HR5 HB5 hmk
    go_wp2_with fail
    go_ret
    exact ⟨_, _, _, rfl, HI6.out, HW.out⟩
  · obtain ⟨hI, hBw⟩ := made_b HR5.out HB5.out rfl hn
    refine (cold_calls hI (by omega)).mono ?_
    rintro e w6 ⟨rfl, hI6, hC6⟩
    have hbw := Below.chg hBw hC6 (fun i hi => hI.ge i hi.all) hBw.size
    rw [back_all fst _ (by simp)] at hI6
    have HI6 := Go.Lib.hid hI6
    have HW := Go.Lib.hid hbw
    clear hI hBw hC6 hI6 hbw HR5 HB5 hmk
    go_wp2_with fail
    go_ret
    exact ⟨_, _, _, rfl, HI6.out, HW.out⟩
end Go.Proofs.Ytkmhgolohppliaa.Cel

/-! Cells: awake, walked. -/
namespace Go.Proofs.Ytkmhgolohppliaa.Cel
open Go.RowKit Go.Proofs.Ytkmhgolohppliaa.PCellsPlays Go.Proofs.YtkmhgolohppliaaW.PrintWords Go.Proofs.YtkmhgolohppliaaW.PrintLast Go.Proofs.YtkmhgolohppliaaW.PrintMore Go.Proofs.Ytkmhgolohppliaa.Mine
set_option linter.unusedVariables false
set_option linter.unusedSimpArgs false
attribute [local go_sem] max2_int min2_int max_two min_two max_three min_three max_four min_four

variable {w : World} {base g : Nat} {v1 v2 : Value} {fst : List S43} {now : List Int} {wr : Int}

theorem lit2 (w : World) : k43.C (w.alloc (.cells #[.int .u32 1, .bool true, .int .u32 2, .bool false] 43)) (some ⟨w.heap.size, 0, none⟩) 2 [⟨1, true⟩, ⟨2, false⟩] := by
  have h := OwnRow.lit (R := k43.K (w.alloc (.cells #[.int .u32 1, .bool true, .int .u32 2, .bool false] 43))) (size := 2) (e := 43) (ps := [(⟨1, true⟩ : S43), ⟨2, false⟩]) w w.heap.size
    (inner := [.int .u32 1, .bool true, .int .u32 2, .bool false]) ⟨rfl, fun j p hj => by
      match j, hj with
      | 0, hj => obtain rfl : (⟨1, true⟩ : S43) = p := by simpa using hj
                 exact k43_mk _ _
      | 1, hj => obtain rfl : (⟨2, false⟩ : S43) = p := by simpa using hj
                 exact k43_mk _ _
      | j + 2, hj => simp at hj⟩ (Nat.le_refl _) (by decide)
  obtain ⟨A, c, he, _, hC⟩ := h.reads
  injection he with he _ _
  subst he
  exact hC
/-- A row of two numbers, read. -/
theorem row_at {W : World} {B : Nat} {ok : Nat → Prop} {v : Value} {xs : List Int} (h : (Kd.int .u32).R 39 W B ok v xs) (hp : 0 < xs.length) :
    ∃ b cap, v = .slice (some ⟨b, 0, none⟩) xs.length cap ∧ ∀ i : Nat, i < xs.length → W.cell? ⟨b, i, none⟩ = some (.int .u32 (rd xs i)) := by
  have ho := Kd.own_of_R h
  obtain ⟨b, cap, rfl, _, _⟩ := ho.form hp
  exact ⟨b, cap, rfl, fun i hi => (own_at_of (d := (0 : Int)) ho (i : Int) (by omega) (by simpa using hi)).1⟩

set_option maxHeartbeats 1600000 in
set_option maxRecDepth 100000 in
theorem awake_calls (w : World) : Calls Try.prog 22 #[] w fun e w' => e = .returned (.bool true) ∧ Below w.heap.size w w' := by
  go_enter Try.func22, Try.ntmps22
  go_wp2_with fail
  refine (new_calls (fst := [⟨1, true⟩, ⟨2, false⟩]) _ 2 (lit2 w) (by decide)).mono ?_
  rintro e w1 ⟨g, v1, v2, rfl, hI1, hB1⟩
  have hb : Below w.heap.size w w1 := Below.chg (below_alloc (Below.refl _ _) _) (Chg.of_below (S := fun _ => False) hB1) (fun _ h => False.elim h) (by simp)
  have HI := Go.Lib.hid hI1
  have HW := Go.Lib.hid hb
  have HG := Go.Lib.hid (show ∀ i, All g v1 v2 i → w.heap.size ≤ i from fun i hi => by have := hI1.ge i hi; simp at this; omega)
  clear hI1 hB1 hb
  go_wp2_with fail
  refine (set_yes HI.out 0 9 (by rfl) (by decide) (by decide)).mono ?_
  rintro e w2 ⟨rfl, hI, hC⟩
  replace HI := Go.Lib.hid hI
  replace HW := Go.Lib.hid (Below.chg HW.out hC (fun i hi => HG.out i hi.all) HW.out.size)
  clear hI hC
  go_wp2_with fail
  refine (set_yes HI.out 1 9 (by rfl) (by decide) (by decide)).mono ?_
  rintro e w3 ⟨rfl, hI, hC⟩
  replace HI := Go.Lib.hid hI
  replace HW := Go.Lib.hid (Below.chg HW.out hC (fun i hi => HG.out i hi.all) HW.out.size)
  clear hI hC
  go_wp2_with fail
  refine (warm_calls HI.out (by decide)).mono ?_
  rintro e w4 ⟨rfl, hI, hC⟩
  replace HI := Go.Lib.hid hI
  replace HW := Go.Lib.hid (Below.chg HW.out hC (fun i hi => HG.out i hi.all) HW.out.size)
  clear hI hC
  go_wp2_with fail
  refine (all_calls HI.out (by decide)).mono ?_
  rintro e w5 ⟨v, rfl, hR, hB⟩
  replace HW := Go.Lib.hid (Below.chg HW.out (Chg.of_below (S := fun _ => False) hB) (fun _ h => False.elim h) HW.out.size)
  replace hR : (Kd.int .u32).R 39 w5 w4.heap.size (fun _ => True) v [9, 2] := hR
  obtain ⟨b, cap, rfl, hat⟩ := row_at hR (by decide)
  have h0 : w5.cell? ⟨b, 0, none⟩ = some (.int .u32 9) := hat 0 (by decide)
  have h1 : w5.cell? ⟨b, 1, none⟩ = some (.int .u32 2) := hat 1 (by decide)
  clear hR hB hat HI HG
  go_wp2_with fail
  go_ret
  exact ⟨rfl, HW.out⟩
end Go.Proofs.Ytkmhgolohppliaa.Cel

/-! CellsWarm, walked. -/
namespace Go.Proofs.Ytkmhgolohppliaa.Cel
open Go.RowKit Go.Proofs.Ytkmhgolohppliaa.PCellsPlays Go.Proofs.YtkmhgolohppliaaW.PrintWords Go.Proofs.YtkmhgolohppliaaW.PrintLast Go.Proofs.YtkmhgolohppliaaW.PrintMore Go.Proofs.Ytkmhgolohppliaa.Mine
set_option linter.unusedVariables false
set_option linter.unusedSimpArgs false
attribute [local go_sem] max2_int min2_int max_two min_two max_three min_three max_four min_four

variable {w : World} {base g : Nat} {v1 v2 : Value} {fst : List S43} {now : List Int} {wr : Int}
/-- A slice of integers as the row's opener gives it. -/
def IsRow (k : IntKind) (w : World) (a : Option Addr) (len cap : Nat) (zs : List Int) : Prop :=
  (a = none ∧ len = 0 ∧ cap = 0 ∧ zs = []) ∨
  ∃ x, a = some x ∧ len ≤ cap ∧ cap ≤ maxLen ∧ zs.length = cap ∧ (∀ i, i < zs.length → w.cell? (x.add i) = some (.int k (zs.getD i 0))) ∧ ∀ n ∈ zs, (Lit.int k n).wf = true
theorem IsRow.at_ {k : IntKind} {w : World} {a : Option Addr} {len cap : Nat} {zs : List Int} (h : IsRow k w a len cap zs) (i : Nat) (hi : i < len) :
    ∃ x, a = some x ∧ x.block < w.heap.size ∧ w.cell? (x.add i) = some (.int k (zs.getD i 0)) ∧ len ≤ cap := by
  rcases h with ⟨_, rfl, _, _⟩ | ⟨x, rfl, hl, hm, hz, hc, hw⟩
  · omega
  · have hlt : i < zs.length := by omega
    have hcell := hc i hlt
    refine ⟨x, rfl, ?_, hcell, hl⟩
    have := World.block_lt_of_cell? w _ hcell
    rwa [add_block] at this

theorem fresh_map (fst : List S43) : fresh fst (fst.map (·.f0)) = true := by
  unfold fresh
  rw [decide_eq_true_iff]
  intro i hi
  rw [rd43_get fst i hi, rd_nat _ i (by simpa using hi)]
  simp
theorem back_rd (fst : List S43) (now : List Int) (hl : now.length = fst.length) (k : Nat) (hk : k < fst.length) :
    rd (back false fst now fst.length) k = if (rd_T43 fst k).f1 = true then rd now k else (rd_T43 fst k).f0 := by
  have h := back_get fst now hl false fst.length k (Nat.le_refl _) hk
  have hb := back_len false fst now fst.length
  rw [rd_nat _ k (by omega), rd_nat _ k (by omega), rd43_get fst k hk]
  rw [List.getElem?_eq_getElem (by omega)] at h
  injection h with h
  rw [h]
  by_cases hx : fst[k].f1 = true
  · rw [if_neg (by rintro ⟨_, h2⟩; unfold goes at h2; simp [hx] at h2), if_pos hx]
  · rw [if_pos ⟨hk, by unfold goes; simp at hx; simp [hx]⟩, if_neg hx]

set_option maxHeartbeats 6400000 in
set_option maxRecDepth 100000 in
theorem cellsWarm_walk (w : World) (A : Option Addr) (n c : Nat) (fst : List S43) (hC0 : n ≤ c ∧ k43.C w A n fst ∧ ∀ z ∈ fst, (Lit.int .u32 z.f0).wf = true) (a : Option Addr) (len cap : Nat) (zs : List Int) (hr : IsRow .u32 w a len cap zs) :
    Calls Try.prog 5 #[.slice A n c, .slice a len cap] w fun e w' => e = .returned (.bool true) ∧ Below w.heap.size w w' := by
  have hC := hC0.2.1
  clear hC0
  obtain rfl : fst.length = n := hC.1
  have HC := Go.Lib.hid hC
  have HR := Go.Lib.hid hr
  clear hC hr
  by_cases h1 : (40 : Int) < (fst.length : Int)
  · have h1' : decide ((40 : Int) < (fst.length : Int)) = true := by simpa using h1
    clear h1
    go_enter Try.func5, Try.ntmps5
    go_wp2_with fail
    refine (awake_calls w).mono ?_
    rintro e w5 ⟨rfl, hB5⟩
    have HB := Go.Lib.hid hB5
    clear hB5
    go_wp2_with fail
    go_ret
    exact ⟨rfl, HB.out⟩
  have h1' : decide ((40 : Int) < (fst.length : Int)) = false := by simpa using h1
  by_cases h2 : (40 : Int) < (len : Int)
  · have h2' : decide ((40 : Int) < (len : Int)) = true := by simpa using h2
    clear h1 h2
    go_enter Try.func5, Try.ntmps5
    go_wp2_with fail
    refine (awake_calls w).mono ?_
    rintro e w5 ⟨rfl, hB5⟩
    have HB := Go.Lib.hid hB5
    clear hB5
    go_wp2_with fail
    go_ret
    exact ⟨rfl, HB.out⟩
  have h2' : decide ((40 : Int) < (len : Int)) = false := by simpa using h2
  have hn : fst.length ≤ 40 := by omega
  have hl : len ≤ 40 := by omega
  clear h1 h2
  go_enter Try.func5, Try.ntmps5
  go_wp2_with fail
  refine (new_calls (fst := fst) _ c HC.out (by omega)).mono ?_
  rintro e w1 ⟨g, v1, v2, rfl, hI1, hB1⟩
  have HI := Go.Lib.hid hI1
  have HW := Go.Lib.hid hB1
  have HG := Go.Lib.hid hI1.ge
  have HF := Go.Lib.hid (fresh_calls hI1)
  rw [fresh_map] at HF
  clear hI1 hB1
  go_wp2_with fail
  refine HF.out.mono ?_
  rintro e w2 ⟨rfl, hB⟩
  replace HI := Go.Lib.hid (HI.out.below hB)
  replace HW := Go.Lib.hid (Below.chg HW.out (Chg.of_below (S := fun _ => False) hB) (fun _ h => False.elim h) HW.out.size)
  clear hB HF
  go_wp2_with fail
  go_loopw [32] (fun i wr => ∃ (k : Nat) (nw : List Int) (m : Int), k ≤ len ∧ i = .int .i64 k ∧ 0 ≤ m ∧ m ≤ k ∧ IsCells wr w.heap.size g v1 v2 fst nw m ∧ Below w.heap.size w wr) (fun i _ => len - (intOf i).toNat)
  case atStart => exact ⟨0, _, 0, Nat.zero_le _, rfl, by omega, by omega, HI.out, HW.out⟩
  case round =>
    obtain ⟨k, nw, m, hk, rfl, hm0, hm1, hI, hB⟩ := hrel
    have HI := Go.Lib.hid hI
    have HW := Go.Lib.hid hB
    clear hI hB
    by_cases hlt : k < len
    · obtain ⟨x, rfl, hxb, hcell, hlc⟩ := HR.out.at_ k hlt
      have hc : wr.cell? (x.add k) = some (.int .u32 (zs.getD k 0)) := by rw [HW.out.cell (by rw [add_block]; exact hxb)]; exact hcell
      clear hcell
      generalize zs.getD k 0 = z at *
      by_cases hin : inB (k : Int) nw.length = true
      · have HS := Go.Lib.hid (set_yes HI.out (k : Int) z hin hm0 (by omega))
        clear hin
        go_wp2_with fail
        refine HS.out.mono ?_
        rintro e w3 ⟨rfl, hI3, hC3⟩
        replace HI := Go.Lib.hid hI3
        replace HW := Go.Lib.hid (Below.chg HW.out hC3 (fun i hi => HG.out i hi.all) HW.out.size)
        clear hI3 hC3 HS
        go_wp2_with fail
        go_roundw
        case rel => exact ⟨k + 1, _, m + 1, by omega, by go_num, by omega, by omega, HI.out, HW.out⟩
        case measure => simp [intOf]; omega
      · have HS := Go.Lib.hid (set_no HI.out (k : Int) z (by simpa using hin))
        clear hin
        go_wp2_with fail
        refine HS.out.mono ?_
        rintro e w3 ⟨rfl, rfl⟩
        clear HS
        go_wp2_with fail
        go_roundw
        case rel => exact ⟨k + 1, _, m, by omega, by go_num, by omega, by omega, HI.out, HW.out⟩
        case measure => simp [intOf]; omega
    · obtain rfl : k = len := by omega
      have hnl : nw.length = fst.length := HI.out.len
      go_wp2_with fail
      refine (all_calls HI.out (by omega)).mono ?_
      rintro e w3 ⟨s8, rfl, hR3, hB3⟩
      have hlt0 := HI.out.lt
      replace HI := Go.Lib.hid (HI.out.below hB3)
      have hold := Kd.R_flat (fun h => h) hR3 (ok' := fun i => wr.heap.size ≤ i) (fun i hi _ => Kd.R_base hR3 i hi)
      have HLT := Go.Lib.hid (show ∀ i, All g v1 v2 i → i < w3.heap.size ∧ ¬ wr.heap.size ≤ i from fun i hi => ⟨HI.out.lt i hi, by have := hlt0 i hi; omega⟩)
      replace HW := Go.Lib.hid (Below.chg HW.out (Chg.of_below (S := fun _ => False) hB3) (fun _ h => False.elim h) HW.out.size)
      have HO := Go.Lib.hid hold
      clear hR3 hB3 hold hlt0
      go_wp2_with fail
      refine (warm_calls HI.out (by omega)).mono ?_
      rintro e w4 ⟨rfl, hI4, hC4⟩
      have ho4 := R_chg HO.out hC4 (fun i hi hm => (HLT.out i hm.all).2 hi)
      replace HI := Go.Lib.hid hI4
      replace HW := Go.Lib.hid (Below.chg HW.out hC4 (fun i hi => HG.out i hi.all) HW.out.size)
      replace HO := Go.Lib.hid ho4
      clear hI4 hC4 ho4 HLT
      go_wp2_with fail
      refine (all_calls HI.out (by rw [back_len]; omega)).mono ?_
      rintro e w5 ⟨s9, rfl, hR5, hB5⟩
      have ho5 := Kd.R_below HO.out hB5
      replace HI := Go.Lib.hid (HI.out.below hB5)
      replace HW := Go.Lib.hid (Below.chg HW.out (Chg.of_below (S := fun _ => False) hB5) (fun _ h => False.elim h) HW.out.size)
      obtain ⟨D, d, rfl, hcD, hD⟩ := Kd.R_reads ho5
      obtain ⟨E, e, rfl, hcE, hE⟩ := Kd.R_reads hR5
      have HD := Go.Lib.hid hD
      have HE := Go.Lib.hid hE
      have HBK := Go.Lib.hid (back_rd fst nw hnl)
      rw [back_len, hnl] at *
      clear ho5 hB5 hR5 hcD hcE hD hE HO
      generalize back false fst nw fst.length = nx at *
      go_wp2_with fail
      go_loopw [62] (fun i wr => ∃ (k : Nat), k ≤ fst.length ∧ i = .int .i64 k ∧ Below w5.heap.size w5 wr) (fun i _ => fst.length - (intOf i).toNat)
      case atStart => exact ⟨0, Nat.zero_le _, rfl, Below.refl _ _⟩
      case round =>
        obtain ⟨k, hk, rfl, hB⟩ := hrel
        have HB := Go.Lib.hid hB
        clear hB
        by_cases hlt : k < fst.length
        · obtain ⟨ad, rfl, g0, g1⟩ := at_T43 (Kd.C_below HC.out (HW.out.trans (HB.out.mono HW.out.size))) (k : Int) (by omega) (by omega)
          obtain ⟨ad2, rfl, g2⟩ := Kd.at_int (Kd.C_below HD.out HB.out) (k : Int) (by omega) (by omega)
          obtain ⟨ad3, rfl, g3⟩ := Kd.at_int (Kd.C_below HE.out HB.out) (k : Int) (by omega) (by omega)
          have hbk := HBK.out k hlt
          rw [Int.toNat_natCast] at g0 g1 g2 g3
          generalize rd_T43 fst (k : Int) = x at *
          obtain ⟨xa, xb⟩ := x
          generalize rd nw (k : Int) = z at *
          generalize rd nx (k : Int) = z2 at *
          cases xb with
          | true =>
            obtain rfl : z2 = z := hbk
            go_wp2_with fail
            clear g0 g1
            have f0 : (wr.alloc (.cells #[.int .u32 xa, .bool true] 43)).cell? ⟨wr.heap.size, 0, none⟩ = some (.int .u32 xa) := blk_cell (blk_new wr _) 0
            have f1 : (wr.alloc (.cells #[.int .u32 xa, .bool true] 43)).cell? ⟨wr.heap.size, 1, none⟩ = some (.bool true) := blk_cell (blk_new wr _) 1
            replace g2 := ((below_alloc (Below.refl _ _) (.cells #[.int .u32 xa, .bool true] 43)).cell (World.block_lt_of_cell? _ _ g2)).trans g2
            replace g3 := ((below_alloc (Below.refl _ _) (.cells #[.int .u32 xa, .bool true] 43)).cell (World.block_lt_of_cell? _ _ g3)).trans g3
            have HB7 := Go.Lib.hid (below_alloc HB.out (.cells #[.int .u32 xa, .bool true] 43))
            clear HB HD HE HI HW HBK
            generalize wr.alloc (.cells #[.int .u32 xa, .bool true] 43) = W7 at *
            generalize wr.heap.size = gx at *
            go_quiet (fail)
            go_wp2_with fail
            go_roundw
            case rel => exact ⟨k + 1, by omega, by go_num, pw_below_drewN HB7.out _⟩
            case measure => simp [intOf]; omega
          | false =>
            obtain rfl : z2 = xa := hbk
            go_wp2_with fail
            clear g0 g1
            have f0 : (wr.alloc (.cells #[.int .u32 z2, .bool false] 43)).cell? ⟨wr.heap.size, 0, none⟩ = some (.int .u32 z2) := blk_cell (blk_new wr _) 0
            have f1 : (wr.alloc (.cells #[.int .u32 z2, .bool false] 43)).cell? ⟨wr.heap.size, 1, none⟩ = some (.bool false) := blk_cell (blk_new wr _) 1
            replace g2 := ((below_alloc (Below.refl _ _) (.cells #[.int .u32 z2, .bool false] 43)).cell (World.block_lt_of_cell? _ _ g2)).trans g2
            replace g3 := ((below_alloc (Below.refl _ _) (.cells #[.int .u32 z2, .bool false] 43)).cell (World.block_lt_of_cell? _ _ g3)).trans g3
            have HB7 := Go.Lib.hid (below_alloc HB.out (.cells #[.int .u32 z2, .bool false] 43))
            clear HB HD HE HI HW HBK
            generalize wr.alloc (.cells #[.int .u32 z2, .bool false] 43) = W7 at *
            generalize wr.heap.size = gx at *
            go_quiet (fail)
            go_wp2_with fail
            go_roundw
            case rel => exact ⟨k + 1, by omega, by go_num, pw_below_drewN HB7.out _⟩
            case measure => simp [intOf]; omega
        · obtain rfl : k = fst.length := by omega
          go_wp2_with fail
          have hB6 := HW.out.trans (HB.out.mono HW.out.size)
          have hI6 := HI.out.below HB.out
          refine (cold_calls hI6 (by omega)).mono ?_
          rintro e w7 ⟨rfl, hI7, hC7⟩
          rw [back_all fst _ hI6.len] at hI7
          have HF := Go.Lib.hid (fresh_calls hI7)
          rw [fresh_map] at HF
          have HI7 := Go.Lib.hid hI7
          have HW7 := Go.Lib.hid (Below.chg hB6 hC7 (fun i hi => HG.out i hi.all) hB6.size)
          clear hI7 hC7 hB6 hI6
          go_wp2_with fail
          refine HF.out.mono ?_
          rintro e w8 ⟨rfl, hB8⟩
          replace HI7 := Go.Lib.hid (HI7.out.below hB8)
          replace HW7 := Go.Lib.hid (Below.chg HW7.out (Chg.of_below (S := fun _ => False) hB8) (fun _ h => False.elim h) HW7.out.size)
          clear hB8 HF
          go_wp2_with fail
          refine (writes_calls HI7.out).mono ?_
          rintro e w9 ⟨rfl, rfl⟩
          go_wp2_with fail
          refine (awake_calls _).mono ?_
          rintro e w10 ⟨rfl, hB10⟩
          replace HW7 := Go.Lib.hid (Below.chg HW7.out (Chg.of_below (S := fun _ => False) hB10) (fun _ h => False.elim h) HW7.out.size)
          clear hB10
          go_wp2_with fail
          go_ret
          exact ⟨rfl, HW7.out⟩
end Go.Proofs.Ytkmhgolohppliaa.Cel

/-! Cells: the law's calls, as a row; Set in one word. -/
namespace Go.Proofs.Ytkmhgolohppliaa.Cel
open Go.RowKit Go.WideShapes Go.ChangeShapes Go.Proofs.Ytkmhgolohppliaa.PCellsPlays Go.Proofs.YtkmhgolohppliaaW.PrintWords Go.Proofs.YtkmhgolohppliaaW.PrintLast Go.Proofs.YtkmhgolohppliaaW.PrintMore Go.Proofs.Ytkmhgolohppliaa.Mine
set_option linter.unusedVariables false
set_option maxRecDepth 100000
set_option linter.unusedSimpArgs false
attribute [local go_sem] max2_int min2_int max_two min_two max_three min_three max_four min_four

variable {w : World} {base g : Nat} {v1 v2 : Value} {fst : List S43} {now : List Int} {wr : Int}
/-- A call of the law: its kind, its place, its number. -/
structure S48 where
  f0 : Int
  f1 : Int
  f2 : Int
def z48 : S48 := ⟨0, 0, 0⟩
def k48 : Kd S48 := Kd.iso (Kd.pair (Kd.int .i64) (Kd.pair (Kd.int .i64) (Kd.int .u32))) (fun x : S48 => (x.f0, x.f1, x.f2))
theorem k48_open {w : World} {x : S48} {cs : List Value} (h : k48.K w x cs) : cs = [.int .i64 x.f0, .int .i64 x.f1, .int .u32 x.f2] := by
  obtain ⟨_, _, rfl, rfl, ⟨_, _, rfl, rfl, rfl⟩⟩ := h
  exact rfl
theorem k48_mk (w : World) (x : S48) : k48.K w x [.int .i64 x.f0, .int .i64 x.f1, .int .u32 x.f2] := ⟨[.int .i64 x.f0], [.int .i64 x.f1, .int .u32 x.f2], rfl, rfl, ⟨[.int .i64 x.f1], [.int .u32 x.f2], rfl, rfl, rfl⟩⟩
def rd_T48 (xs : List S48) (i : Int) : S48 := xs.getD i.toNat z48
theorem at_T48 {w : World} {A : Option Addr} {n : Nat} {xs : List S48} (h : Kd.C k48 w A n xs) (i : Int) (h0 : 0 ≤ i) (h1 : i < n) : ∃ ad , A = some ad ∧ w.cell? (ad.add (i.toNat * 3)) = some (.int .i64 (rd_T48 xs i).f0) ∧
    w.cell? ⟨(ad.add (i.toNat * 3)).block, (ad.add (i.toNat * 3)).off + 1, none⟩ = some (.int .i64 (rd_T48 xs i).f1) ∧ w.cell? ⟨(ad.add (i.toNat * 3)).block, (ad.add (i.toNat * 3)).off + 2, none⟩ = some (.int .u32 (rd_T48 xs i).f2) := by
  obtain ⟨ad, c, e, _, hK, hc0⟩ := Kd.C_get h z48 i h0 h1
  have hc : ∀ j u, c[j]? = some u → w.cell? (ad.add (i.toNat * 3 + j)) = some u := hc0
  obtain rfl := k48_open hK
  exact ⟨ad, e, hc 0 _ rfl, by rw [← add_field _ _ 1 (by omega)]; exact hc 1 _ rfl, by rw [← add_field _ _ 2 (by omega)]; exact hc 2 _ rfl⟩
theorem open46 {H : Type} {enc : TypeId × Value → H} {w : World} {base b0 : Nat} {spare : Nat → Bool} {held : Bool} {r : Go.Reach} {v : Value} {x : DataW H} {p : List MemPlace} (hv : Value.okWide Try.prog w r b0 46 v)
    (h : DataW.Trod enc Try.prog w base spare held 46 v x p) : ∃ A n c, v = .slice A n c ∧ ∃ xs, n ≤ c ∧ k48.C w A n xs ∧ ∀ z ∈ xs, (Lit.int .i64 z.f0).wf = true ∧ (Lit.int .i64 z.f1).wf = true ∧ (Lit.int .u32 z.f2).wf = true := by
  obtain ⟨A, n, c, rfl⟩ := okWide_slice Try.underlying46 hv
  obtain ⟨fuel, hf⟩ := h
  obtain ⟨A', n', c', hcs, hl, xs, hC, hg⟩ := Opn.open_row k48 (fun z => (Lit.int .i64 z.f0).wf = true ∧ (Lit.int .i64 z.f1).wf = true ∧ (Lit.int .u32 z.f2).wf = true) Try.underlying46 (by kernel_rfl) (fun n cs' y hy hlen => by
    obtain ⟨m, hfs⟩ := Opn.fields_of Try.underlying48 (by kernel_rfl) hy
    match cs', hlen with
    | [c0, c1, c2], _ =>
      obtain ⟨y0, h0⟩ := hfs 0 _ c0 rfl rfl
      obtain ⟨y1, h1⟩ := hfs 1 _ c1 rfl rfl
      obtain ⟨y2, h2⟩ := hfs 2 _ c2 rfl rfl
      obtain ⟨n0, e0, _, w0⟩ := DataW.trod_int Try.underlying3 h0
      obtain ⟨n1, e1, _, w1⟩ := DataW.trod_int Try.underlying3 h1
      obtain ⟨n2, e2, _, w2⟩ := DataW.trod_int Try.underlying39 h2
      obtain rfl : c0 = _ := by simpa using e0
      obtain rfl : c1 = _ := by simpa using e1
      obtain rfl : c2 = _ := by simpa using e2
      exact ⟨⟨n0, n1, n2⟩, k48_mk _ _, w0, w1, w2⟩) hf
  simp [Value.cells] at hcs
  obtain ⟨rfl, rfl, rfl⟩ := hcs
  exact ⟨_, _, _, rfl, xs, hl, hC, hg⟩

def setN (now : List Int) (i x : Int) : List Int := if inB i now.length = true then now.set i.toNat x else now
def setM (now : List Int) (i m : Int) : Int := if inB i now.length = true then m + 1 else m
theorem setM_lo (now : List Int) (i m : Int) (h : 0 ≤ m) : 0 ≤ setM now i m := by unfold setM; split <;> omega
theorem setM_hi (now : List Int) (i m k : Int) (h : m ≤ k) : setM now i m ≤ k + 1 := by unfold setM; split <;> omega
theorem set_calls (h : IsCells w base g v1 v2 fst now wr) (i x : Int) (hw0 : 0 ≤ wr) (hw1 : wr ≤ 1000000) :
    Calls Try.prog 25 #[.pointer (some ⟨g, 0, none⟩), .int .i64 i, .int .u32 x] w fun e w' => e = .returned (.bool (inB i now.length)) ∧ IsCells w' base g v1 v2 fst (setN now i x) (setM now i wr) ∧ Chg (Mut g v2) w w' := by
  by_cases hi : inB i now.length = true
  · refine (set_yes h i x hi hw0 hw1).mono ?_
    rintro e w1 ⟨rfl, h1, h2⟩
    unfold setN setM
    rw [if_pos hi, if_pos hi, hi]
    exact ⟨rfl, h1, h2⟩
  · refine (set_no h i x (by simpa using hi)).mono ?_
    rintro e w1 ⟨rfl, rfl⟩
    unfold setN setM
    rw [if_neg hi, if_neg hi, show inB i now.length = false by simpa using hi]
    exact ⟨rfl, h, Chg.refl _ _⟩
end Go.Proofs.Ytkmhgolohppliaa.Cel
