/- Cells: the contracts of each call, walked. -/
import Derived.Test.YtkmhgolohppliaaCel0
import Derived.BigQuiet
import Derived.BigRegion
import Derived.Deep.QuietTactic
namespace Go.Proofs.Ytkmhgolohppliaa.Cel
open Go.RowKit Go.Proofs.Ytkmhgolohppliaa.PCellsPlays Go.Proofs.YtkmhgolohppliaaW.PrintWords Go.Proofs.YtkmhgolohppliaaW.PrintLast Go.Proofs.YtkmhgolohppliaaW.PrintMore Go.Proofs.Ytkmhgolohppliaa.Mine
set_option linter.unusedVariables false
set_option linter.unusedSimpArgs false

variable {w : World} {base g : Nat} {v1 v2 : Value} {fst : List S43} {now : List Int} {wr : Int}

/-- Is there a cell? -/
def inB (i : Int) (n : Nat) : Bool := decide (0 ≤ i) && decide (i < (n : Int))

theorem there_calls (h : IsCells w base g v1 v2 fst now wr) (i : Int) :
    Calls Try.prog 92 #[.pointer (some ⟨g, 0, none⟩), .int .i64 i] w fun e w' => e = .returned (.bool (inB i now.length)) ∧ w = w' := by
  obtain ⟨A, c, rfl, _, _⟩ := Kd.R_reads h.now_
  have hc := blk_cell h.blk 1
  unfold inB
  by_cases h0 : 0 ≤ i
  · have hb : decide (0 ≤ i) = true := by simpa using h0
    clear h h0
    go_enter Try.func92, Try.ntmps92
    go_wp2_with fail
    go_ret
    exact ⟨by simp [hb], rfl⟩
  · have hb : decide (0 ≤ i) = false := by simpa using h0
    clear h h0
    go_enter Try.func92, Try.ntmps92
    go_wp2_with fail
    go_ret
    exact ⟨by simp [hb], rfl⟩

theorem len_calls (h : IsCells w base g v1 v2 fst now wr) :
    Calls Try.prog 31 #[.pointer (some ⟨g, 0, none⟩)] w fun e w' => e = .returned (.int .i64 (now.length : Int)) ∧ w = w' := by
  obtain ⟨A, c, rfl, _, _⟩ := Kd.R_reads h.now_
  have hc := blk_cell h.blk 1
  clear h
  go_enter Try.func31, Try.ntmps31
  go_wp2_with fail
  go_ret
  exact ⟨rfl, rfl⟩

theorem writes_calls (h : IsCells w base g v1 v2 fst now wr) :
    Calls Try.prog 29 #[.pointer (some ⟨g, 0, none⟩)] w fun e w' => e = .returned (.int .i64 wr) ∧ w = w' := by
  have hc := blk_cell h.blk 2
  clear h
  go_enter Try.func29, Try.ntmps29
  go_wp2_with fail
  go_ret
  exact ⟨rfl, rfl⟩

theorem get_no (h : IsCells w base g v1 v2 fst now wr) (i : Int) (hi : inB i now.length = false) :
    Calls Try.prog 35 #[.pointer (some ⟨g, 0, none⟩), .int .i64 i] w fun e w' => e = .returned (.tuple #[.int .u32 0, .bool false]) ∧ w = w' := by
  have HT := Go.Lib.hid (there_calls h i)
  rw [hi] at HT
  clear h hi
  go_enter Try.func35, Try.ntmps35
  go_wp2_with fail
  refine HT.out.mono ?_
  rintro e w1 ⟨rfl, rfl⟩
  go_wp2_with fail
  go_ret2
  exact ⟨rfl, rfl⟩

theorem inB_of {i : Int} {n : Nat} (h : inB i n = true) : 0 ≤ i ∧ i < (n : Int) := by unfold inB at h; simpa using h

theorem get_yes (h : IsCells w base g v1 v2 fst now wr) (i : Int) (hi : inB i now.length = true) :
    Calls Try.prog 35 #[.pointer (some ⟨g, 0, none⟩), .int .i64 i] w fun e w' => e = .returned (.tuple #[.int .u32 (rd now i), .bool true]) ∧ w = w' := by
  have HT := Go.Lib.hid (there_calls h i)
  rw [hi] at HT
  obtain ⟨h0, h1⟩ := inB_of hi
  obtain ⟨b, cap, rfl, hle, hcell, _, _⟩ := h.at_ i h0 h1
  have hc := blk_cell h.blk 1
  clear h hi
  go_enter Try.func35, Try.ntmps35
  go_wp2_with fail
  refine HT.out.mono ?_
  rintro e w1 ⟨rfl, rfl⟩
  go_wp2_with fail
  go_ret2
  exact ⟨rfl, rfl⟩

theorem set_no (h : IsCells w base g v1 v2 fst now wr) (i x : Int) (hi : inB i now.length = false) :
    Calls Try.prog 25 #[.pointer (some ⟨g, 0, none⟩), .int .i64 i, .int .u32 x] w fun e w' => e = .returned (.bool false) ∧ w = w' := by
  have HT := Go.Lib.hid (there_calls h i)
  rw [hi] at HT
  clear h hi
  go_enter Try.func25, Try.ntmps25
  go_wp2_with fail
  refine HT.out.mono ?_
  rintro e w1 ⟨rfl, rfl⟩
  go_wp2_with fail
  go_ret
  exact ⟨rfl, rfl⟩

theorem set_yes (h : IsCells w base g v1 v2 fst now wr) (i x : Int) (hi : inB i now.length = true) (hw0 : 0 ≤ wr) (hw1 : wr ≤ 1000000) :
    Calls Try.prog 25 #[.pointer (some ⟨g, 0, none⟩), .int .i64 i, .int .u32 x] w fun e w' => e = .returned (.bool true) ∧ IsCells w' base g v1 v2 fst (now.set i.toNat x) (wr + 1) ∧ Chg (Mut g v2) w w' := by
  have HT := Go.Lib.hid (there_calls h i)
  rw [hi] at HT
  obtain ⟨h0, h1⟩ := inB_of hi
  obtain ⟨b, cap, rfl, hle, hcell, hfz, hst⟩ := h.at_ i h0 h1
  have hc := blk_cell h.blk 1
  have hs := hst x
  have hg2 := blk_cell hs.blk 2
  have hf2 := blk_frozen hs.blk 2
  have hne : g ≠ b := fun e => h.ne2 (by rw [e]; rfl)
  have HS := Go.Lib.hid (hs.setWr (wr + 1))
  clear h hi hst hs
  go_enter Try.func25, Try.ntmps25
  go_wp2_with fail
  refine HT.out.mono ?_
  rintro e w1 ⟨rfl, rfl⟩
  go_wp2_with fail
  go_ret
  exact ⟨rfl, HS.out, ((Chg.refl _ _).setCell (.inl (.inr rfl)) _).setCell (.inl (.inl rfl)) _⟩

theorem all_calls (h : IsCells w base g v1 v2 fst now wr) (hn : now.length ≤ 1000000) :
    Calls Try.prog 26 #[.pointer (some ⟨g, 0, none⟩)] w fun e w' => ∃ v, e = .returned v ∧ (Kd.int .u32).R 39 w' w.heap.size (fun _ => True) v now ∧ Below w.heap.size w w' := by
  obtain ⟨A, c, rfl, _, hC⟩ := Kd.R_reads h.now_
  have hc := blk_cell h.blk 1
  have HC := Go.Lib.hid (clone93_calls A now.length c now w hC (by omega))
  clear h hC
  go_enter Try.func26, Try.ntmps26
  go_wp2_with fail
  refine HC.out.mono ?_
  rintro e w1 ⟨v, rfl, hR, hB⟩
  have HR := Go.Lib.hid hR
  have HB := Go.Lib.hid hB
  clear hR hB
  go_wp2_with fail
  go_ret
  exact ⟨_, rfl, HR.out, HB.out⟩
end Go.Proofs.Ytkmhgolohppliaa.Cel
