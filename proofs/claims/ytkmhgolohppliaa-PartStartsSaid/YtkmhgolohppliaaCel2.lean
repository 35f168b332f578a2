/- Cells: cold and warm starts, walked. -/
import Derived.Test.YtkmhgolohppliaaCel1
namespace Go.Proofs.Ytkmhgolohppliaa.Cel
open Go.RowKit Go.Proofs.Ytkmhgolohppliaa.PCellsPlays Go.Proofs.YtkmhgolohppliaaW.PrintWords Go.Proofs.YtkmhgolohppliaaW.PrintLast Go.Proofs.YtkmhgolohppliaaW.PrintMore Go.Proofs.Ytkmhgolohppliaa.Mine
set_option linter.unusedVariables false
set_option linter.unusedSimpArgs false

variable {w : World} {base g : Nat} {v1 v2 : Value} {fst : List S43} {now : List Int} {wr : Int}

theorem cold1_calls (a : Int) (b : Bool) (w : World) : Calls Try.prog 96 #[.agg #[.int .u32 a, .bool b]] w fun e w' => e = .returned (.bool true) ∧ Below w.heap.size w w' := by
  go_enter Try.func96, Try.ntmps96
  go_wp2_with fail
  go_ret
  exact ⟨rfl, by go_grown⟩
theorem warm1_calls (a : Int) (b : Bool) (w : World) : Calls Try.prog 95 #[.agg #[.int .u32 a, .bool b]] w fun e w' => e = .returned (.bool (!b)) ∧ Below w.heap.size w w' := by
  go_enter Try.func95, Try.ntmps95
  go_wp2_with fail
  go_ret
  exact ⟨rfl, by go_grown⟩

/-- Does a cell go back: all of them cold, those that aren't kept warm. -/
def goes (cold : Bool) (c : S43) : Bool := cold || !c.f1
/-- The numbers behind the first k cells' going back. -/
def back (cold : Bool) (fst : List S43) (now : List Int) : Nat → List Int
  | 0 => now
  | k + 1 => if goes cold (rd_T43 fst k) = true then (back cold fst now k).set k (rd_T43 fst k).f0 else back cold fst now k
theorem back_len (cold : Bool) (fst : List S43) (now : List Int) (k : Nat) : (back cold fst now k).length = now.length := by
  induction k with
  | zero => rfl
  | succ k ih => unfold back; split <;> simp [ih]

set_option maxHeartbeats 1600000 in
theorem back_cold (h : IsCells w base g v1 v2 fst now wr) (hn : fst.length ≤ 1000000) :
    Calls Try.prog 94 #[.pointer (some ⟨g, 0, none⟩), .func (.func 96) #[] #[]] w fun e w' => e = .returned (.tuple #[]) ∧ IsCells w' base g v1 v2 fst (back true fst now fst.length) wr ∧ Chg (Mut g v2) w w' := by
  obtain ⟨A, c, rfl, hc1, _⟩ := Kd.R_reads h.fst_
  have hc0 := blk_cell h.blk 0
  have H := Go.Lib.hid h
  clear h
  go_enter Try.func94, Try.ntmps94
  go_wp2_with fail
  clear hc0
  go_loopw [11] (fun i wr0 => ∃ k : Nat, k ≤ fst.length ∧ i = .int .i64 k ∧ IsCells wr0 base g (.slice A fst.length c) v2 fst (back true fst now k) wr ∧ Chg (Mut g v2) w wr0) (fun i _ => fst.length - (intOf i).toNat)
  case atStart => exact ⟨0, Nat.zero_le _, rfl, H.out, Chg.refl _ _⟩
  case round =>
    obtain ⟨k, hk, rfl, hI, hC⟩ := hrel
    by_cases hlt : k < fst.length
    · obtain ⟨A', c', he, _, hCC⟩ := Kd.R_reads hI.fst_
      injection he with he1 _ he2
      subst he1 he2
      obtain ⟨ad, rfl, g0, g1⟩ := at_T43 hCC (k : Int) (by omega) (by omega)
      rw [Int.toNat_natCast] at g0 g1
      have HE : Hid (back true fst now (k + 1) = if goes true (rd_T43 fst k) = true then (back true fst now k).set k (rd_T43 fst k).f0 else back true fst now k) := Go.Lib.hid rfl
      have hkn : (k : Int) < ((back true fst now k).length : Int) := by rw [hI.len]; omega
      generalize hx : rd_T43 fst k = x at *
      clear hx
      obtain ⟨xa, xb⟩ := x
      have HI := Go.Lib.hid hI
      have HC := Go.Lib.hid hC
      have HK := Go.Lib.hid hkn
      clear hI hC hCC hkn
      go_wp2_with fail
      refine (cold1_calls xa xb _).mono ?_
      rintro e w2 ⟨rfl, hB2⟩
      have hx0 : w2.cell? ⟨wr.heap.size, 0, none⟩ = some (.int .u32 xa) := by
        rw [hB2.cell (by simp)]
        exact blk_cell (blk_new wr _) 0
      have hI2 := (HI.out.alloc (.cells #[.int .u32 xa, .bool xb] 43)).below hB2
      have hC2 := (HC.out.alloc (.cells #[.int .u32 xa, .bool xb] 43)).then_below hB2
      clear hB2 g0 g1
      obtain ⟨b, cap, rfl, hle, hcell, hfz, hst⟩ := hI2.at_ (k : Int) (by omega) HK.out
      have hg1 := blk_cell hI2.blk 1
      rw [Int.toNat_natCast] at hcell hfz
      have hs := hst xa
      rw [Int.toNat_natCast] at hs
      have hkb : (k : Int) < ((back true fst now k).length : Int) := HK.out
      have HS := Go.Lib.hid hs
      have HC2 := Go.Lib.hid hC2
      have HE2 : Hid (back true fst now (k + 1) = (back true fst now k).set k xa) := Go.Lib.hid HE.out
      clear hI2 hs hst hC2
      go_wp2_with fail
      go_region
      go_wp2_with fail
      go_roundw
      case rel => exact ⟨k + 1, by omega, by go_num, by rw [HE2.out]; exact HS.out.drew, (HC2.out.setCell (p := ⟨b, k, none⟩) (.inl (.inr rfl)) _).drew⟩
      case measure => simp [intOf]; omega
    · obtain rfl : k = fst.length := by omega
      have HI := Go.Lib.hid hI
      have HC := Go.Lib.hid hC
      clear hI hC
      go_wp2_with fail
      go_end0
      exact ⟨rfl, HI.out, HC.out⟩
set_option maxHeartbeats 1600000 in
theorem back_warm (h : IsCells w base g v1 v2 fst now wr) (hn : fst.length ≤ 1000000) :
    Calls Try.prog 94 #[.pointer (some ⟨g, 0, none⟩), .func (.func 95) #[] #[]] w fun e w' => e = .returned (.tuple #[]) ∧ IsCells w' base g v1 v2 fst (back false fst now fst.length) wr ∧ Chg (Mut g v2) w w' := by
  obtain ⟨A, c, rfl, hc1, _⟩ := Kd.R_reads h.fst_
  have hc0 := blk_cell h.blk 0
  have H := Go.Lib.hid h
  clear h
  go_enter Try.func94, Try.ntmps94
  go_wp2_with fail
  clear hc0
  go_loopw [11] (fun i wr0 => ∃ k : Nat, k ≤ fst.length ∧ i = .int .i64 k ∧ IsCells wr0 base g (.slice A fst.length c) v2 fst (back false fst now k) wr ∧ Chg (Mut g v2) w wr0) (fun i _ => fst.length - (intOf i).toNat)
  case atStart => exact ⟨0, Nat.zero_le _, rfl, H.out, Chg.refl _ _⟩
  case round =>
    obtain ⟨k, hk, rfl, hI, hC⟩ := hrel
    by_cases hlt : k < fst.length
    · obtain ⟨A', c', he, _, hCC⟩ := Kd.R_reads hI.fst_
      injection he with he1 _ he2
      subst he1 he2
      obtain ⟨ad, rfl, g0, g1⟩ := at_T43 hCC (k : Int) (by omega) (by omega)
      rw [Int.toNat_natCast] at g0 g1
      have HE : Hid (back false fst now (k + 1) = if goes false (rd_T43 fst k) = true then (back false fst now k).set k (rd_T43 fst k).f0 else back false fst now k) := Go.Lib.hid rfl
      have hkn : (k : Int) < ((back false fst now k).length : Int) := by rw [hI.len]; omega
      generalize hx : rd_T43 fst k = x at *
      clear hx
      obtain ⟨xa, xb⟩ := x
      have HI := Go.Lib.hid hI
      have HC := Go.Lib.hid hC
      have HK := Go.Lib.hid hkn
      clear hI hC hCC hkn
      go_wp2_with fail
      refine (warm1_calls xa xb _).mono ?_
      rintro e w2 ⟨rfl, hB2⟩
      have hx0 : w2.cell? ⟨wr.heap.size, 0, none⟩ = some (.int .u32 xa) := by
        rw [hB2.cell (by simp)]
        exact blk_cell (blk_new wr _) 0
      have hI2 := (HI.out.alloc (.cells #[.int .u32 xa, .bool xb] 43)).below hB2
      have hC2 := (HC.out.alloc (.cells #[.int .u32 xa, .bool xb] 43)).then_below hB2
      clear hB2 g0 g1
      cases xb with
      | false =>
        obtain ⟨b, cap, rfl, hle, hcell, hfz, hst⟩ := hI2.at_ (k : Int) (by omega) HK.out
        have hg1 := blk_cell hI2.blk 1
        rw [Int.toNat_natCast] at hcell hfz
        have hs := hst xa
        rw [Int.toNat_natCast] at hs
        have hkb : (k : Int) < ((back false fst now k).length : Int) := HK.out
        have HS := Go.Lib.hid hs
        have HC2 := Go.Lib.hid hC2
        have HE2 : Hid (back false fst now (k + 1) = (back false fst now k).set k xa) := Go.Lib.hid HE.out
        clear hI2 hs hst hC2
        go_wp2_with fail
        go_region
        go_wp2_with fail
        go_roundw
        case rel => exact ⟨k + 1, by omega, by go_num, by rw [HE2.out]; exact HS.out.drew, (HC2.out.setCell (p := ⟨b, k, none⟩) (.inl (.inr rfl)) _).drew⟩
        case measure => simp [intOf]; omega
      | true =>
        have HI2 := Go.Lib.hid hI2
        have HC2 := Go.Lib.hid hC2
        have HE2 : Hid (back false fst now (k + 1) = back false fst now k) := Go.Lib.hid HE.out
        clear hI2 hC2
        go_wp2_with fail
        go_roundw
        case rel => exact ⟨k + 1, by omega, by go_num, by rw [HE2.out]; exact HI2.out, HC2.out⟩
        case measure => simp [intOf]; omega
    · obtain rfl : k = fst.length := by omega
      have HI := Go.Lib.hid hI
      have HC := Go.Lib.hid hC
      clear hI hC
      go_wp2_with fail
      go_end0
      exact ⟨rfl, HI.out, HC.out⟩

theorem warm_calls (h : IsCells w base g v1 v2 fst now wr) (hn : fst.length ≤ 1000000) :
    Calls Try.prog 27 #[.pointer (some ⟨g, 0, none⟩)] w fun e w' => e = .returned (.tuple #[]) ∧ IsCells w' base g v1 v2 fst (back false fst now fst.length) wr ∧ Chg (Mut g v2) w w' := by
  have HB := Go.Lib.hid (back_warm h hn)
  clear h
  go_enter Try.func27, Try.ntmps27
  go_wp2_with fail
  refine HB.out.mono ?_
  rintro e w1 ⟨rfl, hI, hC⟩
  have HI := Go.Lib.hid hI
  have HC := Go.Lib.hid hC
  clear hI hC
  go_wp2_with fail
  go_end0
  exact ⟨rfl, HI.out, HC.out⟩
theorem cold_calls (h : IsCells w base g v1 v2 fst now wr) (hn : fst.length ≤ 1000000) :
    Calls Try.prog 28 #[.pointer (some ⟨g, 0, none⟩)] w fun e w' => e = .returned (.tuple #[]) ∧ IsCells w' base g v1 v2 fst (back true fst now fst.length) 0 ∧ Chg (Mut g v2) w w' := by
  have HB := Go.Lib.hid (back_cold h hn)
  clear h
  go_enter Try.func28, Try.ntmps28
  go_wp2_with fail
  refine HB.out.mono ?_
  rintro e w1 ⟨rfl, hI, hC⟩
  have HS := Go.Lib.hid (hI.setWr 0)
  have HC := Go.Lib.hid hC
  have hc2 := blk_cell hI.blk 2
  have hf2 := blk_frozen hI.blk 2
  clear hI hC
  go_wp2_with fail
  go_end0
  exact ⟨rfl, HS.out, HC.out.setCell (.inl (.inl rfl)) _⟩
end Go.Proofs.Ytkmhgolohppliaa.Cel
