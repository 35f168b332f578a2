/- Cells: fresh, same, new and copied cells, walked. -/
import Derived.Test.YtkmhgolohppliaaCel2
import Derived.Test.YtkmhgolohppliaaPCellsPlaysx1
import Derived.Deep.RegionWith
import Derived.Deep.DrawnRows
namespace Go.Proofs.Ytkmhgolohppliaa.Cel
open Go.RowKit Go.Proofs.Ytkmhgolohppliaa.PCellsPlays Go.Proofs.YtkmhgolohppliaaW.PrintWords Go.Proofs.YtkmhgolohppliaaW.PrintLast Go.Proofs.YtkmhgolohppliaaW.PrintMore Go.Proofs.Ytkmhgolohppliaa.Mine
set_option linter.unusedVariables false
set_option linter.unusedSimpArgs false
attribute [local go_sem] max2_int min2_int max_two min_two max_three min_three max_four min_four

variable {w : World} {base g : Nat} {v1 v2 : Value} {fst : List S43} {now : List Int} {wr : Int}

theorem fresh1_calls (a : Int) (b : Bool) (x : Int) (w : World) : Calls Try.prog 91 #[.agg #[.int .u32 a, .bool b], .int .u32 x] w fun e w' => e = .returned (.bool (a == x)) ∧ Below w.heap.size w w' := by
  go_enter Try.func91, Try.ntmps91
  go_wp2_with fail
  go_ret
  exact ⟨rfl, by go_grown⟩

/-- Are all what they were at first? -/
def fresh (fst : List S43) (now : List Int) : Bool := decide (∀ i : Nat, i < fst.length → (rd_T43 fst i).f0 = rd now i)

set_option maxHeartbeats 1600000 in
set_option maxRecDepth 100000 in
theorem equalFunc_calls (A : Option Addr) (c : Nat) (B : Option Addr) (c2 : Nat) (hA : k43.C w A fst.length fst) (hcA : fst.length ≤ c) (hB : (Kd.int .u32).C w B now.length now) (hcB : now.length ≤ c2) (hl : now.length = fst.length) :
    Calls Try.prog 90 #[.slice A fst.length c, .slice B now.length c2, .func (.func 91) #[] #[]] w fun e w' => e = .returned (.bool (fresh fst now)) ∧ Below w.heap.size w w' := by
  have HA := Go.Lib.hid hA
  have HB := Go.Lib.hid hB
  have HL := Go.Lib.hid hl
  have hm := Kd.C_max hA
  have hlt0 : (fst.length != now.length) = false := by simp [hl]
  have hlt1 : ((fst.length : Int) != (now.length : Int)) = false := by simp [hl]
  clear hA hB hl
  go_enter Try.func90, Try.ntmps90
  go_wp2_with fail
  go_loopw [17] (fun i wr0 => ∃ k : Nat, k ≤ fst.length ∧ i = .int .i64 k ∧ (∀ j : Nat, j < k → (rd_T43 fst j).f0 = rd now j) ∧ Below w.heap.size w wr0) (fun i _ => fst.length - (intOf i).toNat)
  case atStart => exact ⟨0, Nat.zero_le _, rfl, fun j hj => absurd hj (Nat.not_lt_zero _), Below.refl _ _⟩
  case round =>
    obtain ⟨k, hk, rfl, hal, hBk⟩ := hrel
    have HAL := Go.Lib.hid hal
    have HBK := Go.Lib.hid hBk
    clear hal hBk
    by_cases hlt : k < fst.length
    · obtain ⟨ad, rfl, g0, g1⟩ := at_T43 (Kd.C_below HA.out HBK.out) (k : Int) (by omega) (by omega)
      have hkn : (k : Int) < (now.length : Int) := by rw [HL.out]; omega
      obtain ⟨ad2, rfl, g2⟩ := Kd.at_int (Kd.C_below HB.out HBK.out) (k : Int) (by omega) hkn
      rw [Int.toNat_natCast] at g0 g1 g2
      have hkc : k < now.length := by omega
      by_cases hq : (rd_T43 fst k).f0 = rd now k
      · have HQ := Go.Lib.hid hq
        have hb : ((rd_T43 fst k).f0 == rd now k) = true := beq_iff_eq.2 hq
        have hb2 : ((rd_T43 fst k).f0 != rd now k) = false := bne_eq_false_iff_eq.2 hq
        clear hq
        have g2' := (World.cell?_alloc_lt wr (.cells #[.int .u32 (rd_T43 fst k).f0, .bool (rd_T43 fst k).f1] 43) _ (World.block_lt_of_cell? _ _ g2)).trans g2
        generalize hx : rd_T43 fst k = x at *
        generalize hy : rd now k = y at *
        obtain ⟨xa, xb⟩ := x
        have HX := Go.Lib.hid hx
        have HY := Go.Lib.hid hy
        clear hx hy
        go_wp2_with fail
        refine (fresh1_calls xa xb y _).mono ?_
        rintro e w2 ⟨rfl, hB2⟩
        have HB2 := Go.Lib.hid ((below_alloc HBK.out (.cells #[.int .u32 xa, .bool xb] 43)).trans (hB2.mono (by have := HBK.out.size; simp; omega)))
        clear hB2 g0 g1 g2 g2'
        rw [hb]
        go_wp2_with fail
        go_roundw
        case rel => exact ⟨k + 1, by omega, by go_num, fun j hj => by
          by_cases e : j = k
          · subst e; rw [HX.out, HY.out]; exact HQ.out
          · exact HAL.out j (by omega), HB2.out⟩
        case measure => simp [intOf]; omega
      · have HQ : Hid (fresh fst now = false) := Go.Lib.hid (by unfold fresh; rw [decide_eq_false_iff_not]; intro h; exact hq (h k hlt))
        have hb : ((rd_T43 fst k).f0 == rd now k) = false := beq_eq_false_iff_ne.2 hq
        clear hq
        have g2' := (World.cell?_alloc_lt wr (.cells #[.int .u32 (rd_T43 fst k).f0, .bool (rd_T43 fst k).f1] 43) _ (World.block_lt_of_cell? _ _ g2)).trans g2
        generalize hx : rd_T43 fst k = x at *
        generalize hy : rd now k = y at *
        clear hx hy
        obtain ⟨xa, xb⟩ := x
        go_wp2_with fail
        refine (fresh1_calls xa xb y _).mono ?_
        rintro e w2 ⟨rfl, hB2⟩
        have HB2 := Go.Lib.hid ((below_alloc HBK.out (.cells #[.int .u32 xa, .bool xb] 43)).trans (hB2.mono (by have := HBK.out.size; simp; omega)))
        clear hB2 g0 g1 g2 g2'
        rw [hb]
        go_wp2_with fail
        go_ret
        exact ⟨by rw [HQ.out]; rfl, HB2.out⟩
    · have HQ : Hid (fresh fst now = true) := Go.Lib.hid (by unfold fresh; rw [decide_eq_true_iff]; intro j hj; exact HAL.out j (by omega))
      obtain rfl : k = fst.length := by omega
      go_wp2_with fail
      go_ret
      exact ⟨by rw [HQ.out]; rfl, HBK.out⟩

set_option maxHeartbeats 1600000 in
set_option maxRecDepth 100000 in
theorem fresh_calls (h : IsCells w base g v1 v2 fst now wr) :
    Calls Try.prog 24 #[.pointer (some ⟨g, 0, none⟩)] w fun e w' => e = .returned (.bool (fresh fst now)) ∧ Below w.heap.size w w' := by
  obtain ⟨A, c, rfl, hcA, _⟩ := Kd.R_reads h.fst_
  obtain ⟨B, c2, rfl, hcB, _⟩ := Kd.R_reads h.now_
  have HE : Hid (∀ W : World, IsCells W base g (.slice A fst.length c) (.slice B now.length c2) fst now wr → Calls Try.prog 90 #[.slice A fst.length c, .slice B now.length c2, .func (.func 91) #[] #[]] W fun e w' => e = .returned (.bool (fresh fst now)) ∧ Below W.heap.size W w') := Go.Lib.hid (fun W hI => by
    obtain ⟨A', c', he, _, hA⟩ := Kd.R_reads hI.fst_
    obtain ⟨B', c2', he2, _, hB⟩ := Kd.R_reads hI.now_
    injection he with he _ _
    injection he2 with he2 _ _
    subst he he2
    exact equalFunc_calls A c B c2 hA hcA hB hcB hI.len)
  have HIW := Go.Lib.hid h.drew
  have HBW := Go.Lib.hid (below_drew1 (Below.refl w.heap.size w))
  have hc0 := blk_cell h.drew.blk 0
  have hc1 := blk_cell h.drew.blk 1
  clear h
  generalize fresh fst now = fr at *
  go_enter Try.func24, Try.ntmps24
  go_wp2_with fail
  refine start_ (n := 10) (S := fun w' => w'.cell? ⟨g, 0, none⟩ = some (.slice A fst.length c) ∧ w'.cell? ⟨g, 1, none⟩ = some (.slice B now.length c2)) (ds := []) #[false, false, false, false, false, false, false, false, false, false] (by kernel_rfl) rfl rfl ⟨hc0, hc1⟩ (fun hHeld => ?_)
  generalize w.drew = W at *
  refine pure_ (i := 0) (N := some 3) (v := ?_) (a' := ?_) #[true, false, false, false, false, false, false, false, false, false] rfl rfl (by kernel_rfl) (fun _ _ _ h => h) (Or.inl ⟨by rfl, ?_⟩) ?_ ?_
  rotate_left
  · intro w'
    go_simp
    with_reducible rfl
  rotate_left
  · simp only [Act.put, List.setIfInBounds_toArray, List.set_cons_zero, List.set_cons_succ, i64_w, i32_w]
    rfl
  refine pure_ (i := 1) (N := some 4) (v := ?_) (a' := ?_) #[true, true, false, false, false, false, false, false, false, false] rfl rfl (by kernel_rfl) (fun _ _ _ h => h) (Or.inl ⟨by rfl, ?_⟩) ?_ ?_
  rotate_left
  · intro w'
    go_simp
    with_reducible rfl
  rotate_left
  · simp only [Act.put, List.setIfInBounds_toArray, List.set_cons_zero, List.set_cons_succ, i64_w, i32_w]
    rfl
  refine pure_ (i := 2) (N := some 5) (v := ?_) (a' := ?_) #[true, true, true, false, false, false, false, false, false, false] rfl rfl (by kernel_rfl) (fun _ _ _ h => h) (Or.inl ⟨by rfl, ?_⟩) ?_ ?_
  rotate_left
  · intro w'
    go_simp
    with_reducible rfl
  rotate_left
  · simp only [Act.put, List.setIfInBounds_toArray, List.set_cons_zero, List.set_cons_succ, i64_w, i32_w]
    rfl
  refine take_ (i := 3) (N := some 6) (v := ?_) (a' := ?_) #[true, true, true, true, false, false, false, false, false, false] rfl rfl (by kernel_rfl) (fun _ _ _ h => h) (Or.inl ⟨by rfl, ?_⟩) hHeld ?_ ?_
  rotate_left
  · rintro w' ⟨s0, s1⟩
    go_simp
    with_reducible rfl
  rotate_left
  · simp only [Act.put, List.setIfInBounds_toArray, List.set_cons_zero, List.set_cons_succ, i64_w, i32_w]
    rfl
  refine pure_ (i := 4) (N := some 7) (v := ?_) (a' := ?_) #[true, true, true, true, true, false, false, false, false, false] rfl rfl (by kernel_rfl) (fun _ _ _ h => h) (Or.inl ⟨by rfl, ?_⟩) ?_ ?_
  rotate_left
  · intro w'
    go_simp
    with_reducible rfl
  rotate_left
  · simp only [Act.put, List.setIfInBounds_toArray, List.set_cons_zero, List.set_cons_succ, i64_w, i32_w]
    rfl
  refine pure_ (i := 5) (N := some 8) (v := ?_) (a' := ?_) #[true, true, true, true, true, true, false, false, false, false] rfl rfl (by kernel_rfl) (fun _ _ _ h => h) (Or.inl ⟨by rfl, ?_⟩) ?_ ?_
  rotate_left
  · intro w'
    go_simp
    with_reducible rfl
  rotate_left
  · simp only [Act.put, List.setIfInBounds_toArray, List.set_cons_zero, List.set_cons_succ, i64_w, i32_w]
    rfl
  refine pure_ (i := 6) (N := some 9) (v := ?_) (a' := ?_) #[true, true, true, true, true, true, true, false, false, false] rfl rfl (by kernel_rfl) (fun _ _ _ h => h) (Or.inl ⟨by rfl, ?_⟩) ?_ ?_
  rotate_left
  · intro w'
    go_simp
    with_reducible rfl
  rotate_left
  · simp only [Act.put, List.setIfInBounds_toArray, List.set_cons_zero, List.set_cons_succ, i64_w, i32_w]
    rfl
  refine take_ (i := 7) (N := some 10) (v := ?_) (a' := ?_) #[true, true, true, true, true, true, true, true, false, false] rfl rfl (by kernel_rfl) (fun _ _ _ h => h) (Or.inl ⟨by rfl, ?_⟩) hHeld ?_ ?_
  rotate_left
  · rintro w' ⟨s0, s1⟩
    go_simp
    with_reducible rfl
  rotate_left
  · simp only [Act.put, List.setIfInBounds_toArray, List.set_cons_zero, List.set_cons_succ, i64_w, i32_w]
    rfl
  refine one_ (i := 8) (N := some 11) #[true, true, true, true, true, true, true, true, true, false] rfl rfl (by kernel_rfl) (by decide) (fun K hK => ?_)
  refine goes_ Try.func90 (by kernel_rfl) rfl #[.slice A fst.length c, .slice B now.length c2, .func (.func 91) #[] #[]] (by rfl) rfl rfl (by (try simp only [List.map_toArray, List.map_cons, List.map_nil]); first | done | rfl) ?_
  refine (HE.out W HIW.out).mono ?_
  rintro e w9 ⟨rfl, hB9⟩
  have HW9 := Go.Lib.hid (HBW.out.trans (hB9.mono HBW.out.size))
  have HI9 := Go.Lib.hid (HIW.out.below hB9)
  clear hB9
  refine ⟨_, rfl, ?_⟩
  refine hK.out _ _ ⟨blk_cell HI9.out.blk 0, blk_cell HI9.out.blk 1⟩ (fun hHeld => ?_)
  clear hK K
  refine norm_ (a' := ?_) ?_ ?_
  rotate_left
  · show Act.put _ (some 11) _ = _
    simp only [Act.put, List.setIfInBounds_toArray, List.set_cons_zero, List.set_cons_succ, i64_w, i32_w]
    rfl
  refine pure_ (i := 9) (N := some 2) (v := ?_) (a' := ?_) #[true, true, true, true, true, true, true, true, true, true] rfl rfl (by kernel_rfl) (fun _ _ _ h => h) (Or.inl ⟨by rfl, ?_⟩) ?_ ?_
  rotate_left
  · intro w'
    go_simp
    with_reducible rfl
  rotate_left
  · simp only [Act.put, List.setIfInBounds_toArray, List.set_cons_zero, List.set_cons_succ, i64_w, i32_w]
    rfl
  refine done_ (by kernel_rfl) ?_
  go_wp2_with fail
  go_ret
  exact ⟨rfl, HW9.out⟩
end Go.Proofs.Ytkmhgolohppliaa.Cel
