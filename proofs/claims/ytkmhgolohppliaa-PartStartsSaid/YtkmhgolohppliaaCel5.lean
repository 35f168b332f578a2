/- Cells: new cells, walked. -/
import Derived.Test.YtkmhgolohppliaaCel4
namespace Go.Proofs.Ytkmhgolohppliaa.Cel
open Go.RowKit Go.Proofs.Ytkmhgolohppliaa.PCellsPlays Go.Proofs.YtkmhgolohppliaaW.PrintWords Go.Proofs.YtkmhgolohppliaaW.PrintLast Go.Proofs.YtkmhgolohppliaaW.PrintMore Go.Proofs.Ytkmhgolohppliaa.Mine
set_option linter.unusedVariables false
set_option linter.unusedSimpArgs false
attribute [local go_sem] max2_int min2_int max_two min_two max_three min_three max_four min_four
variable {w : World} {base g : Nat} {v1 v2 : Value} {fst : List S43} {now : List Int} {wr : Int}

theorem rd43_get (fst : List S43) (k : Nat) (h : k < fst.length) : rd_T43 fst (k : Int) = fst[k] := by
  unfold rd_T43
  rw [Int.toNat_natCast, List.getD_eq_getElem?_getD, List.getElem?_eq_getElem h]; rfl
theorem back_get (fst : List S43) (now : List Int) (hl : now.length = fst.length) (cold : Bool) : ∀ (k j : Nat), k ≤ fst.length → (hj : j < fst.length) →
    (back cold fst now k)[j]? = some (if j < k ∧ goes cold fst[j] = true then fst[j].f0 else now[j]'(by omega)) := by
  intro k
  induction k with
  | zero => intro j _ hj; simp [back]
  | succ k ih =>
    intro j hk hj
    have hb := back_len cold fst now k
    have e := rd43_get fst k (by omega)
    unfold back
    rw [e]
    by_cases hg : goes cold fst[k] = true
    · rw [if_pos hg, List.getElem?_set]
      by_cases ej : k = j
      · subst ej
        rw [if_pos rfl, if_pos (by omega), if_pos ⟨by omega, hg⟩]
      · rw [if_neg ej, ih j (by omega) hj]
        congr 1
        by_cases h2 : j < k ∧ goes cold fst[j] = true
        · rw [if_pos h2, if_pos ⟨by omega, h2.2⟩]
        · rw [if_neg h2, if_neg (fun h3 => h2 ⟨by omega, h3.2⟩)]
    · rw [if_neg hg, ih j (by omega) hj]
      congr 1
      by_cases h2 : j < k ∧ goes cold fst[j] = true
      · rw [if_pos h2, if_pos ⟨by omega, h2.2⟩]
      · rw [if_neg h2, if_neg (fun h3 => h2 ⟨by
          rcases Nat.lt_or_ge j k with h4 | h4
          · exact h4
          · have : j = k := by omega
            subst this; exact absurd h3.2 hg, h3.2⟩)]
theorem back_all (fst : List S43) (now : List Int) (hl : now.length = fst.length) : back true fst now fst.length = fst.map (·.f0) := by
  apply List.ext_getElem?
  intro j
  rcases Nat.lt_or_ge j fst.length with hj | hj
  · rw [back_get fst now hl true fst.length j (Nat.le_refl _) hj, if_pos ⟨hj, rfl⟩]
    simp [hj]
  · have := back_len true fst now fst.length
    rw [List.getElem?_eq_none (by omega), List.getElem?_eq_none (by simp; omega)]
/-- New cells, the copy made first. -/
theorem made_a {w5 : World} {A5 : Option Addr} {c5 : Nat} {B : Nat} (hR : k43.R 43 w5 B (fun _ => True) (.slice A5 fst.length c5) fst) (hB : Below B w.drew w5) (hb : w.heap.size = B) (hn : fst.length ≤ 1000) :
    IsCells ((w5.alloc (.cells (madeCells #[.int .u32 0] fst.length) 39)).alloc (.cells #[.slice A5 fst.length c5, .slice (some ⟨w5.heap.size, 0, none⟩) fst.length fst.length, .int .i64 0] 170))
      w.heap.size (w5.heap.size + 1) (.slice A5 fst.length c5) (.slice (some ⟨w5.heap.size, 0, none⟩) fst.length fst.length) fst (List.replicate fst.length 0) 0 ∧
    Below w.heap.size w ((w5.alloc (.cells (madeCells #[.int .u32 0] fst.length) 39)).alloc (.cells #[.slice A5 fst.length c5, .slice (some ⟨w5.heap.size, 0, none⟩) fst.length fst.length, .int .i64 0] 170)) := by
  subst hb
  have hsz : w.heap.size ≤ w5.heap.size := hB.size
  have hB' : Below w.heap.size w w5 := (below_drew1 (Below.refl _ _)).trans hB
  refine ⟨⟨?_, by omega, ?_, ?_, by simp⟩, below_alloc (below_alloc hB' _) _⟩
  · have hz : (w5.alloc (.cells (madeCells #[.int .u32 0] fst.length) 39)).heap.size = w5.heap.size + 1 := by simp
    have h := heap_alloc_new (w5.alloc (.cells (madeCells #[.int .u32 0] fst.length) 39)) (.cells #[.slice A5 fst.length c5, .slice (some ⟨w5.heap.size, 0, none⟩) fst.length fst.length, .int .i64 0] 170)
    rw [hz] at h
    exact h
  · exact Kd.R_alloc (Kd.R_alloc (Kd.R_flat (fun h => h) hR (fun k hk _ => hk)) _) _
  · exact Kd.R_alloc (Kd.R_lower (own_new w5 fst.length (by omega)) hsz) _
/-- New cells, the numbers made first. -/
theorem made_b {w5 : World} {A5 : Option Addr} {c5 : Nat} {B : Nat} (hR : k43.R 43 w5 B (fun _ => True) (.slice A5 fst.length c5) fst) (hB : Below B (w.alloc (.cells (madeCells #[.int .u32 0] fst.length) 39)).drew w5)
    (hb : (w.alloc (.cells (madeCells #[.int .u32 0] fst.length) 39)).drew.heap.size = B) (hn : fst.length ≤ 1000) :
    IsCells (w5.alloc (.cells #[.slice A5 fst.length c5, .slice (some ⟨w.heap.size, 0, none⟩) fst.length fst.length, .int .i64 0] 170))
      w.heap.size w5.heap.size (.slice A5 fst.length c5) (.slice (some ⟨w.heap.size, 0, none⟩) fst.length fst.length) fst (List.replicate fst.length 0) 0 ∧
    Below w.heap.size w (w5.alloc (.cells #[.slice A5 fst.length c5, .slice (some ⟨w.heap.size, 0, none⟩) fst.length fst.length, .int .i64 0] 170)) := by
  subst hb
  have hz : (w.alloc (.cells (madeCells #[.int .u32 0] fst.length) 39)).drew.heap.size = w.heap.size + 1 := by simp
  have hsz := hB.size
  rw [hz] at hsz
  have hB' : Below w.heap.size w w5 := Below.chg (below_drew1 (below_alloc (Below.refl _ _) _)) (Chg.of_below (S := fun _ => False) hB) (fun _ h => False.elim h) (by omega)
  refine ⟨⟨?_, by omega, ?_, ?_, by simp⟩, below_alloc hB' _⟩
  · exact heap_alloc_new w5 _
  · exact Kd.R_alloc (Kd.R_lower (Kd.R_flat (fun h => h) hR (fun k hk _ => hk)) (by omega)) _
  · exact Kd.R_alloc (Kd.R_below (Kd.R_drew (own_new w fst.length (by omega))) hB) _

set_option maxHeartbeats 3200000 in
set_option maxRecDepth 100000 in
theorem new_calls (A : Option Addr) (c : Nat) (hC : k43.C w A fst.length fst) (hn : fst.length ≤ 1000) :
    Calls Try.prog 23 #[.slice A fst.length c] w fun e w' => ∃ g v1 v2, e = .returned (.pointer (some ⟨g, 0, none⟩)) ∧ IsCells w' w.heap.size g v1 v2 fst (fst.map (·.f0)) 0 ∧ Below w.heap.size w w' := by
  have HC := Go.Lib.hid hC
  have hmk := print_make (P := Try.prog) 36 39 .u32 4 Try.underlying36 (by kernel_rfl) (by decide) fst.length (by omega)
  clear hC
  go_enter Try.func23, Try.ntmps23
  go_wp2_with fail
  go_region_with (first | (go_at_call 89; refine (clone89_calls A fst.length c fst _ ?hC (by omega)).mono ?_; (case hC => first | exact Kd.C_drew HC.out | exact Kd.C_alloc (Kd.C_drew HC.out) _); rintro e w5 ⟨s5, rfl, hR5, hB5⟩; obtain ⟨A5, c5, hs5, _, _⟩ := Kd.R_reads hR5; subst hs5; have HR5 := Go.Lib.hid hR5; have HB5 := Go.Lib.hid hB5; clear hR5 hB5))
  all_goals go_ways
  all_goals go_wp2_with fail
  · obtain ⟨hI, hBw⟩ := made_a HR5.out HB5.out rfl hn
    refine (cold_calls hI (by omega)).mono ?_
    rintro e w6 ⟨rfl, hI6, hC6⟩
    have hbw := Below.chg hBw hC6 (fun i hi => hI.ge i hi.all) hBw.size
    rw [back_all fst _ (by simp)] at hI6
    have HI6 := Go.Lib.hid hI6
    have HW := Go.Lib.hid hbw
    clear hI hBw hC6 hI6 hbw HR5 HB5 hmk
    go_wp2_with fail
    go_ret
    exact ⟨_, _, _, rfl, HI6.out, HW.out⟩
  · obtain ⟨hI, hBw⟩ := made_b HR5.out HB5.out rfl hn
    refine (cold_calls hI (by omega)).mono ?_
    rintro e w6 ⟨rfl, hI6, hC6⟩
    have hbw := Below.chg hBw hC6 (fun i hi => hI.ge i hi.all) hBw.size
    rw [back_all fst _ (by simp)] at hI6
    have HI6 := Go.Lib.hid hI6
    have HW := Go.Lib.hid hbw
    clear hI hBw hC6 hI6 hbw HR5 HB5 hmk
    go_wp2_with fail
    go_ret
    exact ⟨_, _, _, rfl, HI6.out, HW.out⟩
end Go.Proofs.Ytkmhgolohppliaa.Cel
