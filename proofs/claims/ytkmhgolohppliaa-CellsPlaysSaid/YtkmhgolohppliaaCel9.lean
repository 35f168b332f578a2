/- CellsAgain, walked. -/
import Derived.Test.YtkmhgolohppliaaCel8
namespace Go.Proofs.Ytkmhgolohppliaa.Cel
open Go.RowKit Go.Proofs.Ytkmhgolohppliaa.PCellsPlays Go.Proofs.YtkmhgolohppliaaW.PrintWords Go.Proofs.YtkmhgolohppliaaW.PrintLast Go.Proofs.YtkmhgolohppliaaW.PrintMore Go.Proofs.Ytkmhgolohppliaa.Mine
set_option linter.unusedVariables false
set_option linter.unusedSimpArgs false
attribute [local go_sem] max2_int min2_int max_two min_two max_three min_three max_four min_four

/-- The struct of a call, in its own block. -/
def IsOp (w : World) (b : Nat) (x : S48) : Prop := w.heap[b]? = some (.cells #[.int .i64 x.f0, .int .i64 x.f1, .int .u32 x.f2] 48 (0, 0))
theorem IsOp.chg {w w1 : World} {b : Nat} {x : S48} {S : Nat → Prop} (h : IsOp w b x) (k : Chg S w w1) (hn : ¬ S b) : IsOp w1 b x := blk_chg h k hn
theorem IsOp.c0 {w : World} {b : Nat} {x : S48} (h : IsOp w b x) : w.cell? ⟨b, 0, none⟩ = some (.int .i64 x.f0) := blk_cell h 0
theorem IsOp.c1 {w : World} {b : Nat} {x : S48} (h : IsOp w b x) : w.cell? ⟨b, 1, none⟩ = some (.int .i64 x.f1) := blk_cell h 1
theorem IsOp.c2 {w : World} {b : Nat} {x : S48} (h : IsOp w b x) : w.cell? ⟨b, 2, none⟩ = some (.int .u32 x.f2) := blk_cell h 2

set_option maxHeartbeats 6400000 in
set_option maxRecDepth 100000 in
theorem cellsAgain_walk (w : World) (A : Option Addr) (n c : Nat) (fst : List S43) (hC0 : n ≤ c ∧ k43.C w A n fst ∧ ∀ z ∈ fst, (Lit.int .u32 z.f0).wf = true)
    (A1 : Option Addr) (n1 c1 : Nat) (pre : List S48) (hA0 : n1 ≤ c1 ∧ k48.C w A1 n1 pre ∧ ∀ z ∈ pre, (Lit.int .i64 z.f0).wf = true ∧ (Lit.int .i64 z.f1).wf = true ∧ (Lit.int .u32 z.f2).wf = true)
    (A2 : Option Addr) (n2 c2 : Nat) (ops : List S48) (hO0 : n2 ≤ c2 ∧ k48.C w A2 n2 ops ∧ ∀ z ∈ ops, (Lit.int .i64 z.f0).wf = true ∧ (Lit.int .i64 z.f1).wf = true ∧ (Lit.int .u32 z.f2).wf = true) :
    Calls Try.prog 6 #[.slice A n c, .slice A1 n1 c1, .slice A2 n2 c2] w fun e w' => e = .returned (.bool true) ∧ Below w.heap.size w w' := by
  have hC := Go.Lib.hid hC0.2.1
  have hA := Go.Lib.hid hA0.2.1
  have hO := Go.Lib.hid hO0.2.1
  clear hC0 hA0 hO0
  obtain rfl : fst.length = n := hC.out.1
  by_cases h1 : (40 : Int) < (fst.length : Int)
  · have h1' : decide ((40 : Int) < (fst.length : Int)) = true := by simpa using h1
    clear hC hA hO h1
    go_enter Try.func6, Try.ntmps6
    go_wp2_with fail
    refine (awake_calls w).mono ?_
    rintro e w5 ⟨rfl, hB5⟩
    have HB := Go.Lib.hid hB5
    clear hB5
    go_wp2_with fail
    go_ret
    exact ⟨rfl, HB.out⟩
  have h1' : decide ((40 : Int) < (fst.length : Int)) = false := by simpa using h1
  by_cases h2 : (60 : Int) < (n1 : Int)
  · have h2' : decide ((60 : Int) < (n1 : Int)) = true := by simpa using h2
    clear hC hA hO h2
    go_enter Try.func6, Try.ntmps6
    go_wp2_with fail
    refine (awake_calls w).mono ?_
    rintro e w5 ⟨rfl, hB5⟩
    have HB := Go.Lib.hid hB5
    clear hB5
    go_wp2_with fail
    go_ret
    exact ⟨rfl, HB.out⟩
  have h2' : decide ((60 : Int) < (n1 : Int)) = false := by simpa using h2
  by_cases h3 : (60 : Int) < (n2 : Int)
  · have h3' : decide ((60 : Int) < (n2 : Int)) = true := by simpa using h3
    clear hC hA hO h3
    go_enter Try.func6, Try.ntmps6
    go_wp2_with fail
    refine (awake_calls w).mono ?_
    rintro e w5 ⟨rfl, hB5⟩
    have HB := Go.Lib.hid hB5
    clear hB5
    go_wp2_with fail
    go_ret
    exact ⟨rfl, HB.out⟩
  have h3' : decide ((60 : Int) < (n2 : Int)) = false := by simpa using h3
  have hn : fst.length ≤ 40 := by omega
  have hn1 : n1 ≤ 60 := by omega
  have hn2 : n2 ≤ 60 := by omega
  clear h1 h2 h3
  go_enter Try.func6, Try.ntmps6
  go_wp2_with fail
  refine (new_calls (fst := fst) _ c hC.out (by omega)).mono ?_
  rintro e w1 ⟨g, v1, v2, rfl, hI1, hB1⟩
  have HI := Go.Lib.hid hI1
  have HW := Go.Lib.hid hB1
  have HG := Go.Lib.hid (show ∀ i, All g v1 v2 i → w.heap.size ≤ i ∧ i < w1.heap.size from fun i hi => ⟨hI1.ge i hi, hI1.lt i hi⟩)
  clear hI1 hB1
  go_wp2_with fail
  refine (new_calls (fst := fst) _ c (Kd.C_below hC.out HW.out) (by omega)).mono ?_
  rintro e w2 ⟨g2, u1, u2, rfl, hI2, hB2⟩
  have HJ := Go.Lib.hid hI2
  replace HI := Go.Lib.hid (HI.out.below hB2)
  have HG2 := Go.Lib.hid hI2.ge
  replace HW := Go.Lib.hid (Below.chg HW.out (Chg.of_below (S := fun _ => False) hB2) (fun _ h => False.elim h) HW.out.size)
  have HN12 := Go.Lib.hid (show ∀ i, All g2 u1 u2 i → ¬ Mut g v2 i from fun i hi hm => by have := hI2.ge i hi; have := HG.out i hm.all; omega)
  have HN21 := Go.Lib.hid (show ∀ i, All g v1 v2 i → ¬ Mut g2 u2 i from fun i hi hm => by have := hI2.ge i hm.all; have := HG.out i hi; omega)
  have HM1 := Go.Lib.hid (show ∀ i, Mut g v2 i → w.heap.size ≤ i from fun i hm => (HG.out i hm.all).1)
  have HM2 := Go.Lib.hid (show ∀ i, Mut g2 u2 i → w.heap.size ≤ i from fun i hm => by have := hI2.ge i hm.all; have := HG.out g (.inl rfl); omega)
  clear hI2 hB2
  have hlen0 : (fst.map (·.f0)).length = fst.length := by simp
  generalize hfm : fst.map (·.f0) = n0 at *
  go_wp2_with fail
  go_loopw [39] (fun i wr => ∃ (k : Nat) (nw : List Int) (m : Int), k ≤ n1 ∧ i = .int .i64 k ∧ 0 ≤ m ∧ m ≤ k ∧ IsCells wr w.heap.size g v1 v2 fst nw m ∧ IsCells wr w1.heap.size g2 u1 u2 fst n0 0 ∧ Below w.heap.size w wr) (fun i _ => n1 - (intOf i).toNat)
  case atStart => exact ⟨0, _, 0, Nat.zero_le _, rfl, by omega, by omega, HI.out, HJ.out, HW.out⟩
  case round =>
    obtain ⟨k, nw, m, hk, rfl, hm0, hm1, hI, hJ, hB⟩ := hrel
    have HI := Go.Lib.hid hI
    have HJ := Go.Lib.hid hJ
    have HW := Go.Lib.hid hB
    clear hI hJ hB
    by_cases hlt : k < n1
    · obtain ⟨ad, rfl, gg0, gg1, gg2⟩ := at_T48 (Kd.C_below hA.out HW.out) (k : Int) (by omega) (by omega)
      rw [Int.toNat_natCast] at gg0 gg1 gg2
      generalize rd_T48 pre (k : Int) = x at *
      have hxo : IsOp (wr.alloc (.cells #[.int .i64 x.f0, .int .i64 x.f1, .int .u32 x.f2] 48)) wr.heap.size x := blk_new wr _
      have hout : ∀ i, Mut g v2 i → i ≠ wr.heap.size := fun i hi => by have := HI.out.lt i hi.all; omega
      have HX := Go.Lib.hid hxo
      have HNX := Go.Lib.hid hout
      have HI7 := Go.Lib.hid (HI.out.alloc (.cells #[.int .i64 x.f0, .int .i64 x.f1, .int .u32 x.f2] 48))
      have HJ7 := Go.Lib.hid (HJ.out.alloc (.cells #[.int .i64 x.f0, .int .i64 x.f1, .int .u32 x.f2] 48))
      have HW7 := Go.Lib.hid (below_alloc HW.out (.cells #[.int .i64 x.f0, .int .i64 x.f1, .int .u32 x.f2] 48))
      clear hxo hout
      obtain ⟨x0, x1, x2⟩ := x
      by_cases hx3 : x0 = 3
      · have hk3 : (x0 == 3) = true := beq_iff_eq.2 hx3
        clear hx3
        go_wp2_with fail
        refine (warm_calls HI7.out (by omega)).mono ?_
        rintro e w3 ⟨rfl, hI3, hC3⟩
        replace HI7 := Go.Lib.hid hI3
        replace HJ7 := Go.Lib.hid (HJ7.out.chg hC3 HN12.out)
        replace HW7 := Go.Lib.hid (Below.chg HW7.out hC3 HM1.out HW7.out.size)
        replace HX := Go.Lib.hid (HX.out.chg hC3 (fun hm => HNX.out _ hm rfl))
        clear hI3 hC3
        have q1 := HX.out.c1
        have q2 := HX.out.c2
        go_wp2_with fail
        refine (set_calls HI7.out x1 x2 hm0 (by omega)).mono ?_
        rintro e w4 ⟨rfl, hI4, hC4⟩
        replace HI7 := Go.Lib.hid hI4
        replace HJ7 := Go.Lib.hid (HJ7.out.chg hC4 HN12.out)
        replace HW7 := Go.Lib.hid (Below.chg HW7.out hC4 HM1.out HW7.out.size)
        clear hI4 hC4
        go_wp2_with fail
        go_roundw
        case rel => exact ⟨k + 1, _, _, by omega, by go_num, setM_lo _ _ _ hm0, Int.le_trans (setM_hi _ _ _ _ hm1) (by omega), HI7.out, HJ7.out, HW7.out⟩
        case measure => simp [intOf]; omega
      · have hk3 : (x0 == 3) = false := beq_eq_false_iff_ne.2 hx3
        clear hx3
        go_wp2_with fail
        refine (set_calls HI7.out x1 x2 hm0 (by omega)).mono ?_
        rintro e w4 ⟨rfl, hI4, hC4⟩
        replace HI7 := Go.Lib.hid hI4
        replace HJ7 := Go.Lib.hid (HJ7.out.chg hC4 HN12.out)
        replace HW7 := Go.Lib.hid (Below.chg HW7.out hC4 HM1.out HW7.out.size)
        clear hI4 hC4
        go_wp2_with fail
        go_roundw
        case rel => exact ⟨k + 1, _, _, by omega, by go_num, setM_lo _ _ _ hm0, Int.le_trans (setM_hi _ _ _ _ hm1) (by omega), HI7.out, HJ7.out, HW7.out⟩
        case measure => simp [intOf]; omega
    · obtain rfl : k = n1 := by omega
      go_wp2_with fail
      refine (cold_calls HI.out (by omega)).mono ?_
      rintro e w3 ⟨rfl, hI3, hC3⟩
      rw [back_all fst _ HI.out.len, hfm] at hI3
      replace HI := Go.Lib.hid hI3
      replace HJ := Go.Lib.hid (HJ.out.chg hC3 HN12.out)
      replace HW := Go.Lib.hid (Below.chg HW.out hC3 HM1.out HW.out.size)
      clear hI3 hC3
      go_wp2_with fail
      go_loopw [59] (fun i wr => ∃ (k : Nat) (nw : List Int) (m : Int), k ≤ n2 ∧ i = .int .i64 k ∧ 0 ≤ m ∧ m ≤ k ∧ IsCells wr w.heap.size g v1 v2 fst nw m ∧ IsCells wr w1.heap.size g2 u1 u2 fst nw m ∧ Below w.heap.size w wr) (fun i _ => n2 - (intOf i).toNat)
      case atStart => exact ⟨0, _, 0, Nat.zero_le _, rfl, by omega, by omega, HI.out, HJ.out, HW.out⟩
      case round =>
        obtain ⟨k, nw, m, hk, rfl, hm0, hm1, hI, hJ, hB⟩ := hrel
        have HI := Go.Lib.hid hI
        have HJ := Go.Lib.hid hJ
        have HW := Go.Lib.hid hB
        clear hI hJ hB
        by_cases hlt : k < n2
        · obtain ⟨ad, rfl, gg0, gg1, gg2⟩ := at_T48 (Kd.C_below hO.out HW.out) (k : Int) (by omega) (by omega)
          rw [Int.toNat_natCast] at gg0 gg1 gg2
          generalize rd_T48 ops (k : Int) = x at *
          have hxo : IsOp (wr.alloc (.cells #[.int .i64 x.f0, .int .i64 x.f1, .int .u32 x.f2] 48)) wr.heap.size x := blk_new wr _
          have hout : ∀ i, Mut g v2 i → i ≠ wr.heap.size := fun i hi => by have := HI.out.lt i hi.all; omega
          have hout2 : ∀ i, Mut g2 u2 i → i ≠ wr.heap.size := fun i hi => by have := HJ.out.lt i hi.all; omega
          have HX := Go.Lib.hid hxo
          have HNX := Go.Lib.hid hout
          have HNX2 := Go.Lib.hid hout2
          have HI7 := Go.Lib.hid (HI.out.alloc (.cells #[.int .i64 x.f0, .int .i64 x.f1, .int .u32 x.f2] 48))
          have HJ7 := Go.Lib.hid (HJ.out.alloc (.cells #[.int .i64 x.f0, .int .i64 x.f1, .int .u32 x.f2] 48))
          have HW7 := Go.Lib.hid (below_alloc HW.out (.cells #[.int .i64 x.f0, .int .i64 x.f1, .int .u32 x.f2] 48))
          clear hxo hout hout2
          obtain ⟨x0, x1, x2⟩ := x
          by_cases hx3 : x0 = 3
          · have hk3 : (x0 == 3) = true := beq_iff_eq.2 hx3
            clear hx3
            go_wp2_with fail
            refine (warm_calls HI7.out (by omega)).mono ?_
            rintro e w3 ⟨rfl, hI3, hC3⟩
            replace HI7 := Go.Lib.hid hI3
            replace HJ7 := Go.Lib.hid (HJ7.out.chg hC3 HN12.out)
            replace HW7 := Go.Lib.hid (Below.chg HW7.out hC3 HM1.out HW7.out.size)
            clear hI3 hC3
            go_wp2_with fail
            refine (warm_calls HJ7.out (by omega)).mono ?_
            rintro e w4 ⟨rfl, hJ4, hC4⟩
            replace HJ7 := Go.Lib.hid hJ4
            replace HI7 := Go.Lib.hid (HI7.out.chg hC4 HN21.out)
            replace HW7 := Go.Lib.hid (Below.chg HW7.out hC4 HM2.out HW7.out.size)
            clear hJ4 hC4
            generalize back false fst nw fst.length = nx at *
            have hx0 : 0 ≤ m := hm0
            have hx1 : m ≤ ((k + 1 : Nat) : Int) := by omega
            go_wp2_with fail
            have hS := same_calls HI7.out HJ7.out (by have := HI7.out.len; omega)
            rw [show decide (nx = nx) = true from decide_eq_true rfl] at hS
            refine hS.mono ?_
            clear hS
            rintro e w5 ⟨rfl, hd5⟩
            obtain ⟨q5, rfl⟩ := hd5.out
            clear hd5
            replace HI7 := Go.Lib.hid (HI7.out.drewN q5)
            replace HJ7 := Go.Lib.hid (HJ7.out.drewN q5)
            replace HW7 := Go.Lib.hid (pw_below_drewN HW7.out q5)
            go_wp2_with fail
            refine (writes_calls HI7.out).mono ?_
            rintro e w6 ⟨rfl, rfl⟩
            go_wp2_with fail
            refine (writes_calls HJ7.out).mono ?_
            rintro e w6 ⟨rfl, rfl⟩
            go_wp2_with fail
            refine (fresh_calls HI7.out).mono ?_
            rintro e w6 ⟨rfl, hB6⟩
            replace HI7 := Go.Lib.hid (HI7.out.below hB6)
            replace HJ7 := Go.Lib.hid (HJ7.out.below hB6)
            replace HW7 := Go.Lib.hid (Below.chg HW7.out (Chg.of_below (S := fun _ => False) hB6) (fun _ h => False.elim h) HW7.out.size)
            clear hB6
            go_wp2_with fail
            refine (fresh_calls HJ7.out).mono ?_
            rintro e w8 ⟨rfl, hB8⟩
            replace HI7 := Go.Lib.hid (HI7.out.below hB8)
            replace HJ7 := Go.Lib.hid (HJ7.out.below hB8)
            replace HW7 := Go.Lib.hid (Below.chg HW7.out (Chg.of_below (S := fun _ => False) hB8) (fun _ h => False.elim h) HW7.out.size)
            clear hB8
            generalize fresh fst nx = fb at *
            go_wp2_with fail
            go_roundw
            case rel => exact ⟨k + 1, _, _, by omega, by go_num, hx0, hx1, HI7.out, HJ7.out, HW7.out⟩
            case measure => simp [intOf]; omega
          · have hk3 : (x0 == 3) = false := beq_eq_false_iff_ne.2 hx3
            clear hx3
            go_wp2_with fail
            replace HI7 := Go.Lib.hid HI7.out.drew
            replace HJ7 := Go.Lib.hid HJ7.out.drew
            replace HW7 := Go.Lib.hid (below_drew1 HW7.out)
            replace HX := Go.Lib.hid (show IsOp (wr.alloc (.cells #[.int .i64 x0, .int .i64 x1, .int .u32 x2] 48)).drew wr.heap.size ⟨x0, x1, x2⟩ from HX.out)
            clear gg0 gg1 gg2
            refine start_ (n := 13) (S := fun w' => w'.cell? ⟨wr.heap.size, 1, none⟩ = some (.int .i64 x1) ∧ w'.cell? ⟨wr.heap.size, 2, none⟩ = some (.int .u32 x2)) (ds := []) #[false, false, false, false, false, false, false, false, false, false, false, false, false] (by kernel_rfl) rfl rfl ⟨HX.out.c1, HX.out.c2⟩ (fun hHeld => ?_)
            generalize (wr.alloc (.cells #[.int .i64 x0, .int .i64 x1, .int .u32 x2] 48)).drew = W at *
            refine pure_ (i := 0) (N := some 70) (v := ?_) (a' := ?_) #[true, false, false, false, false, false, false, false, false, false, false, false, false] rfl rfl (by kernel_rfl) (fun _ _ _ h => h) (Or.inl ⟨by rfl, ?_⟩) ?_ ?_
            rotate_left
            · intro w'
              go_simp
              with_reducible rfl
            rotate_left
            · simp only [Act.put, List.setIfInBounds_toArray, List.set_cons_zero, List.set_cons_succ, i64_w, i32_w]
              rfl
            refine pure_ (i := 1) (N := some 71) (v := ?_) (a' := ?_) #[true, true, false, false, false, false, false, false, false, false, false, false, false] rfl rfl (by kernel_rfl) (fun _ _ _ h => h) (Or.inl ⟨by rfl, ?_⟩) ?_ ?_
            rotate_left
            · intro w'
              go_simp
              with_reducible rfl
            rotate_left
            · simp only [Act.put, List.setIfInBounds_toArray, List.set_cons_zero, List.set_cons_succ, i64_w, i32_w]
              rfl
            refine take_ (i := 2) (N := some 72) (v := ?_) (a' := ?_) #[true, true, true, false, false, false, false, false, false, false, false, false, false] rfl rfl (by kernel_rfl) (fun _ _ _ h => h) (Or.inl ⟨by rfl, ?_⟩) hHeld ?_ ?_
            rotate_left
            · rintro w' ⟨s1, s2⟩
              go_simp
              with_reducible rfl
            rotate_left
            · simp only [Act.put, List.setIfInBounds_toArray, List.set_cons_zero, List.set_cons_succ, i64_w, i32_w]
              rfl
            refine pure_ (i := 3) (N := some 73) (v := ?_) (a' := ?_) #[true, true, true, true, false, false, false, false, false, false, false, false, false] rfl rfl (by kernel_rfl) (fun _ _ _ h => h) (Or.inl ⟨by rfl, ?_⟩) ?_ ?_
            rotate_left
            · intro w'
              go_simp
              with_reducible rfl
            rotate_left
            · simp only [Act.put, List.setIfInBounds_toArray, List.set_cons_zero, List.set_cons_succ, i64_w, i32_w]
              rfl
            refine take_ (i := 4) (N := some 74) (v := ?_) (a' := ?_) #[true, true, true, true, true, false, false, false, false, false, false, false, false] rfl rfl (by kernel_rfl) (fun _ _ _ h => h) (Or.inl ⟨by rfl, ?_⟩) hHeld ?_ ?_
            rotate_left
            · rintro w' ⟨s1, s2⟩
              go_simp
              with_reducible rfl
            rotate_left
            · simp only [Act.put, List.setIfInBounds_toArray, List.set_cons_zero, List.set_cons_succ, i64_w, i32_w]
              rfl
            refine pure_ (i := 6) (N := some 76) (v := ?_) (a' := ?_) #[true, true, true, true, true, false, true, false, false, false, false, false, false] rfl rfl (by kernel_rfl) (fun _ _ _ h => h) (Or.inl ⟨by rfl, ?_⟩) ?_ ?_
            rotate_left
            · intro w'
              go_simp
              with_reducible rfl
            rotate_left
            · simp only [Act.put, List.setIfInBounds_toArray, List.set_cons_zero, List.set_cons_succ, i64_w, i32_w]
              rfl
            refine pure_ (i := 7) (N := some 77) (v := ?_) (a' := ?_) #[true, true, true, true, true, false, true, true, false, false, false, false, false] rfl rfl (by kernel_rfl) (fun _ _ _ h => h) (Or.inl ⟨by rfl, ?_⟩) ?_ ?_
            rotate_left
            · intro w'
              go_simp
              with_reducible rfl
            rotate_left
            · simp only [Act.put, List.setIfInBounds_toArray, List.set_cons_zero, List.set_cons_succ, i64_w, i32_w]
              rfl
            refine take_ (i := 8) (N := some 78) (v := ?_) (a' := ?_) #[true, true, true, true, true, false, true, true, true, false, false, false, false] rfl rfl (by kernel_rfl) (fun _ _ _ h => h) (Or.inl ⟨by rfl, ?_⟩) hHeld ?_ ?_
            rotate_left
            · rintro w' ⟨s1, s2⟩
              go_simp
              with_reducible rfl
            rotate_left
            · simp only [Act.put, List.setIfInBounds_toArray, List.set_cons_zero, List.set_cons_succ, i64_w, i32_w]
              rfl
            refine pure_ (i := 9) (N := some 79) (v := ?_) (a' := ?_) #[true, true, true, true, true, false, true, true, true, true, false, false, false] rfl rfl (by kernel_rfl) (fun _ _ _ h => h) (Or.inl ⟨by rfl, ?_⟩) ?_ ?_
            rotate_left
            · intro w'
              go_simp
              with_reducible rfl
            rotate_left
            · simp only [Act.put, List.setIfInBounds_toArray, List.set_cons_zero, List.set_cons_succ, i64_w, i32_w]
              rfl
            refine take_ (i := 10) (N := some 80) (v := ?_) (a' := ?_) #[true, true, true, true, true, false, true, true, true, true, true, false, false] rfl rfl (by kernel_rfl) (fun _ _ _ h => h) (Or.inl ⟨by rfl, ?_⟩) hHeld ?_ ?_
            rotate_left
            · rintro w' ⟨s1, s2⟩
              go_simp
              with_reducible rfl
            rotate_left
            · simp only [Act.put, List.setIfInBounds_toArray, List.set_cons_zero, List.set_cons_succ, i64_w, i32_w]
              rfl
            refine one_ (i := 5) (N := some 75) #[true, true, true, true, true, true, true, true, true, true, true, false, false] rfl rfl (by kernel_rfl) (by decide) (fun K hK => ?_)
            refine goes_ Try.func25 (by kernel_rfl) rfl #[.pointer (some ⟨g, 0, none⟩), .int .i64 x1, .int .u32 x2] (by rfl) rfl rfl (by (try simp only [List.map_toArray, List.map_cons, List.map_nil]); first | done | rfl) ?_
            refine (set_calls HI7.out x1 x2 hm0 (by omega)).mono ?_
            rintro e w9 ⟨rfl, hI9, hC9⟩
            have HI9 := Go.Lib.hid hI9
            have HJ9 := Go.Lib.hid (HJ7.out.chg hC9 HN12.out)
            have HW9 := Go.Lib.hid (Below.chg HW7.out hC9 HM1.out HW7.out.size)
            have HX9 := Go.Lib.hid (HX.out.chg hC9 (fun hm => HNX.out _ hm rfl))
            clear hI9 hC9
            refine ⟨_, rfl, ?_⟩
            refine hK.out _ _ ⟨HX9.out.c1, HX9.out.c2⟩ (fun hHeld => ?_)
            clear hK K
            refine norm_ (a' := ?_) ?_ ?_
            rotate_left
            · show Act.put _ (some 75) _ = _
              simp only [Act.put, List.setIfInBounds_toArray, List.set_cons_zero, List.set_cons_succ, i64_w, i32_w]
              rfl
            refine one_ (i := 11) (N := some 81) #[true, true, true, true, true, true, true, true, true, true, true, true, false] rfl rfl (by kernel_rfl) (by decide) (fun K hK => ?_)
            refine goes_ Try.func25 (by kernel_rfl) rfl #[.pointer (some ⟨g2, 0, none⟩), .int .i64 x1, .int .u32 x2] (by rfl) rfl rfl (by (try simp only [List.map_toArray, List.map_cons, List.map_nil]); first | done | rfl) ?_
            refine (set_calls HJ9.out x1 x2 hm0 (by omega)).mono ?_
            rintro e w10 ⟨rfl, hJ10, hC10⟩
            have HJ10 := Go.Lib.hid hJ10
            have HI10 := Go.Lib.hid (HI9.out.chg hC10 HN21.out)
            have HW10 := Go.Lib.hid (Below.chg HW9.out hC10 HM2.out HW9.out.size)
            have HX10 := Go.Lib.hid (HX9.out.chg hC10 (fun hm => HNX2.out _ hm rfl))
            clear hJ10 hC10
            refine ⟨_, rfl, ?_⟩
            refine hK.out _ _ ⟨HX10.out.c1, HX10.out.c2⟩ (fun hHeld => ?_)
            clear hK K
            refine norm_ (a' := ?_) ?_ ?_
            rotate_left
            · show Act.put _ (some 81) _ = _
              simp only [Act.put, List.setIfInBounds_toArray, List.set_cons_zero, List.set_cons_succ, i64_w, i32_w]
              rfl
            refine pure_ (i := 12) (N := some 82) (v := ?_) (a' := ?_) #[true, true, true, true, true, true, true, true, true, true, true, true, true] rfl rfl (by kernel_rfl) (fun _ _ _ h => h) (Or.inl ⟨by rfl, ?_⟩) ?_ ?_
            rotate_left
            · intro w'
              go_simp
              with_reducible rfl
            rotate_left
            · simp only [Act.put, List.setIfInBounds_toArray, List.set_cons_zero, List.set_cons_succ, i64_w, i32_w]
              rfl
            refine done_ (by kernel_rfl) ?_
            have hx0 : 0 ≤ setM nw x1 m := setM_lo _ _ _ hm0
            have hx1 : setM nw x1 m ≤ ((k + 1 : Nat) : Int) := Int.le_trans (setM_hi _ _ _ _ hm1) (by omega)
            replace HI7 := HI10
            replace HJ7 := HJ10
            replace HW7 := HW10
            clear HI9 HJ9 HW9 HX9 HX10
            generalize setN nw x1 x2 = nx at *
            generalize setM nw x1 m = mx at *
            go_wp2_with fail
            have hS := same_calls HI7.out HJ7.out (by have := HI7.out.len; omega)
            rw [show decide (nx = nx) = true from decide_eq_true rfl] at hS
            refine hS.mono ?_
            clear hS
            rintro e w5 ⟨rfl, hd5⟩
            obtain ⟨q5, rfl⟩ := hd5.out
            clear hd5
            replace HI7 := Go.Lib.hid (HI7.out.drewN q5)
            replace HJ7 := Go.Lib.hid (HJ7.out.drewN q5)
            replace HW7 := Go.Lib.hid (pw_below_drewN HW7.out q5)
            go_wp2_with fail
            refine (writes_calls HI7.out).mono ?_
            rintro e w6 ⟨rfl, rfl⟩
            go_wp2_with fail
            refine (writes_calls HJ7.out).mono ?_
            rintro e w6 ⟨rfl, rfl⟩
            go_wp2_with fail
            refine (fresh_calls HI7.out).mono ?_
            rintro e w6 ⟨rfl, hB6⟩
            replace HI7 := Go.Lib.hid (HI7.out.below hB6)
            replace HJ7 := Go.Lib.hid (HJ7.out.below hB6)
            replace HW7 := Go.Lib.hid (Below.chg HW7.out (Chg.of_below (S := fun _ => False) hB6) (fun _ h => False.elim h) HW7.out.size)
            clear hB6
            go_wp2_with fail
            refine (fresh_calls HJ7.out).mono ?_
            rintro e w8 ⟨rfl, hB8⟩
            replace HI7 := Go.Lib.hid (HI7.out.below hB8)
            replace HJ7 := Go.Lib.hid (HJ7.out.below hB8)
            replace HW7 := Go.Lib.hid (Below.chg HW7.out (Chg.of_below (S := fun _ => False) hB8) (fun _ h => False.elim h) HW7.out.size)
            clear hB8
            generalize fresh fst nx = fb at *
            go_wp2_with fail
            go_roundw
            case rel => exact ⟨k + 1, _, _, by omega, by go_num, hx0, hx1, HI7.out, HJ7.out, HW7.out⟩
            case measure => simp [intOf]; omega
        · obtain rfl : k = n2 := by omega
          go_wp2_with fail
          refine (len_calls HI.out).mono ?_
          rintro e w5 ⟨rfl, rfl⟩
          have hle := HI.out.len
          rw [hle]
          go_wp2_with fail
          refine (awake_calls _).mono ?_
          rintro e w10 ⟨rfl, hB10⟩
          replace HW := Go.Lib.hid (Below.chg HW.out (Chg.of_below (S := fun _ => False) hB10) (fun _ h => False.elim h) HW.out.size)
          clear hB10
          go_wp2_with fail
          go_ret
          exact ⟨rfl, HW.out⟩
end Go.Proofs.Ytkmhgolohppliaa.Cel
