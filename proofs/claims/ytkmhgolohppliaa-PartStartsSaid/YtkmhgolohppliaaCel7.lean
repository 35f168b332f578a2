/- CellsWarm, walked. -/
import Derived.Test.YtkmhgolohppliaaCel6
import Derived.Deep.QuietTactic
import Derived.BigQuiet
import Derived.Test.YtkmhgolohppliaaOpn
namespace Go.Proofs.Ytkmhgolohppliaa.Cel
open Go.RowKit Go.Proofs.Ytkmhgolohppliaa.PCellsPlays Go.Proofs.YtkmhgolohppliaaW.PrintWords Go.Proofs.YtkmhgolohppliaaW.PrintLast Go.Proofs.YtkmhgolohppliaaW.PrintMore Go.Proofs.Ytkmhgolohppliaa.Mine
set_option linter.unusedVariables false
set_option linter.unusedSimpArgs false
attribute [local go_sem] max2_int min2_int max_two min_two max_three min_three max_four min_four

variable {w : World} {base g : Nat} {v1 v2 : Value} {fst : List S43} {now : List Int} {wr : Int}
/-- A slice of integers as the row's opener gives it. -/
def IsRow (k : IntKind) (w : World) (a : Option Addr) (len cap : Nat) (zs : List Int) : Prop :=
  (a = none ∧ len = 0 ∧ cap = 0 ∧ zs = []) ∨
  ∃ x, a = some x ∧ len ≤ cap ∧ cap ≤ maxLen ∧ zs.length = cap ∧ (∀ i, i < zs.length → w.cell? (x.add i) = some (.int k (zs.getD i 0))) ∧ ∀ n ∈ zs, (Lit.int k n).wf = true
theorem IsRow.at_ {k : IntKind} {w : World} {a : Option Addr} {len cap : Nat} {zs : List Int} (h : IsRow k w a len cap zs) (i : Nat) (hi : i < len) :
    ∃ x, a = some x ∧ x.block < w.heap.size ∧ w.cell? (x.add i) = some (.int k (zs.getD i 0)) ∧ len ≤ cap := by
  rcases h with ⟨_, rfl, _, _⟩ | ⟨x, rfl, hl, hm, hz, hc, hw⟩
  · omega
  · have hlt : i < zs.length := by omega
    have hcell := hc i hlt
    refine ⟨x, rfl, ?_, hcell, hl⟩
    have := World.block_lt_of_cell? w _ hcell
    rwa [add_block] at this

theorem fresh_map (fst : List S43) : fresh fst (fst.map (·.f0)) = true := by
  unfold fresh
  rw [decide_eq_true_iff]
  intro i hi
  rw [rd43_get fst i hi, rd_nat _ i (by simpa using hi)]
  simp
theorem back_rd (fst : List S43) (now : List Int) (hl : now.length = fst.length) (k : Nat) (hk : k < fst.length) :
    rd (back false fst now fst.length) k = if (rd_T43 fst k).f1 = true then rd now k else (rd_T43 fst k).f0 := by
  have h := back_get fst now hl false fst.length k (Nat.le_refl _) hk
  have hb := back_len false fst now fst.length
  rw [rd_nat _ k (by omega), rd_nat _ k (by omega), rd43_get fst k hk]
  rw [List.getElem?_eq_getElem (by omega)] at h
  injection h with h
  rw [h]
  by_cases hx : fst[k].f1 = true
  · rw [if_neg (by rintro ⟨_, h2⟩; unfold goes at h2; simp [hx] at h2), if_pos hx]
  · rw [if_pos ⟨hk, by unfold goes; simp at hx; simp [hx]⟩, if_neg hx]

set_option maxHeartbeats 6400000 in
set_option maxRecDepth 100000 in
theorem cellsWarm_walk (w : World) (A : Option Addr) (n c : Nat) (fst : List S43) (hC0 : n ≤ c ∧ k43.C w A n fst ∧ ∀ z ∈ fst, (Lit.int .u32 z.f0).wf = true) (a : Option Addr) (len cap : Nat) (zs : List Int) (hr : IsRow .u32 w a len cap zs) :
    Calls Try.prog 5 #[.slice A n c, .slice a len cap] w fun e w' => e = .returned (.bool true) ∧ Below w.heap.size w w' := by
  have hC := hC0.2.1
  clear hC0
  obtain rfl : fst.length = n := hC.1
  have HC := Go.Lib.hid hC
  have HR := Go.Lib.hid hr
  clear hC hr
  by_cases h1 : (40 : Int) < (fst.length : Int)
  · have h1' : decide ((40 : Int) < (fst.length : Int)) = true := by simpa using h1
    clear h1
    go_enter Try.func5, Try.ntmps5
    go_wp2_with fail
    refine (awake_calls w).mono ?_
    rintro e w5 ⟨rfl, hB5⟩
    have HB := Go.Lib.hid hB5
    clear hB5
    go_wp2_with fail
    go_ret
    exact ⟨rfl, HB.out⟩
  have h1' : decide ((40 : Int) < (fst.length : Int)) = false := by simpa using h1
  by_cases h2 : (40 : Int) < (len : Int)
  · have h2' : decide ((40 : Int) < (len : Int)) = true := by simpa using h2
    clear h1 h2
    go_enter Try.func5, Try.ntmps5
    go_wp2_with fail
    refine (awake_calls w).mono ?_
    rintro e w5 ⟨rfl, hB5⟩
    have HB := Go.Lib.hid hB5
    clear hB5
    go_wp2_with fail
    go_ret
    exact ⟨rfl, HB.out⟩
  have h2' : decide ((40 : Int) < (len : Int)) = false := by simpa using h2
  have hn : fst.length ≤ 40 := by omega
  have hl : len ≤ 40 := by omega
  clear h1 h2
  go_enter Try.func5, Try.ntmps5
  go_wp2_with fail
  refine (new_calls (fst := fst) _ c HC.out (by omega)).mono ?_
  rintro e w1 ⟨g, v1, v2, rfl, hI1, hB1⟩
  have HI := Go.Lib.hid hI1
  have HW := Go.Lib.hid hB1
  have HG := Go.Lib.hid hI1.ge
  have HF := Go.Lib.hid (fresh_calls hI1)
  rw [fresh_map] at HF
  clear hI1 hB1
  go_wp2_with fail
  refine HF.out.mono ?_
  rintro e w2 ⟨rfl, hB⟩
  replace HI := Go.Lib.hid (HI.out.below hB)
  replace HW := Go.Lib.hid (Below.chg HW.out (Chg.of_below (S := fun _ => False) hB) (fun _ h => False.elim h) HW.out.size)
  clear hB HF
  go_wp2_with fail
  go_loopw [32] (fun i wr => ∃ (k : Nat) (nw : List Int) (m : Int), k ≤ len ∧ i = .int .i64 k ∧ 0 ≤ m ∧ m ≤ k ∧ IsCells wr w.heap.size g v1 v2 fst nw m ∧ Below w.heap.size w wr) (fun i _ => len - (intOf i).toNat)
  case atStart => exact ⟨0, _, 0, Nat.zero_le _, rfl, by omega, by omega, HI.out, HW.out⟩
  case round =>
    obtain ⟨k, nw, m, hk, rfl, hm0, hm1, hI, hB⟩ := hrel
    have HI := Go.Lib.hid hI
    have HW := Go.Lib.hid hB
    clear hI hB
    by_cases hlt : k < len
    · obtain ⟨x, rfl, hxb, hcell, hlc⟩ := HR.out.at_ k hlt
      have hc : wr.cell? (x.add k) = some (.int .u32 (zs.getD k 0)) := by rw [HW.out.cell (by rw [add_block]; exact hxb)]; exact hcell
      clear hcell
      generalize zs.getD k 0 = z at *
      by_cases hin : inB (k : Int) nw.length = true
      · have HS := Go.Lib.hid (set_yes HI.out (k : Int) z hin hm0 (by omega))
        clear hin
        go_wp2_with fail
        refine HS.out.mono ?_
        rintro e w3 ⟨rfl, hI3, hC3⟩
        replace HI := Go.Lib.hid hI3
        replace HW := Go.Lib.hid (Below.chg HW.out hC3 (fun i hi => HG.out i hi.all) HW.out.size)
        clear hI3 hC3 HS
        go_wp2_with fail
        go_roundw
        case rel => exact ⟨k + 1, _, m + 1, by omega, by go_num, by omega, by omega, HI.out, HW.out⟩
        case measure => simp [intOf]; omega
      · have HS := Go.Lib.hid (set_no HI.out (k : Int) z (by simpa using hin))
        clear hin
        go_wp2_with fail
        refine HS.out.mono ?_
        rintro e w3 ⟨rfl, rfl⟩
        clear HS
        go_wp2_with fail
        go_roundw
        case rel => exact ⟨k + 1, _, m, by omega, by go_num, by omega, by omega, HI.out, HW.out⟩
        case measure => simp [intOf]; omega
    · obtain rfl : k = len := by omega
      have hnl : nw.length = fst.length := HI.out.len
      go_wp2_with fail
      refine (all_calls HI.out (by omega)).mono ?_
      rintro e w3 ⟨s8, rfl, hR3, hB3⟩
      have hlt0 := HI.out.lt
      replace HI := Go.Lib.hid (HI.out.below hB3)
      have hold := Kd.R_flat (fun h => h) hR3 (ok' := fun i => wr.heap.size ≤ i) (fun i hi _ => Kd.R_base hR3 i hi)
      have HLT := Go.Lib.hid (show ∀ i, All g v1 v2 i → i < w3.heap.size ∧ ¬ wr.heap.size ≤ i from fun i hi => ⟨HI.out.lt i hi, by have := hlt0 i hi; omega⟩)
      replace HW := Go.Lib.hid (Below.chg HW.out (Chg.of_below (S := fun _ => False) hB3) (fun _ h => False.elim h) HW.out.size)
      have HO := Go.Lib.hid hold
      clear hR3 hB3 hold hlt0
      go_wp2_with fail
      refine (warm_calls HI.out (by omega)).mono ?_
      rintro e w4 ⟨rfl, hI4, hC4⟩
      have ho4 := R_chg HO.out hC4 (fun i hi hm => (HLT.out i hm.all).2 hi)
      replace HI := Go.Lib.hid hI4
      replace HW := Go.Lib.hid (Below.chg HW.out hC4 (fun i hi => HG.out i hi.all) HW.out.size)
      replace HO := Go.Lib.hid ho4
      clear hI4 hC4 ho4 HLT
      go_wp2_with fail
      refine (all_calls HI.out (by rw [back_len]; omega)).mono ?_
      rintro e w5 ⟨s9, rfl, hR5, hB5⟩
      have ho5 := Kd.R_below HO.out hB5
      replace HI := Go.Lib.hid (HI.out.below hB5)
      replace HW := Go.Lib.hid (Below.chg HW.out (Chg.of_below (S := fun _ => False) hB5) (fun _ h => False.elim h) HW.out.size)
      obtain ⟨D, d, rfl, hcD, hD⟩ := Kd.R_reads ho5
      obtain ⟨E, e, rfl, hcE, hE⟩ := Kd.R_reads hR5
      have HD := Go.Lib.hid hD
      have HE := Go.Lib.hid hE
      have HBK := Go.Lib.hid (back_rd fst nw hnl)
      rw [back_len, hnl] at *
      clear ho5 hB5 hR5 hcD hcE hD hE HO
      generalize back false fst nw fst.length = nx at *
      go_wp2_with fail
      go_loopw [62] (fun i wr => ∃ (k : Nat), k ≤ fst.length ∧ i = .int .i64 k ∧ Below w5.heap.size w5 wr) (fun i _ => fst.length - (intOf i).toNat)
      case atStart => exact ⟨0, Nat.zero_le _, rfl, Below.refl _ _⟩
      case round =>
        obtain ⟨k, hk, rfl, hB⟩ := hrel
        have HB := Go.Lib.hid hB
        clear hB
        by_cases hlt : k < fst.length
        · obtain ⟨ad, rfl, g0, g1⟩ := at_T43 (Kd.C_below HC.out (HW.out.trans (HB.out.mono HW.out.size))) (k : Int) (by omega) (by omega)
          obtain ⟨ad2, rfl, g2⟩ := Kd.at_int (Kd.C_below HD.out HB.out) (k : Int) (by omega) (by omega)
          obtain ⟨ad3, rfl, g3⟩ := Kd.at_int (Kd.C_below HE.out HB.out) (k : Int) (by omega) (by omega)
          have hbk := HBK.out k hlt
          rw [Int.toNat_natCast] at g0 g1 g2 g3
          generalize rd_T43 fst (k : Int) = x at *
          obtain ⟨xa, xb⟩ := x
          generalize rd nw (k : Int) = z at *
          generalize rd nx (k : Int) = z2 at *
          cases xb with
          | true =>
            obtain rfl : z2 = z := hbk
            go_wp2_with fail
            clear g0 g1
            have f0 : (wr.alloc (.cells #[.int .u32 xa, .bool true] 43)).cell? ⟨wr.heap.size, 0, none⟩ = some (.int .u32 xa) := blk_cell (blk_new wr _) 0
            have f1 : (wr.alloc (.cells #[.int .u32 xa, .bool true] 43)).cell? ⟨wr.heap.size, 1, none⟩ = some (.bool true) := blk_cell (blk_new wr _) 1
            replace g2 := ((below_alloc (Below.refl _ _) (.cells #[.int .u32 xa, .bool true] 43)).cell (World.block_lt_of_cell? _ _ g2)).trans g2
            replace g3 := ((below_alloc (Below.refl _ _) (.cells #[.int .u32 xa, .bool true] 43)).cell (World.block_lt_of_cell? _ _ g3)).trans g3
            have HB7 := Go.Lib.hid (below_alloc HB.out (.cells #[.int .u32 xa, .bool true] 43))
            clear HB HD HE HI HW HBK
            generalize wr.alloc (.cells #[.int .u32 xa, .bool true] 43) = W7 at *
            generalize wr.heap.size = gx at *
            go_quiet (fail)
            go_wp2_with fail
            go_roundw
            case rel => exact ⟨k + 1, by omega, by go_num, pw_below_drewN HB7.out _⟩
            case measure => simp [intOf]; omega
          | false =>
            obtain rfl : z2 = xa := hbk
            go_wp2_with fail
            clear g0 g1
            have f0 : (wr.alloc (.cells #[.int .u32 z2, .bool false] 43)).cell? ⟨wr.heap.size, 0, none⟩ = some (.int .u32 z2) := blk_cell (blk_new wr _) 0
            have f1 : (wr.alloc (.cells #[.int .u32 z2, .bool false] 43)).cell? ⟨wr.heap.size, 1, none⟩ = some (.bool false) := blk_cell (blk_new wr _) 1
            replace g2 := ((below_alloc (Below.refl _ _) (.cells #[.int .u32 z2, .bool false] 43)).cell (World.block_lt_of_cell? _ _ g2)).trans g2
            replace g3 := ((below_alloc (Below.refl _ _) (.cells #[.int .u32 z2, .bool false] 43)).cell (World.block_lt_of_cell? _ _ g3)).trans g3
            have HB7 := Go.Lib.hid (below_alloc HB.out (.cells #[.int .u32 z2, .bool false] 43))
            clear HB HD HE HI HW HBK
            generalize wr.alloc (.cells #[.int .u32 z2, .bool false] 43) = W7 at *
            generalize wr.heap.size = gx at *
            go_quiet (fail)
            go_wp2_with fail
            go_roundw
            case rel => exact ⟨k + 1, by omega, by go_num, pw_below_drewN HB7.out _⟩
            case measure => simp [intOf]; omega
        · obtain rfl : k = fst.length := by omega
          go_wp2_with fail
          have hB6 := HW.out.trans (HB.out.mono HW.out.size)
          have hI6 := HI.out.below HB.out
          refine (cold_calls hI6 (by omega)).mono ?_
          rintro e w7 ⟨rfl, hI7, hC7⟩
          rw [back_all fst _ hI6.len] at hI7
          have HF := Go.Lib.hid (fresh_calls hI7)
          rw [fresh_map] at HF
          have HI7 := Go.Lib.hid hI7
          have HW7 := Go.Lib.hid (Below.chg hB6 hC7 (fun i hi => HG.out i hi.all) hB6.size)
          clear hI7 hC7 hB6 hI6
          go_wp2_with fail
          refine HF.out.mono ?_
          rintro e w8 ⟨rfl, hB8⟩
          replace HI7 := Go.Lib.hid (HI7.out.below hB8)
          replace HW7 := Go.Lib.hid (Below.chg HW7.out (Chg.of_below (S := fun _ => False) hB8) (fun _ h => False.elim h) HW7.out.size)
          clear hB8 HF
          go_wp2_with fail
          refine (writes_calls HI7.out).mono ?_
          rintro e w9 ⟨rfl, rfl⟩
          go_wp2_with fail
          refine (awake_calls _).mono ?_
          rintro e w10 ⟨rfl, hB10⟩
          replace HW7 := Go.Lib.hid (Below.chg HW7.out (Chg.of_below (S := fun _ => False) hB10) (fun _ h => False.elim h) HW7.out.size)
          clear hB10
          go_wp2_with fail
          go_ret
          exact ⟨rfl, HW7.out⟩
end Go.Proofs.Ytkmhgolohppliaa.Cel
