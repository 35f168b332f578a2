/- Drill: the draws out of any seed, walked: the law DrillDraws. -/
import Derived.Test.YtomhhaaogenedaaDrl0
import Derived.OpenShut
namespace Go.Proofs.Ytomhhaaogenedaa.Drd
open Go.RowKit Go.Proofs.Ytomhhaaogenedaa.PDrillDraws Go.Proofs.YtomhhaaogenedaaW.PrintWords Go.Proofs.YtomhhaaogenedaaW.PrintLast Go.Proofs.YtomhhaaogenedaaW.PrintMore
set_option linter.unusedVariables false

/-- The next state. -/
def nx (s : Int) : Int := IntKind.u64.wrap ((IntKind.u64.wrap (s * 6364136223846793005)) + 1442695040888963407)
/-- The draw. -/
def dr (s n : Int) : Int := (nx s / 8589934592) % (if n < 1 then 1 else n)

theorem nx_bd (s : Int) : 0 ≤ nx s ∧ nx s ≤ 18446744073709551615 := by unfold nx; rw [IntKind.wrap_u64]; omega

theorem next_at (s : Int) : countwheelref45_next.f s = some (nx s) := rfl
theorem ref_at (s n : Int) (hn : n ≤ 9223372036854775807) : countwheelref45_Draw.f s n = some (nx s, dr s n) := by
  unfold countwheelref45_Draw.f
  rw [next_at]
  simp only [Option.bind_some]
  obtain ⟨h0, h1⟩ := nx_bd s
  unfold dr
  generalize nx s = t at *
  have e1 : Int.tdiv t 8589934592 = t / 8589934592 := Int.tdiv_eq_ediv_of_nonneg h0
  have e2 : IntKind.u64.wrap (t / 8589934592) = t / 8589934592 := IntWalk.u64_in _ (by omega)
  have e3 : wrap64 (t / 8589934592) = t / 8589934592 := by unfold wrap64; omega
  rw [e1, e2, e3]
  by_cases h : n < 1
  · rw [if_pos h, if_pos h, Int.tmod_eq_emod_of_nonneg (by omega)]
  · rw [if_neg h, if_neg h, if_neg (by omega), Int.tmod_eq_emod_of_nonneg (by omega)]
theorem draw_at (s n : Int) (hn : n ≤ 9223372036854775807) : drill_Dice_Draw.f s n = some (dr s n, nx s) := by
  unfold drill_Dice_Draw.f
  obtain ⟨h0, h1⟩ := nx_bd s
  unfold dr
  have hm : mx n 1 = if n < 1 then 1 else n := rfl
  rw [hm]
  show (if (if n < 1 then 1 else n) = 0 then none else some (Int.tmod (wrap64 (nx s / 8589934592)) (if n < 1 then 1 else n), nx s)) = _
  generalize nx s = t at *
  have e3 : wrap64 (t / 8589934592) = t / 8589934592 := by unfold wrap64; omega
  rw [e3]
  by_cases h : n < 1
  · simp only [if_pos h]
    rw [if_neg (by omega), Int.tmod_eq_emod_of_nonneg (by omega)]
  · simp only [if_neg h]
    rw [if_neg (by omega), Int.tmod_eq_emod_of_nonneg (by omega)]

/-- A row of numbers that came in. -/
def IsRow (k : IntKind) (w : World) (a : Option Addr) (len cap : Nat) (zs : List Int) : Prop :=
  (a = none ∧ len = 0 ∧ cap = 0 ∧ zs = []) ∨
  ∃ x, a = some x ∧ len ≤ cap ∧ cap ≤ maxLen ∧ zs.length = cap ∧ (∀ i, i < zs.length → w.cell? (x.add i) = some (.int k (zs.getD i 0))) ∧ ∀ n ∈ zs, (Lit.int k n).wf = true
theorem cell_lt {w : World} {a : Addr} {v : Value} (h : w.cell? a = some v) : a.block < w.heap.size := by
  unfold World.cell? at h
  rcases Nat.lt_or_ge a.block w.heap.size with hlt | hge
  · exact hlt
  · rw [Array.getElem?_eq_none hge] at h; simp at h
theorem add_block (a : Addr) (n : Nat) : (a.add n).block = a.block := by unfold Addr.add; split <;> rfl
/-- What a row gives at a place. -/
theorem IsRow.at_ {k : IntKind} {w : World} {a : Option Addr} {len cap : Nat} {zs : List Int} (h : IsRow k w a len cap zs) (i : Nat) (hi : i < len) :
    ∃ x n, a = some x ∧ x.block < w.heap.size ∧ (Lit.int k n).wf = true ∧ w.cell? (x.add i) = some (.int k n) ∧ len ≤ cap := by
  rcases h with ⟨_, rfl, _, _⟩ | ⟨x, rfl, hl, hm, hz, hc, hw⟩
  · omega
  · have hlt : i < zs.length := by omega
    have hcell := hc i hlt
    refine ⟨x, zs.getD i 0, rfl, ?_, ?_, hcell, hl⟩
    · have := cell_lt hcell
      rwa [add_block] at this
    · apply hw
      rw [List.getD_eq_getElem?_getD, List.getElem?_eq_getElem hlt]
      exact List.getElem_mem hlt
theorem IsRow.len_le {k : IntKind} {w : World} {a : Option Addr} {len cap : Nat} {zs : List Int} (h : IsRow k w a len cap zs) : len ≤ 9223372036854775807 := by
  rcases h with ⟨_, rfl, _, _⟩ | ⟨x, rfl, hl, hm, hz, hc, hw⟩
  · omega
  · unfold maxLen at hm; omega

theorem awake_calls (w : World) : Calls Try.prog 49 #[] w fun e w' => e = .returned (.bool true) ∧ Below w.heap.size w w' :=
  countwheellaw45_awake.calls 3 true w (by decide +kernel)

set_option maxHeartbeats 800000 in
set_option maxRecDepth 100000 in
theorem drillDraws_walk (w : World) (t0 : Int) (w0 : (Lit.int .u64 t0).wf = true) (a : Option Addr) (len cap : Nat) (zs : List Int) (hr : IsRow .i64 w a len cap zs) :
    Calls Try.prog 13 #[.int .u64 t0, .slice a len cap] w fun e w' => e = .returned (.bool true) ∧ Below w.heap.size w w' := by
  have hb := bounds_u64 w0
  have hlen := hr.len_le
  have HR := Go.Lib.hid hr
  clear hr w0
  go_enter Try.func13, Try.ntmps13
  by_cases hl : (100 : Int) < (len : Int)
  · go_wp2_with fail
    refine (awake_calls w).mono ?_
    rintro e w14 ⟨rfl, hD14⟩
    go_wp2_with fail
    go_ret
    exact ⟨rfl, hD14⟩
  · have hl' : decide ((100 : Int) < (len : Int)) = false := by simpa using hl
    clear hl
    go_wp2_with fail
    refine (drill_New.calls t0 t0 w w (Below.refl _ _) rfl).mono ?_
    rintro e w1 ⟨g, rfl, hI, hB, hB1⟩
    go_wp2_with fail
    go_loopw [6, 22] (fun now i wr => ∃ k : Nat, ∃ s : Int, k ≤ len ∧ i = .int .i64 k ∧ now = .int .u64 s ∧ IsS86 w wr g s ∧ Below w.heap.size w wr) (fun _ i _ => len - (intOf i).toNat)
    case atStart => exact ⟨0, t0, Nat.zero_le _, rfl, rfl, hI, hB⟩
    case round =>
      obtain ⟨k, s, hk, rfl, rfl, hIk, hBk⟩ := hrel
      by_cases hlt : k < len
      · obtain ⟨x, n, rfl, hxb, hwf, hcell, hlc⟩ := HR.out.at_ k hlt
        have hc : wr.cell? (x.add k) = some (.int .i64 n) := by rw [hBk.cell (by rw [add_block]; exact hxb)]; exact hcell
        have hn := bounds_i64 hwf
        have R1 := Go.Lib.hid (ref_at s n hn.2)
        have R2 := Go.Lib.hid (draw_at s n hn.2)
        generalize dr s n = m at *
        generalize nx s = s2 at *
        clear hcell
        go_wp2_with fail
        refine (countwheelref45_Draw.calls s n s2 m wr R1.out).mono ?_
        rintro e w2 ⟨rfl, ⟨nd, rfl⟩⟩
        go_wp2_with fail
        refine (drill_Dice_Draw.calls g s n m s2 w _ (hIk.drewN nd) (pw_below_drewN hBk nd) R2.out).mono ?_
        rintro e w3 ⟨rfl, hI3, hB3, hK3⟩
        go_wp2_with fail
        refine (drill_Dice_State.calls g s2 s2 s2 w _ hI3 hB3 rfl).mono ?_
        rintro e w4 ⟨rfl, hI4, hB4, hK4⟩
        go_wp2_with fail
        go_roundw
        case rel => exact ⟨k + 1, s2, by omega, by go_num, rfl, hI4, hB4⟩
        case measure => simp [intOf]; omega
      · go_wp2_with fail
        refine (awake_calls wr).mono ?_
        rintro e w6 ⟨rfl, hB6⟩
        go_wp2_with fail
        go_ret
        exact ⟨rfl, hBk.trans (hB6.mono hBk.size)⟩
end Go.Proofs.Ytomhhaaogenedaa.Drd
