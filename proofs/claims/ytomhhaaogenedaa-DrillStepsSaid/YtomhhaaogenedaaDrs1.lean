/- The steps of any bytes are the document's: the pure statement of DrillSteps, for every list of bytes. -/
import Derived.Test.YtomhhaaogenedaaDrs0
import Derived.OpenShut
namespace Go.Proofs.Ytomhhaaogenedaa.Drs
open Go.RowKit Go.Proofs.Ytomhhaaogenedaa.PDrillSteps Go.Proofs.YtomhhaaogenedaaW.PrintWords Go.Proofs.YtomhhaaogenedaaW.PrintLast

theorem ds_at (x : Int) (h0 : 0 ≤ x) (h1 : x ≤ 255) : ∃ a b c, drill_step.f x = some (a, b, c) ∧ countwheelref45_Step.f x = some (a, b, c) := by
  refine ⟨stK x, stA x, stV x, by unfold drill_step.f; rw [if_pos ⟨h0, h1⟩], ?_⟩
  unfold countwheelref45_Step.f stK stA stV
  have e1 : wrap64 x = x := by unfold wrap64; omega
  have e2 : Int.tdiv x 8 = x / 8 := Int.tdiv_eq_ediv_of_nonneg h0
  have e3 : wrap64 (x / 8) = x / 8 := by unfold wrap64; omega
  have e4 : Int.tmod x 8 = x % 8 := Int.tmod_eq_emod_of_nonneg h0
  have e5 : Int.tmod (x / 8) 4 = x / 8 % 4 := Int.tmod_eq_emod_of_nonneg (by omega)
  have e6 : Int.tmod (x / 8) 8 = x / 8 % 8 := Int.tmod_eq_emod_of_nonneg (by omega)
  have e7 : x % 4294967296 = x := by omega
  rw [e1, e2, e3, e4, e5, e6, e7]
  (repeat' split) <;> first | omega | rfl

theorem wrap_step {i : Int} {n : Nat} (h0 : 0 ≤ i) (h : i < (n : Int)) (hn : n ≤ 300) : wrap64 (i + 1) = i + 1 := by
  unfold wrap64
  omega

def Row (l : List Int) (ss : List S64) : Prop := ss.length ≤ l.length ∧ ∀ i : Nat, i < ss.length → countwheelref45_Step.f (rd l i) = some ((rd_T64 ss i).f0, (rd_T64 ss i).f1, (rd_T64 ss i).f2)

theorem rd_mem (l : List Int) (i : Nat) (h : i < l.length) : rd l (i : Int) ∈ l := by
  unfold rd
  rw [Int.toNat_natCast, List.getD_eq_getElem?_getD, List.getElem?_eq_getElem h]
  exact List.getElem_mem h

theorem rdT_snoc_lt (ss : List S64) (s : S64) (i : Nat) (h : i < ss.length) : rd_T64 (ss ++ [s]) (i : Int) = rd_T64 ss (i : Int) := by
  unfold rd_T64
  rw [Int.toNat_natCast, List.getD_eq_getElem?_getD, List.getD_eq_getElem?_getD, List.getElem?_append_left h]

theorem rdT_snoc_eq (ss : List S64) (s : S64) : rd_T64 (ss ++ [s]) (ss.length : Int) = s := by
  unfold rd_T64
  rw [Int.toNat_natCast]
  simp

theorem byte_of {l : List Int} (hb : ∀ x ∈ l, (Lit.int .u8 x).wf = true) (i : Nat) (h : i < l.length) : 0 ≤ rd l (i : Int) ∧ rd l (i : Int) ≤ 255 :=
  bounds_u8 (hb _ (rd_mem l i h))

theorem steps_tell (l : List Int) (hb : ∀ x ∈ l, (Lit.int .u8 x).wf = true) (hn : l.length ≤ 300) (d : Nat) : ∀ (k : Nat) (ss : List S64), Row l ss → l.length - ss.length = d → d < k →
    ∃ r, drill_Steps.l0 k ss l (l.length : Int) (ss.length : Int) = some r ∧ Row l r ∧ r.length = l.length := by
  induction d with
  | zero =>
    intro k ss hs hd hk
    obtain ⟨k, rfl⟩ : ∃ m, k = m + 1 := ⟨k - 1, by omega⟩
    have h1 := hs.1
    exact ⟨ss, by simp only [drill_Steps.l0]; rw [if_neg (by omega)], hs, by omega⟩
  | succ d ih =>
    intro k ss hs hd hk
    obtain ⟨k, rfl⟩ : ∃ m, k = m + 1 := ⟨k - 1, by omega⟩
    have hlt : ss.length < l.length := by omega
    obtain ⟨hb0, hb1⟩ := byte_of hb ss.length hlt
    obtain ⟨a, b, c, he, hf⟩ := ds_at _ hb0 hb1
    obtain ⟨r, hr, h⟩ := ih k (ss ++ [⟨a, b, c⟩]) ⟨by simp; omega, fun i hi => by
      simp at hi
      by_cases e : i = ss.length
      · subst e
        rw [rdT_snoc_eq]; exact hf
      · rw [rdT_snoc_lt _ _ _ (by omega)]
        exact hs.2 i (by omega)⟩ (by simp; omega) (by omega)
    refine ⟨r, ?_, h⟩
    simp only [drill_Steps.l0]
    rw [if_pos (by omega), if_pos (by omega), if_pos (by omega), he]
    simp only [Option.bind_some]
    rw [if_pos (by omega), wrap_step (by omega) (Int.ofNat_lt.2 hlt) hn]
    rw [← hr]
    simp

theorem law_tell (l : List Int) (hn : l.length ≤ 300) (ss : List S64) (hs : Row l ss) (hl : ss.length = l.length) (k0 : Nat) (haw : ∀ k, k0 ≤ k → countwheellaw45_awake.f k = some true) (d : Nat) : ∀ (k : Nat) (i : Nat), i ≤ l.length → l.length - i = d → d + k0 < k →
    countwheellaw45_DrillSteps.l0 k ss l (l.length : Int) (i : Int) = some true := by
  induction d with
  | zero =>
    intro k i hi hd hk
    obtain ⟨k, rfl⟩ : ∃ m, k = m + 1 := ⟨k - 1, by omega⟩
    simp only [countwheellaw45_DrillSteps.l0]
    rw [if_neg (by omega), haw k (by omega)]
    rfl
  | succ d ih =>
    intro k i hi hd hk
    obtain ⟨k, rfl⟩ : ∃ m, k = m + 1 := ⟨k - 1, by omega⟩
    have h := ih k (i + 1) (by omega) (by omega) (by omega)
    simp only [countwheellaw45_DrillSteps.l0]
    rw [if_pos (by omega), if_pos (by omega), if_pos (by omega), if_pos (by omega), hs.2 i (by omega)]
    simp only [Option.bind_some]
    rw [if_neg (by simp), wrap_step (n := l.length) (by omega) (by omega) hn]
    exact h

theorem awake_at : ∀ k, 3 ≤ k → countwheellaw45_awake.f k = some true := by
  intro k hk
  exact at_rounds countwheellaw45_awake.mono hk (by decide +kernel)

/-- YOURS: ∀ (l0 : List Int), l0.length ≤ maxLen → l0.length * 1 ≤ 140737488351232 → (∀ x ∈ l0, (Lit.int .u8 x).wf = true) → ∃ k, countwheellaw45_DrillSteps.f k l0 = some true
What it reaches (each with k first where it has rounds; `.mono`: more rounds tell the same; `.l0`, ..: its loops, with `.mono_l`): drill_step.f, drill_Steps.f, countwheellaw45_awake.f, countwheelref45_Step.f, countwheellaw45_DrillSteps.f -/
theorem DrillSteps : countwheellaw45_DrillSteps.Pure := by
  intro l _ _ hb
  refine ⟨l.length + 5, ?_⟩
  unfold countwheellaw45_DrillSteps.f
  by_cases h : (l.length : Int) > 300
  · rw [if_pos h, awake_at _ (by omega)]
    rfl
  · rw [if_neg h]
    have hn : l.length ≤ 300 := by omega
    obtain ⟨ss, hss, hrow, hlen⟩ := steps_tell l hb hn l.length (l.length + 5) [] ⟨by simp, fun i hi => by simp at hi⟩ (by simp) (by omega)
    unfold drill_Steps.f
    have hss' : drill_Steps.l0 (l.length + 5) [] l (l.length : Int) 0 = some ss := by simpa using hss
    rw [hss']
    simp only [Option.bind_some]
    rw [if_pos (by omega)]
    exact law_tell l hn ss hrow hlen 3 awake_at l.length (l.length + 5) 0 (by omega) (by omega) (by omega)


theorem drillSteps_walk (w : World) (a0 : Option Addr) (len0 cap0 : Nat) (z0 : List Int) (w0 : (a0 = none ∧ len0 = 0 ∧ cap0 = 0 ∧ z0 = []) ∨ ∃ x, a0 = some x ∧ len0 ≤ cap0 ∧ cap0 ≤ maxLen ∧ z0.length = cap0 ∧ (∀ i, i < z0.length → w.cell? (x.add i) = some (.int .u8 (z0.getD i 0))) ∧ ∀ n ∈ z0, (Lit.int .u8 n).wf = true) (y0 : len0 * 1 ≤ 140737488351232) :
    Calls Try.prog 12 #[.slice a0 len0 cap0] w fun e w' => e = .returned (.bool true) ∧ Below w.heap.size w w' :=
  countwheellaw45_DrillSteps.walk DrillSteps a0 len0 cap0 z0 w w0 y0
end Go.Proofs.Ytomhhaaogenedaa.Drs
