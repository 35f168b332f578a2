/- What is right in a module (words for its walk). -/
import Derived.Test.YtnniejaknnpcjaaYFin1
import Derived.Test.YtnniejaknnpcjaaYSlm
namespace Go.Proofs.Ytnniejaknnpcjaa.Fin
open Go.RowKit Go.Proofs.YtnniejaknnpcjaaW.PrintWords Go.Proofs.YtnniejaknnpcjaaW.PrintLast Go.Proofs.YtnniejaknnpcjaaW.PrintMore Go.Proofs.Ytnniejaknnpcjaa.Mine Go.Proofs.Ytnniejaknnpcjaa.PHyperNumbers
open Go.Proofs.Ytnniejaknnpcjaa.Sl (SL Stp Chg St No)
set_option linter.unusedVariables false
set_option linter.unusedSimpArgs false
attribute [local go_sem] max2_int min2_int max_two min_two max_three min_three max_four min_four
/-- What is right where sections 2 and 3 are. -/
structure TwoOk (ps : List S84) (ss : List S46) : Prop where
 sched : ∀ s ∈ ss, SchedIn s ∧ Wins s.f1 s.f2 (ps.map S84.f0)
 rise : ∀ j : Nat, j + 1 < ss.length → (ss.getD j z46).f0 < (ss.getD (j + 1) z46).f0
 prise : ∀ j : Nat, j + 1 < ps.length → (ps.getD j z84).f0 < (ps.getD (j + 1) z84).f0
 p1 : 1 ≤ ps.length
 s1 : 1 ≤ ss.length
def PRise (ps : List S84) (k : Nat) : Prop := ∀ j : Nat, j + 1 < k → (ps.getD j z84).f0 < (ps.getD (j + 1) z84).f0
def SRise (ps : List S84) (ss : List S46) (k : Nat) : Prop := (∀ j : Nat, j + 1 < k → (ss.getD j z46).f0 < (ss.getD (j + 1) z46).f0) ∧ ∀ j : Nat, j < k → SchedIn (ss.getD j z46) ∧ Wins (ss.getD j z46).f1 (ss.getD j z46).f2 (ps.map S84.f0)
/-- A fault is told, or none, and then all is right. -/
def Told (ok : Prop) (w : World) (e : Ending) (w' : World) : Prop := ∃ x y z : Int, e = .returned (.agg #[.int .i64 x, .int .i64 y, .int .i64 z]) ∧ (x = 0 → ok) ∧ Below w.heap.size w w'
theorem infoF : (Try.prog.info? 80).map (·.size) = some 3 := by kernel_rfl
theorem prise_step {ps : List S84} {k : Nat} (h : PRise ps k) (h2 : 0 < k → (ps.getD (k - 1) z84).f0 < (ps.getD k z84).f0) : PRise ps (k + 1) := by
 intro j hj
 by_cases e : j + 1 < k
 ·exact h j e
 ·obtain rfl : k = j + 1 := by omega
  exact h2 (by omega)
theorem srise_step {ps : List S84} {ss : List S46} {k : Nat} (h : SRise ps ss k) (h2 : 0 < k → (ss.getD (k - 1) z46).f0 < (ss.getD k z46).f0) (h3 : SchedIn (ss.getD k z46) ∧ Wins (ss.getD k z46).f1 (ss.getD k z46).f2 (ps.map S84.f0)) : SRise ps ss (k + 1) := by
 refine ⟨fun j hj => ?_, fun j hj => ?_⟩
 ·by_cases e : j + 1 < k
  ·exact h.1 j e
  ·obtain rfl : k = j + 1 := by omega
   exact h2 (by omega)
 ·by_cases e : j < k
  ·exact h.2 j e
  ·obtain rfl : j = k := by omega
   exact h3
theorem two_ok {ps : List S84} {ss : List S46} (h1 : PRise ps ps.length) (h2 : SRise ps ss ss.length) (hp : 1 ≤ ps.length) (hs : 1 ≤ ss.length) : TwoOk ps ss where
 sched s hm := by
  obtain ⟨j, hj, rfl⟩ := List.mem_iff_getElem.1 hm
  have := h2.2 j hj
  rwa [List.getD_eq_getElem?_getD, List.getElem?_eq_getElem hj, Option.getD_some] at this
 rise j hj := h2.1 j hj
 prise j hj := h1 j hj
 p1 := hp
 s1 := hs
theorem bad_any {F : Ending → World → Prop} (x y z : Int) (w : World) (h : ∀ w', Below w.heap.size w w' → F (.returned (.agg #[.int .i64 x, .int .i64 y, .int .i64 z])) w') : Calls Try.prog 77 #[.int .i64 x, .int .i64 y, .int .i64 z] w F :=
 (countwheelref16_bad.calls x y z x y z w rfl).mono fun e w' ⟨he, hB⟩ => by rw [he]; exact h w' hB
end Go.Proofs.Ytnniejaknnpcjaa.Fin
