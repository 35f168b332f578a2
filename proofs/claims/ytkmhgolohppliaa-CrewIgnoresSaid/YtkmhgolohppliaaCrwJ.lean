/- CrewIgnores, over its arguments. -/
import Derived.Test.YtkmhgolohppliaaCrwI
import Derived.Test.YtkmhgolohppliaaOpc
import Derived.Test.YtkmhgolohppliaaOst
namespace Go.Proofs.Ytkmhgolohppliaa.Crw
open Go.RowKit Go.Proofs.Ytkmhgolohppliaa.PCellsPlays Go.Proofs.YtkmhgolohppliaaW.PrintWords Go.Proofs.YtkmhgolohppliaaW.PrintLast Go.Proofs.YtkmhgolohppliaaW.PrintMore Go.Proofs.Ytkmhgolohppliaa.Mine
set_option linter.unusedVariables false
theorem crewIgnores_walk (w : World) (A0 : Option Addr) (n0 c0 : Nat) (xs : List S63) (hO : n0 ≤ c0 ∧ k63.C w A0 n0 xs ∧ ∀ y ∈ xs, Opc.Good63 y) (A1 : Option Addr) (n1 c1 : Nat) (acs : List S103) (hA : n1 ≤ c1 ∧ k103.C w A1 n1 acs ∧ ∀ y ∈ acs, Opc.Good103 y)
    (sched : Int) (hs : (Lit.int .i64 sched).wf = true) (A2 : Option Addr) (n2 c2 : Nat) (ms : List Int) (hM : n2 ≤ c2 ∧ (Kd.int .i64).C w A2 n2 ms ∧ ∀ z ∈ ms, (Lit.int .i64 z).wf = true) :
    Calls Try.prog 12 #[.slice A0 n0 c0, .slice A1 n1 c1, .int .i64 sched, .slice A2 n2 c2] w fun e w' => e = .returned (.bool true) ∧ Below w.heap.size w w' := by
  obtain ⟨h1, h2, h3⟩ := hO
  obtain ⟨h4, h5, _⟩ := hA
  obtain ⟨h6, h7, _⟩ := hM
  obtain rfl := h2.1
  obtain rfl := h5.1
  obtain rfl := h7.1
  exact ignores_raw w A0 c0 xs h2 h1 (fun x hx => (h3 x hx).1) A1 c1 acs h5 h4 sched A2 c2 ms h7 h6
end Go.Proofs.Ytkmhgolohppliaa.Crw
