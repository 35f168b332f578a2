/- TableFrames, over its argument. -/
import Derived.Test.YtnpjbdaaoknkbaaTabG
import Derived.Test.YtnpjbdaaoknkbaaOpt
namespace Go.Proofs.Ytnpjbdaaoknkbaa.Tab
open Go.RowKit Go.Proofs.YtnpjbdaaoknkbaaW.PrintWords Go.Proofs.YtnpjbdaaoknkbaaW.PrintLast Go.Proofs.YtnpjbdaaoknkbaaW.PrintMore Go.Proofs.Ytnpjbdaaoknkbaa.Mine Go.Proofs.Ytnpjbdaaoknkbaa.PTableFrames
open Go.Proofs.Ytnpjbdaaoknkbaa.Sl (SL Stp Chg St No wpc_seal wpc_round sealed)
set_option linter.unusedVariables false
set_option linter.unusedSimpArgs false
attribute [local go_sem] max2_int min2_int max_two min_two max_three min_three max_four min_four
theorem tableFrames_walk (w : World) (v0 : Value) (hv : ∃ (n0 : Int) (n1 : Int) (A2 : Option Addr) (d2 : Nat) (n2 : List S30) (A3 : Option Addr) (d3 : Nat) (n3 : List S87), v0 = .agg #[.int .i64 n0, .int .i64 n1, .slice A2 n2.length d2, .slice A3 n3.length d3] ∧ (Lit.int .i64 n0).wf = true ∧ (Lit.int .i64 n1).wf = true ∧ n2.length ≤ d2 ∧ k30.C w A2 n2.length n2 ∧ (∀ y ∈ n2, Opt.Good30 y) ∧ n3.length ≤ d3 ∧ k87.C w A3 n3.length n3 ∧ (∀ y ∈ n3, Opt.Good87 y)) :
    Calls Try.prog 3 #[v0] w fun e w' => e = .returned (.bool true) ∧ Below w.heap.size w w' := by
  obtain ⟨id, fr, A2, c2, ws, A3, c3, ns, rfl, _, _, hc2, hr2, _, hc3, hr3, _⟩ := hv
  exact table_raw w id fr A2 c2 ws A3 c3 ns hr2 hc2 hr3 hc3
end Go.Proofs.Ytnpjbdaaoknkbaa.Tab
