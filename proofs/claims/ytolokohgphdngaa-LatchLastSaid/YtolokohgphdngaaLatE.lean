/- LatchLast, over its arguments. -/
import Derived.Test.YtolokohgphdngaaLatD
import Derived.Test.YtolokohgphdngaaOpl
namespace Go.Proofs.Ytolokohgphdngaa.Lat
open Go.RowKit Go.Proofs.YtolokohgphdngaaW.PrintWords Go.Proofs.YtolokohgphdngaaW.PrintLast Go.Proofs.YtolokohgphdngaaW.PrintMore Go.Proofs.Ytolokohgphdngaa.Mine Go.Proofs.Ytolokohgphdngaa.PLatchLast
open Go.Proofs.Ytolokohgphdngaa.Sl (SL Stp Chg St No MK look wpc_seal sealed)
set_option linter.unusedVariables false
set_option linter.unusedSimpArgs false
attribute [local go_sem] max2_int min2_int max_two min_two max_three min_three max_four min_four
theorem latchLast_walk (w : World) (v0 : Value) (hv : ∃ (n0 : Int) (n1 : Int) (A2 : Option Addr) (d2 : Nat) (n2 : List S130) (A3 : Option Addr) (d3 : Nat) (n3 : List S134) (A4 : Option Addr) (d4 : Nat) (n4 : List S139) (A5 : Option Addr) (d5 : Nat) (n5 : List S190), v0 = .agg #[.int .u64 n0, .int .i64 n1, .slice A2 n2.length d2, .slice A3 n3.length d3, .slice A4 n4.length d4, .slice A5 n5.length d5] ∧ (Lit.int .u64 n0).wf = true ∧ (Lit.int .i64 n1).wf = true ∧ n2.length ≤ d2 ∧ k130.C w A2 n2.length n2 ∧ (∀ y ∈ n2, Opl.Good130 y) ∧ n3.length ≤ d3 ∧ k134.C w A3 n3.length n3 ∧ (∀ y ∈ n3, Opl.Good134 y) ∧ n4.length ≤ d4 ∧ k139.C w A4 n4.length n4 ∧ (∀ y ∈ n4, Opl.Good139 y) ∧ n5.length ≤ d5 ∧ k190.C w A5 n5.length n5 ∧ (∀ y ∈ n5, Opl.Good190 y))
    (A1 : Option Addr) (m1 c1 : Nat) (os : List S82) (hO : m1 ≤ c1 ∧ k82.C w A1 m1 os ∧ ∀ y ∈ os, Opl.Good82 y) (caller : Int) (hca : (Lit.int .i64 caller).wf = true) :
    Calls Try.prog 6 #[v0, .slice A1 m1 c1, .int .i64 caller] w fun e w' => e = .returned (.bool true) ∧ Below w.heap.size w w' := by
  obtain ⟨ep, fi, A2, c2, ps, A3, c3, ss, A4, c4, qs, A5, c5, av, rfl, _, hfi, hc2, hr2, hg2, hc3, hr3, hg3, hc4, hr4, _, hc5, hr5, _⟩ := hv
  exact latch_raw w ep fi A2 c2 ps A3 c3 ss A4 c4 qs A5 c5 av hr2 hc2 hr3 hc3 hr4 hc4 hr5 hc5 (fun p hp => (hg2 p hp).1) (fun s hs => (hg3 s hs).1) hfi A1 m1 c1 os hO.2.1 (fun z hz => ⟨(hO.2.2 z hz).2.1, (hO.2.2 z hz).2.2.1, (hO.2.2 z hz).2.2.2⟩) caller hca
end Go.Proofs.Ytolokohgphdngaa.Lat
