/- FrameHalts, over its arguments. -/
import Derived.Test.YtnpjbdaaoknkbaaFrmK
import Derived.Test.YtnpjbdaaoknkbaaOpf
import Derived.Test.YtnpjbdaaoknkbaaOst
namespace Go.Proofs.Ytnpjbdaaoknkbaa.Frm
open Go.RowKit Go.Proofs.YtnpjbdaaoknkbaaW.PrintWords Go.Proofs.YtnpjbdaaoknkbaaW.PrintLast Go.Proofs.YtnpjbdaaoknkbaaW.PrintMore Go.Proofs.Ytnpjbdaaoknkbaa.Mine Go.Proofs.Ytnpjbdaaoknkbaa.PTableFrames
open Go.Proofs.Ytnpjbdaaoknkbaa.Tab (Small)
set_option linter.unusedVariables false
theorem smalls {w : World} {A : Option Addr} {n : Nat} {ss : List S25} (h : Kd.C k25 w A n ss) : ∀ s ∈ ss, Small s.f2 ∧ Small s.f3 := by
  intro s hs
  obtain rfl := h.1
  obtain ⟨k, hk, rfl⟩ := List.getElem_of_mem hs
  obtain ⟨ad, A2, c2, A3, c3, _, _, _, _, _, _, C2, _, C3⟩ := at_T25 h (k : Int) (by omega) (by omega)
  have hx : rd_T25 ss (k : Int) = ss[k] := by unfold rd_T25; rw [Int.toNat_natCast, List.getD_eq_getElem?_getD, List.getElem?_eq_getElem hk]; rfl
  rw [hx] at C2 C3
  exact ⟨C2.2.1, C3.2.1⟩
theorem u8_bd {n : Int} (h : (Lit.int .u8 n).wf = true) : 0 ≤ n ∧ n ≤ 255 := by
  simpa [Lit.wf, IntKind.min, IntKind.max, IntKind.signed, IntKind.bits] using h
theorem frameHalts_walk (w : World) (A0 : Option Addr) (n0 c0 : Nat) (ss : List S25) (hO : n0 ≤ c0 ∧ k25.C w A0 n0 ss ∧ ∀ y ∈ ss, Opf.Good25 y) (A1 : Option Addr) (n1 c1 : Nat) (ids : List Int) (hI : n1 ≤ c1 ∧ (Kd.int .i64).C w A1 n1 ids ∧ ∀ z ∈ ids, (Lit.int .i64 z).wf = true)
    (nl : Int) (hnl : (Lit.int .u8 nl).wf = true) (nm : Int) (hnm : (Lit.int .u8 nm).wf = true) :
    Calls Try.prog 4 #[.slice A0 n0 c0, .slice A1 n1 c1, .int .u8 nl, .int .u8 nm] w fun e w' => e = .returned (.bool true) ∧ Below w.heap.size w w' := by
  obtain ⟨h1, h2, h3⟩ := hO
  obtain ⟨h4, h5, _⟩ := hI
  have hs := smalls h2
  obtain rfl := h2.1
  obtain rfl := h5.1
  exact halts_raw w A0 c0 ss h2 h1 hs A1 c1 ids h5 h4 (fun s hm => (h3 s hm).1) nl nm (u8_bd hnl).1 (u8_bd hnl).2 (u8_bd hnm).1 (u8_bd hnm).2
end Go.Proofs.Ytnpjbdaaoknkbaa.Frm
