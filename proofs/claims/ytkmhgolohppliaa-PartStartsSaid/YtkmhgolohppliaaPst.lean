/- PartStarts, walked. -/
import Derived.Test.YtkmhgolohppliaaPrt4
import Derived.Deep.DeepCutAuto
import Derived.Deep.CutBlock
namespace Go.Proofs.Ytkmhgolohppliaa.Prt
open Go.RowKit Go.Proofs.Ytkmhgolohppliaa.PCellsPlays Go.Proofs.YtkmhgolohppliaaW.PrintWords Go.Proofs.YtkmhgolohppliaaW.PrintLast Go.Proofs.YtkmhgolohppliaaW.PrintMore Go.Proofs.Ytkmhgolohppliaa.Mine Go.Proofs.Ytkmhgolohppliaa.Cel Go.Proofs.Ytkmhgolohppliaa.Cls
open Go.Proofs.Ytkmhgolohppliaa.Sl (SL Stp St No)
open Go.Proofs.Ytkmhgolohppliaa.Mod (strt actM runs right askd)
set_option linter.unusedVariables false
set_option linter.unusedSimpArgs false
attribute [local go_sem] max2_int min2_int max_two min_two max_three min_three max_four min_four

set_option maxHeartbeats 6400000 in
set_option maxRecDepth 100000 in
theorem partStarts_walk (w : World) (v0 : Value) (hv : ∃ id name may A n c fst, v0 = .agg #[.int .i64 id, .string name, .bool may, .slice A n c] ∧ n ≤ c ∧ k43.C w A n fst ∧ name.size ≤ maxLen ∧ (Lit.int .i64 id).wf = true ∧ ∀ z ∈ fst, (Lit.int .u32 z.f0).wf = true)
    (A1 : Option Addr) (n1 c1 : Nat) (ops : List S67) (hO0 : n1 ≤ c1 ∧ k67.C w A1 n1 ops ∧ ∀ z ∈ ops, (Lit.int .i64 z.f0).wf = true ∧ (Lit.int .i64 z.f1).wf = true ∧ (Lit.int .u32 z.f2).wf = true) :
    Calls Try.prog 8 #[v0, .slice A1 n1 c1] w fun e w' => e = .returned (.bool true) ∧ Below w.heap.size w w' := by
  obtain ⟨id, name, may, A, n, c, fst, rfl, _, hC0, _, _, _⟩ := hv
  have hC := Go.Lib.hid hC0
  have hO := Go.Lib.hid hO0.2.1
  clear hC0 hO0
  obtain rfl : fst.length = n := hC.out.1
  have HS := Go.Lib.hid (St.start w)
  by_cases h1 : (40 : Int) < (fst.length : Int)
  · have h1' : decide ((40 : Int) < (fst.length : Int)) = true := by simpa using h1
    clear hC hO h1
    go_enter Try.func8, Try.ntmps8
    go_wp2_with (first | ((with_reducible refine gate_dst (N := 2) rfl ?_); refine Sl.box_st HS.out (by rfl) (cs := #[.int .i64 id, .string name, .bool may, .slice A fst.length c]) (t := 63) ?hr ?_; (case hr => first | (go_simp; done) | (go_simp; rfl)); intro g2 w1_ HSn HBn; clear HBn; replace HS : Hid (St [SL.blk g2 63 #[.int .i64 id, .string name, .bool may, .slice A fst.length c]] w w1_) := Go.Lib.hid HSn; clear HSn; have c0_0 : w1_.cell? ⟨g2, 0, none⟩ = some (.int .i64 id) := HS.out.cell 0 _ _ _ rfl 0; have f0_0 : w1_.frozen? ⟨g2, 0, none⟩ = false := HS.out.free 0 _ _ _ rfl 0; have c0_1 : w1_.cell? ⟨g2, 1, none⟩ = some (.string name) := HS.out.cell 0 _ _ _ rfl 1; have f0_1 : w1_.frozen? ⟨g2, 1, none⟩ = false := HS.out.free 0 _ _ _ rfl 1; have c0_2 : w1_.cell? ⟨g2, 2, none⟩ = some (.bool may) := HS.out.cell 0 _ _ _ rfl 2; have f0_2 : w1_.frozen? ⟨g2, 2, none⟩ = false := HS.out.free 0 _ _ _ rfl 2; have c0_3 : w1_.cell? ⟨g2, 3, none⟩ = some (.slice A fst.length c) := HS.out.cell 0 _ _ _ rfl 3; have f0_3 : w1_.frozen? ⟨g2, 3, none⟩ = false := HS.out.free 0 _ _ _ rfl 3) | (go_at_call 38; refine (awake_st HS.out).mono ?_; rintro e w2_ ⟨rfl, HSn⟩; replace HS : Hid (St [SL.blk g2 63 #[.int .i64 id, .string name, .bool may, .slice A fst.length c]] w w2_) := Go.Lib.hid HSn; clear HSn; clear c0_0 f0_0 c0_1 f0_1 c0_2 f0_2 c0_3 f0_3; have c0_0 : w2_.cell? ⟨g2, 0, none⟩ = some (.int .i64 id) := HS.out.cell 0 _ _ _ rfl 0; have f0_0 : w2_.frozen? ⟨g2, 0, none⟩ = false := HS.out.free 0 _ _ _ rfl 0; have c0_1 : w2_.cell? ⟨g2, 1, none⟩ = some (.string name) := HS.out.cell 0 _ _ _ rfl 1; have f0_1 : w2_.frozen? ⟨g2, 1, none⟩ = false := HS.out.free 0 _ _ _ rfl 1; have c0_2 : w2_.cell? ⟨g2, 2, none⟩ = some (.bool may) := HS.out.cell 0 _ _ _ rfl 2; have f0_2 : w2_.frozen? ⟨g2, 2, none⟩ = false := HS.out.free 0 _ _ _ rfl 2; have c0_3 : w2_.cell? ⟨g2, 3, none⟩ = some (.slice A fst.length c) := HS.out.cell 0 _ _ _ rfl 3; have f0_3 : w2_.frozen? ⟨g2, 3, none⟩ = false := HS.out.free 0 _ _ _ rfl 3))
    go_ret
    exact ⟨rfl, HS.out.below⟩
  have h1' : decide ((40 : Int) < (fst.length : Int)) = false := by simpa using h1
  by_cases h2 : (100 : Int) < (n1 : Int)
  · have h2' : decide ((100 : Int) < (n1 : Int)) = true := by simpa using h2
    clear hC hO h2
    go_enter Try.func8, Try.ntmps8
    go_wp2_with (first | ((with_reducible refine gate_dst (N := 2) rfl ?_); refine Sl.box_st HS.out (by rfl) (cs := #[.int .i64 id, .string name, .bool may, .slice A fst.length c]) (t := 63) ?hr ?_; (case hr => first | (go_simp; done) | (go_simp; rfl)); intro g2 w1_ HSn HBn; clear HBn; replace HS : Hid (St [SL.blk g2 63 #[.int .i64 id, .string name, .bool may, .slice A fst.length c]] w w1_) := Go.Lib.hid HSn; clear HSn; have c0_0 : w1_.cell? ⟨g2, 0, none⟩ = some (.int .i64 id) := HS.out.cell 0 _ _ _ rfl 0; have f0_0 : w1_.frozen? ⟨g2, 0, none⟩ = false := HS.out.free 0 _ _ _ rfl 0; have c0_1 : w1_.cell? ⟨g2, 1, none⟩ = some (.string name) := HS.out.cell 0 _ _ _ rfl 1; have f0_1 : w1_.frozen? ⟨g2, 1, none⟩ = false := HS.out.free 0 _ _ _ rfl 1; have c0_2 : w1_.cell? ⟨g2, 2, none⟩ = some (.bool may) := HS.out.cell 0 _ _ _ rfl 2; have f0_2 : w1_.frozen? ⟨g2, 2, none⟩ = false := HS.out.free 0 _ _ _ rfl 2; have c0_3 : w1_.cell? ⟨g2, 3, none⟩ = some (.slice A fst.length c) := HS.out.cell 0 _ _ _ rfl 3; have f0_3 : w1_.frozen? ⟨g2, 3, none⟩ = false := HS.out.free 0 _ _ _ rfl 3) | (go_at_call 38; refine (awake_st HS.out).mono ?_; rintro e w2_ ⟨rfl, HSn⟩; replace HS : Hid (St [SL.blk g2 63 #[.int .i64 id, .string name, .bool may, .slice A fst.length c]] w w2_) := Go.Lib.hid HSn; clear HSn; clear c0_0 f0_0 c0_1 f0_1 c0_2 f0_2 c0_3 f0_3; have c0_0 : w2_.cell? ⟨g2, 0, none⟩ = some (.int .i64 id) := HS.out.cell 0 _ _ _ rfl 0; have f0_0 : w2_.frozen? ⟨g2, 0, none⟩ = false := HS.out.free 0 _ _ _ rfl 0; have c0_1 : w2_.cell? ⟨g2, 1, none⟩ = some (.string name) := HS.out.cell 0 _ _ _ rfl 1; have f0_1 : w2_.frozen? ⟨g2, 1, none⟩ = false := HS.out.free 0 _ _ _ rfl 1; have c0_2 : w2_.cell? ⟨g2, 2, none⟩ = some (.bool may) := HS.out.cell 0 _ _ _ rfl 2; have f0_2 : w2_.frozen? ⟨g2, 2, none⟩ = false := HS.out.free 0 _ _ _ rfl 2; have c0_3 : w2_.cell? ⟨g2, 3, none⟩ = some (.slice A fst.length c) := HS.out.cell 0 _ _ _ rfl 3; have f0_3 : w2_.frozen? ⟨g2, 3, none⟩ = false := HS.out.free 0 _ _ _ rfl 3))
    go_ret
    exact ⟨rfl, HS.out.below⟩
  have h2' : decide ((100 : Int) < (n1 : Int)) = false := by simpa using h2
  have hn : fst.length ≤ 40 := by omega
  have hn1 : n1 ≤ 100 := by omega
  clear h1 h2
  go_enter Try.func8, Try.ntmps8
  go_wp2_with (first | ((with_reducible refine gate_dst (N := 2) rfl ?_); refine Sl.box_st HS.out (by rfl) (cs := #[.int .i64 id, .string name, .bool may, .slice A fst.length c]) (t := 63) ?hr ?_; (case hr => first | (go_simp; done) | (go_simp; rfl)); intro g2 w1_ HSn HBn; clear HBn; replace HS : Hid (St [SL.blk g2 63 #[.int .i64 id, .string name, .bool may, .slice A fst.length c]] w w1_) := Go.Lib.hid HSn; clear HSn; have c0_0 : w1_.cell? ⟨g2, 0, none⟩ = some (.int .i64 id) := HS.out.cell 0 _ _ _ rfl 0; have f0_0 : w1_.frozen? ⟨g2, 0, none⟩ = false := HS.out.free 0 _ _ _ rfl 0; have c0_1 : w1_.cell? ⟨g2, 1, none⟩ = some (.string name) := HS.out.cell 0 _ _ _ rfl 1; have f0_1 : w1_.frozen? ⟨g2, 1, none⟩ = false := HS.out.free 0 _ _ _ rfl 1; have c0_2 : w1_.cell? ⟨g2, 2, none⟩ = some (.bool may) := HS.out.cell 0 _ _ _ rfl 2; have f0_2 : w1_.frozen? ⟨g2, 2, none⟩ = false := HS.out.free 0 _ _ _ rfl 2; have c0_3 : w1_.cell? ⟨g2, 3, none⟩ = some (.slice A fst.length c) := HS.out.cell 0 _ _ _ rfl 3; have f0_3 : w1_.frozen? ⟨g2, 3, none⟩ = false := HS.out.free 0 _ _ _ rfl 3) | (go_at_call 39; refine (new_hd HS.out A c (HS.out.C hC.out) (by omega)).mono ?_; rintro e w2_ ⟨g5, rfl, HSn⟩; replace HS : Hid (St [part g5 id name may fst (PS.init fst), SL.blk g2 63 #[.int .i64 id, .string name, .bool may, .slice A fst.length c]] w w2_) := Go.Lib.hid HSn; clear HSn; clear c0_0 f0_0 c0_1 f0_1 c0_2 f0_2 c0_3 f0_3; have c1_0 : w2_.cell? ⟨g2, 0, none⟩ = some (.int .i64 id) := HS.out.cell 1 _ _ _ rfl 0; have f1_0 : w2_.frozen? ⟨g2, 0, none⟩ = false := HS.out.free 1 _ _ _ rfl 0; have c1_1 : w2_.cell? ⟨g2, 1, none⟩ = some (.string name) := HS.out.cell 1 _ _ _ rfl 1; have f1_1 : w2_.frozen? ⟨g2, 1, none⟩ = false := HS.out.free 1 _ _ _ rfl 1; have c1_2 : w2_.cell? ⟨g2, 2, none⟩ = some (.bool may) := HS.out.cell 1 _ _ _ rfl 2; have f1_2 : w2_.frozen? ⟨g2, 2, none⟩ = false := HS.out.free 1 _ _ _ rfl 2; have c1_3 : w2_.cell? ⟨g2, 3, none⟩ = some (.slice A fst.length c) := HS.out.cell 1 _ _ _ rfl 3; have f1_3 : w2_.frozen? ⟨g2, 3, none⟩ = false := HS.out.free 1 _ _ _ rfl 3))
  go_loopw [6, 7, 26] (fun a b i wr => ∃ (k : Nat) (s : PS), k ≤ n1 ∧ i = .int .i64 k ∧ a = .int .i64 s.starts ∧ b = .int .i64 s.cause ∧ 0 ≤ s.starts ∧ s.starts ≤ 1 + k ∧ 0 ≤ s.wr ∧ s.wr ≤ k ∧ St [part g5 id name may fst s, SL.blk g2 63 #[.int .i64 id, .string name, .bool may, .slice A fst.length c]] w wr) (fun _ _ i _ => n1 - (intOf i).toNat)
  case atStart => exact ⟨0, PS.init fst, Nat.zero_le _, rfl, rfl, rfl, (show (0 : Int) ≤ 1 by decide), (show (1 : Int) ≤ 1 + 0 by decide), (show (0 : Int) ≤ 0 by decide), (show (0 : Int) ≤ 0 by decide), HS.out⟩
  case round =>
    clear HS c1_0 f1_0 c1_1 f1_1 c1_2 f1_2 c1_3 f1_3
    obtain ⟨k, s, hk, rfl, rfl, rfl, hs0, hs1, hq0, hq1, hS⟩ := hrel
    have HS := Go.Lib.hid hS
    clear hS
    by_cases hlt : k < n1
    · obtain ⟨ad, rfl, gg0, gg1, gg2⟩ := at_T67 (HS.out.C hO.out) (k : Int) (by omega) (by omega)
      rw [Int.toNat_natCast] at gg0 gg1 gg2
      generalize rd_T67 ops (k : Int) = x at *
      obtain ⟨x0, x1, x2⟩ := x
      obtain ⟨s0, hs0e⟩ : ∃ s0, s0 = s.starts := ⟨_, rfl⟩
      obtain ⟨u0, hu0e⟩ : ∃ u0, u0 = s.cause := ⟨_, rfl⟩
      have HSE := Go.Lib.hid hs0e
      have HUE := Go.Lib.hid hu0e
      rw [← hs0e, ← hu0e]
      rw [← hs0e] at hs0 hs1
      clear hs0e hu0e
      have c1_0 : wr.cell? ⟨g2, 0, none⟩ = some (.int .i64 id) := HS.out.cell 1 _ _ _ rfl 0
      have f1_0 : wr.frozen? ⟨g2, 0, none⟩ = false := HS.out.free 1 _ _ _ rfl 0
      have c1_1 : wr.cell? ⟨g2, 1, none⟩ = some (.string name) := HS.out.cell 1 _ _ _ rfl 1
      have f1_1 : wr.frozen? ⟨g2, 1, none⟩ = false := HS.out.free 1 _ _ _ rfl 1
      have c1_2 : wr.cell? ⟨g2, 2, none⟩ = some (.bool may) := HS.out.cell 1 _ _ _ rfl 2
      have f1_2 : wr.frozen? ⟨g2, 2, none⟩ = false := HS.out.free 1 _ _ _ rfl 2
      have c1_3 : wr.cell? ⟨g2, 3, none⟩ = some (.slice A fst.length c) := HS.out.cell 1 _ _ _ rfl 3
      have f1_3 : wr.frozen? ⟨g2, 3, none⟩ = false := HS.out.free 1 _ _ _ rfl 3
      go_upto_block 2 with (first | ((with_reducible refine gate_dst (N := 9) rfl ?_); refine Sl.box_st HS.out (by rfl) (cs := #[.int .i64 0, .int .i64 0, .int .u32 0]) (t := 67) ?hr ?_; (case hr => first | (go_simp; done) | (go_simp; rfl)); intro g9 w31_ HSn HBn; clear HBn; replace HS : Hid (St [SL.blk g9 67 #[.int .i64 0, .int .i64 0, .int .u32 0], part g5 id name may fst s, SL.blk g2 63 #[.int .i64 id, .string name, .bool may, .slice A fst.length c]] w w31_) := Go.Lib.hid HSn; clear HSn; clear c1_0 f1_0 c1_1 f1_1 c1_2 f1_2 c1_3 f1_3; have c0_0 : w31_.cell? ⟨g9, 0, none⟩ = some (.int .i64 0) := HS.out.cell 0 _ _ _ rfl 0; have f0_0 : w31_.frozen? ⟨g9, 0, none⟩ = false := HS.out.free 0 _ _ _ rfl 0; have c0_1 : w31_.cell? ⟨g9, 1, none⟩ = some (.int .i64 0) := HS.out.cell 0 _ _ _ rfl 1; have f0_1 : w31_.frozen? ⟨g9, 1, none⟩ = false := HS.out.free 0 _ _ _ rfl 1; have c0_2 : w31_.cell? ⟨g9, 2, none⟩ = some (.int .u32 0) := HS.out.cell 0 _ _ _ rfl 2; have f0_2 : w31_.frozen? ⟨g9, 2, none⟩ = false := HS.out.free 0 _ _ _ rfl 2; have c2_0 : w31_.cell? ⟨g2, 0, none⟩ = some (.int .i64 id) := HS.out.cell 2 _ _ _ rfl 0; have f2_0 : w31_.frozen? ⟨g2, 0, none⟩ = false := HS.out.free 2 _ _ _ rfl 0; have c2_1 : w31_.cell? ⟨g2, 1, none⟩ = some (.string name) := HS.out.cell 2 _ _ _ rfl 1; have f2_1 : w31_.frozen? ⟨g2, 1, none⟩ = false := HS.out.free 2 _ _ _ rfl 1; have c2_2 : w31_.cell? ⟨g2, 2, none⟩ = some (.bool may) := HS.out.cell 2 _ _ _ rfl 2; have f2_2 : w31_.frozen? ⟨g2, 2, none⟩ = false := HS.out.free 2 _ _ _ rfl 2; have c2_3 : w31_.cell? ⟨g2, 3, none⟩ = some (.slice A fst.length c) := HS.out.cell 2 _ _ _ rfl 3; have f2_3 : w31_.frozen? ⟨g2, 3, none⟩ = false := HS.out.free 2 _ _ _ rfl 3; have ne0_2 := HS.out.ne_blk 0 2 _ _ _ _ _ _ rfl rfl (by omega)) | ((with_reducible refine gate_store (p := 9) rfl ?_); refine Sl.storeAll_st HS.out 0 g9 67 _ rfl [.int .i64 x0, .int .i64 x1, .int .u32 x2] rfl (by rfl) (by rfl) ?hr ?_; (case hr => first | (go_simp; done) | (go_simp; rfl)); intro w32_ HSn; replace HS : Hid (St [SL.blk g9 67 #[.int .i64 x0, .int .i64 x1, .int .u32 x2], part g5 id name may fst s, SL.blk g2 63 #[.int .i64 id, .string name, .bool may, .slice A fst.length c]] w w32_) := Go.Lib.hid HSn; clear HSn; clear c0_0 f0_0 c0_1 f0_1 c0_2 f0_2 c2_0 f2_0 c2_1 f2_1 c2_2 f2_2 c2_3 f2_3 ne0_2; have c0_0 : w32_.cell? ⟨g9, 0, none⟩ = some (.int .i64 x0) := HS.out.cell 0 _ _ _ rfl 0; have f0_0 : w32_.frozen? ⟨g9, 0, none⟩ = false := HS.out.free 0 _ _ _ rfl 0; have c0_1 : w32_.cell? ⟨g9, 1, none⟩ = some (.int .i64 x1) := HS.out.cell 0 _ _ _ rfl 1; have f0_1 : w32_.frozen? ⟨g9, 1, none⟩ = false := HS.out.free 0 _ _ _ rfl 1; have c0_2 : w32_.cell? ⟨g9, 2, none⟩ = some (.int .u32 x2) := HS.out.cell 0 _ _ _ rfl 2; have f0_2 : w32_.frozen? ⟨g9, 2, none⟩ = false := HS.out.free 0 _ _ _ rfl 2; have c2_0 : w32_.cell? ⟨g2, 0, none⟩ = some (.int .i64 id) := HS.out.cell 2 _ _ _ rfl 0; have f2_0 : w32_.frozen? ⟨g2, 0, none⟩ = false := HS.out.free 2 _ _ _ rfl 0; have c2_1 : w32_.cell? ⟨g2, 1, none⟩ = some (.string name) := HS.out.cell 2 _ _ _ rfl 1; have f2_1 : w32_.frozen? ⟨g2, 1, none⟩ = false := HS.out.free 2 _ _ _ rfl 1; have c2_2 : w32_.cell? ⟨g2, 2, none⟩ = some (.bool may) := HS.out.cell 2 _ _ _ rfl 2; have f2_2 : w32_.frozen? ⟨g2, 2, none⟩ = false := HS.out.free 2 _ _ _ rfl 2; have c2_3 : w32_.cell? ⟨g2, 3, none⟩ = some (.slice A fst.length c) := HS.out.cell 2 _ _ _ rfl 3; have f2_3 : w32_.frozen? ⟨g2, 3, none⟩ = false := HS.out.free 2 _ _ _ rfl 3; have ne0_2 := HS.out.ne_blk 0 2 _ _ _ _ _ _ rfl rfl (by omega)))
      go_cut [6, 7] (fun a b wx => ∃ (s : PS), a = .int .i64 s.starts ∧ b = .int .i64 s.cause ∧ 0 ≤ s.starts ∧ s.starts ≤ 1 + k + 1 ∧ 0 ≤ s.wr ∧ s.wr ≤ k + 1 ∧ St [part g5 id name may fst s, SL.blk g2 63 #[.int .i64 id, .string name, .bool may, .slice A fst.length c]] w wx)
      case first =>
        by_cases hk1 : x0 = 1
        · have e1 : (x0 == 1) = true := beq_iff_eq.2 hk1
          clear hk1
          obtain ⟨c3, hc3⟩ : ∃ c3, c3 = (mset s.mode x1).2.2 := ⟨_, rfl⟩
          have HK := Go.Lib.hid hc3
          clear hc3
          by_cases hz : c3 = 0
          · have HC3 := Go.Lib.hid hz
            have ez : (c3 == 0) = true := beq_iff_eq.2 hz
            clear hz
            by_cases hx1 : x1 = 1
            · have HX := Go.Lib.hid hx1
              have ex1 : (x1 == 1) = true := beq_iff_eq.2 hx1
              clear hx1
              go_wp2_with (first | (go_at_call 40; refine (setMode_code HS.out 1 rfl x1 c3 HK.out (by rw [← HSE.out]; omega) (by rw [← HSE.out]; omega) (by omega)).mono ?_; rintro e w41_ ⟨rfl, HSn⟩; replace HS : Hid (St [SL.blk g9 67 #[.int .i64 x0, .int .i64 x1, .int .u32 x2], part g5 id name may fst (s.setMode fst x1), SL.blk g2 63 #[.int .i64 id, .string name, .bool may, .slice A fst.length c]] w w41_) := Go.Lib.hid HSn; clear HSn; clear c0_0 f0_0 c0_1 f0_1 c0_2 f0_2 c2_0 f2_0 c2_1 f2_1 c2_2 f2_2 c2_3 f2_3 ne0_2; have c0_0 : w41_.cell? ⟨g9, 0, none⟩ = some (.int .i64 x0) := HS.out.cell 0 _ _ _ rfl 0; have f0_0 : w41_.frozen? ⟨g9, 0, none⟩ = false := HS.out.free 0 _ _ _ rfl 0; have c0_1 : w41_.cell? ⟨g9, 1, none⟩ = some (.int .i64 x1) := HS.out.cell 0 _ _ _ rfl 1; have f0_1 : w41_.frozen? ⟨g9, 1, none⟩ = false := HS.out.free 0 _ _ _ rfl 1; have c0_2 : w41_.cell? ⟨g9, 2, none⟩ = some (.int .u32 x2) := HS.out.cell 0 _ _ _ rfl 2; have f0_2 : w41_.frozen? ⟨g9, 2, none⟩ = false := HS.out.free 0 _ _ _ rfl 2; have c2_0 : w41_.cell? ⟨g2, 0, none⟩ = some (.int .i64 id) := HS.out.cell 2 _ _ _ rfl 0; have f2_0 : w41_.frozen? ⟨g2, 0, none⟩ = false := HS.out.free 2 _ _ _ rfl 0; have c2_1 : w41_.cell? ⟨g2, 1, none⟩ = some (.string name) := HS.out.cell 2 _ _ _ rfl 1; have f2_1 : w41_.frozen? ⟨g2, 1, none⟩ = false := HS.out.free 2 _ _ _ rfl 1; have c2_2 : w41_.cell? ⟨g2, 2, none⟩ = some (.bool may) := HS.out.cell 2 _ _ _ rfl 2; have f2_2 : w41_.frozen? ⟨g2, 2, none⟩ = false := HS.out.free 2 _ _ _ rfl 2; have c2_3 : w41_.cell? ⟨g2, 3, none⟩ = some (.slice A fst.length c) := HS.out.cell 2 _ _ _ rfl 3; have f2_3 : w41_.frozen? ⟨g2, 3, none⟩ = false := HS.out.free 2 _ _ _ rfl 3; have ne0_2 := HS.out.ne_blk 0 2 _ _ _ _ _ _ rfl rfl (by omega)))
              have h5 := setMode_grant fst s x1 (by rw [← HK.out]; exact HC3.out) (.inl HX.out)
              have h6 := setMode_wr fst s x1 hq0
              rw [← HSE.out] at h5
              skip
              go_meet
              exact ⟨s.setMode fst x1, by rw [h5.1], by rw [h5.2], by rw [h5.1]; omega, by rw [h5.1]; omega, h6.1, by omega, HS.out.erase 0⟩
            · have ex1 : (x1 == 1) = false := beq_eq_false_iff_ne.2 hx1
              by_cases hx2 : x1 = 2
              · have HX := Go.Lib.hid hx2
                have ex2 : (x1 == 2) = true := beq_iff_eq.2 hx2
                clear hx1 hx2
                go_wp2_with (first | (go_at_call 40; refine (setMode_code HS.out 1 rfl x1 c3 HK.out (by rw [← HSE.out]; omega) (by rw [← HSE.out]; omega) (by omega)).mono ?_; rintro e w41_ ⟨rfl, HSn⟩; replace HS : Hid (St [SL.blk g9 67 #[.int .i64 x0, .int .i64 x1, .int .u32 x2], part g5 id name may fst (s.setMode fst x1), SL.blk g2 63 #[.int .i64 id, .string name, .bool may, .slice A fst.length c]] w w41_) := Go.Lib.hid HSn; clear HSn; clear c0_0 f0_0 c0_1 f0_1 c0_2 f0_2 c2_0 f2_0 c2_1 f2_1 c2_2 f2_2 c2_3 f2_3 ne0_2; have c0_0 : w41_.cell? ⟨g9, 0, none⟩ = some (.int .i64 x0) := HS.out.cell 0 _ _ _ rfl 0; have f0_0 : w41_.frozen? ⟨g9, 0, none⟩ = false := HS.out.free 0 _ _ _ rfl 0; have c0_1 : w41_.cell? ⟨g9, 1, none⟩ = some (.int .i64 x1) := HS.out.cell 0 _ _ _ rfl 1; have f0_1 : w41_.frozen? ⟨g9, 1, none⟩ = false := HS.out.free 0 _ _ _ rfl 1; have c0_2 : w41_.cell? ⟨g9, 2, none⟩ = some (.int .u32 x2) := HS.out.cell 0 _ _ _ rfl 2; have f0_2 : w41_.frozen? ⟨g9, 2, none⟩ = false := HS.out.free 0 _ _ _ rfl 2; have c2_0 : w41_.cell? ⟨g2, 0, none⟩ = some (.int .i64 id) := HS.out.cell 2 _ _ _ rfl 0; have f2_0 : w41_.frozen? ⟨g2, 0, none⟩ = false := HS.out.free 2 _ _ _ rfl 0; have c2_1 : w41_.cell? ⟨g2, 1, none⟩ = some (.string name) := HS.out.cell 2 _ _ _ rfl 1; have f2_1 : w41_.frozen? ⟨g2, 1, none⟩ = false := HS.out.free 2 _ _ _ rfl 1; have c2_2 : w41_.cell? ⟨g2, 2, none⟩ = some (.bool may) := HS.out.cell 2 _ _ _ rfl 2; have f2_2 : w41_.frozen? ⟨g2, 2, none⟩ = false := HS.out.free 2 _ _ _ rfl 2; have c2_3 : w41_.cell? ⟨g2, 3, none⟩ = some (.slice A fst.length c) := HS.out.cell 2 _ _ _ rfl 3; have f2_3 : w41_.frozen? ⟨g2, 3, none⟩ = false := HS.out.free 2 _ _ _ rfl 3; have ne0_2 := HS.out.ne_blk 0 2 _ _ _ _ _ _ rfl rfl (by omega)))
                have h5 := setMode_grant fst s x1 (by rw [← HK.out]; exact HC3.out) (.inr HX.out)
                have h6 := setMode_wr fst s x1 hq0
                rw [← HSE.out] at h5
                skip
                go_meet
                exact ⟨s.setMode fst x1, by rw [h5.1], by rw [h5.2], by rw [h5.1]; omega, by rw [h5.1]; omega, h6.1, by omega, HS.out.erase 0⟩
              · have ex2 : (x1 == 2) = false := beq_eq_false_iff_ne.2 hx2
                have HX := Go.Lib.hid (And.intro hx1 hx2)
                clear hx1 hx2
                go_wp2_with (first | (go_at_call 40; refine (setMode_code HS.out 1 rfl x1 c3 HK.out (by rw [← HSE.out]; omega) (by rw [← HSE.out]; omega) (by omega)).mono ?_; rintro e w41_ ⟨rfl, HSn⟩; replace HS : Hid (St [SL.blk g9 67 #[.int .i64 x0, .int .i64 x1, .int .u32 x2], part g5 id name may fst (s.setMode fst x1), SL.blk g2 63 #[.int .i64 id, .string name, .bool may, .slice A fst.length c]] w w41_) := Go.Lib.hid HSn; clear HSn; clear c0_0 f0_0 c0_1 f0_1 c0_2 f0_2 c2_0 f2_0 c2_1 f2_1 c2_2 f2_2 c2_3 f2_3 ne0_2; have c0_0 : w41_.cell? ⟨g9, 0, none⟩ = some (.int .i64 x0) := HS.out.cell 0 _ _ _ rfl 0; have f0_0 : w41_.frozen? ⟨g9, 0, none⟩ = false := HS.out.free 0 _ _ _ rfl 0; have c0_1 : w41_.cell? ⟨g9, 1, none⟩ = some (.int .i64 x1) := HS.out.cell 0 _ _ _ rfl 1; have f0_1 : w41_.frozen? ⟨g9, 1, none⟩ = false := HS.out.free 0 _ _ _ rfl 1; have c0_2 : w41_.cell? ⟨g9, 2, none⟩ = some (.int .u32 x2) := HS.out.cell 0 _ _ _ rfl 2; have f0_2 : w41_.frozen? ⟨g9, 2, none⟩ = false := HS.out.free 0 _ _ _ rfl 2; have c2_0 : w41_.cell? ⟨g2, 0, none⟩ = some (.int .i64 id) := HS.out.cell 2 _ _ _ rfl 0; have f2_0 : w41_.frozen? ⟨g2, 0, none⟩ = false := HS.out.free 2 _ _ _ rfl 0; have c2_1 : w41_.cell? ⟨g2, 1, none⟩ = some (.string name) := HS.out.cell 2 _ _ _ rfl 1; have f2_1 : w41_.frozen? ⟨g2, 1, none⟩ = false := HS.out.free 2 _ _ _ rfl 1; have c2_2 : w41_.cell? ⟨g2, 2, none⟩ = some (.bool may) := HS.out.cell 2 _ _ _ rfl 2; have f2_2 : w41_.frozen? ⟨g2, 2, none⟩ = false := HS.out.free 2 _ _ _ rfl 2; have c2_3 : w41_.cell? ⟨g2, 3, none⟩ = some (.slice A fst.length c) := HS.out.cell 2 _ _ _ rfl 3; have f2_3 : w41_.frozen? ⟨g2, 3, none⟩ = false := HS.out.free 2 _ _ _ rfl 3; have ne0_2 := HS.out.ne_blk 0 2 _ _ _ _ _ _ rfl rfl (by omega)))
                have h5 := setMode_plain fst s x1 (.inr HX.out)
                have h6 := setMode_wr fst s x1 hq0
                rw [← HSE.out] at h5
                rw [← HUE.out] at h5
                go_meet
                exact ⟨s.setMode fst x1, by rw [h5.1], by rw [h5.2], by rw [h5.1]; omega, by rw [h5.1]; omega, h6.1, by omega, HS.out.erase 0⟩
          · have HC3 := Go.Lib.hid hz
            have ez : (c3 == 0) = false := beq_eq_false_iff_ne.2 hz
            clear hz
            go_wp2_with (first | (go_at_call 40; refine (setMode_code HS.out 1 rfl x1 c3 HK.out (by rw [← HSE.out]; omega) (by rw [← HSE.out]; omega) (by omega)).mono ?_; rintro e w41_ ⟨rfl, HSn⟩; replace HS : Hid (St [SL.blk g9 67 #[.int .i64 x0, .int .i64 x1, .int .u32 x2], part g5 id name may fst (s.setMode fst x1), SL.blk g2 63 #[.int .i64 id, .string name, .bool may, .slice A fst.length c]] w w41_) := Go.Lib.hid HSn; clear HSn; clear c0_0 f0_0 c0_1 f0_1 c0_2 f0_2 c2_0 f2_0 c2_1 f2_1 c2_2 f2_2 c2_3 f2_3 ne0_2; have c0_0 : w41_.cell? ⟨g9, 0, none⟩ = some (.int .i64 x0) := HS.out.cell 0 _ _ _ rfl 0; have f0_0 : w41_.frozen? ⟨g9, 0, none⟩ = false := HS.out.free 0 _ _ _ rfl 0; have c0_1 : w41_.cell? ⟨g9, 1, none⟩ = some (.int .i64 x1) := HS.out.cell 0 _ _ _ rfl 1; have f0_1 : w41_.frozen? ⟨g9, 1, none⟩ = false := HS.out.free 0 _ _ _ rfl 1; have c0_2 : w41_.cell? ⟨g9, 2, none⟩ = some (.int .u32 x2) := HS.out.cell 0 _ _ _ rfl 2; have f0_2 : w41_.frozen? ⟨g9, 2, none⟩ = false := HS.out.free 0 _ _ _ rfl 2; have c2_0 : w41_.cell? ⟨g2, 0, none⟩ = some (.int .i64 id) := HS.out.cell 2 _ _ _ rfl 0; have f2_0 : w41_.frozen? ⟨g2, 0, none⟩ = false := HS.out.free 2 _ _ _ rfl 0; have c2_1 : w41_.cell? ⟨g2, 1, none⟩ = some (.string name) := HS.out.cell 2 _ _ _ rfl 1; have f2_1 : w41_.frozen? ⟨g2, 1, none⟩ = false := HS.out.free 2 _ _ _ rfl 1; have c2_2 : w41_.cell? ⟨g2, 2, none⟩ = some (.bool may) := HS.out.cell 2 _ _ _ rfl 2; have f2_2 : w41_.frozen? ⟨g2, 2, none⟩ = false := HS.out.free 2 _ _ _ rfl 2; have c2_3 : w41_.cell? ⟨g2, 3, none⟩ = some (.slice A fst.length c) := HS.out.cell 2 _ _ _ rfl 3; have f2_3 : w41_.frozen? ⟨g2, 3, none⟩ = false := HS.out.free 2 _ _ _ rfl 3; have ne0_2 := HS.out.ne_blk 0 2 _ _ _ _ _ _ rfl rfl (by omega)))
            have h5 := setMode_plain fst s x1 (.inl (by rw [← HK.out]; exact HC3.out))
            have h6 := setMode_wr fst s x1 hq0
            rw [← HSE.out] at h5
            rw [← HUE.out] at h5
            go_meet
            exact ⟨s.setMode fst x1, by rw [h5.1], by rw [h5.2], by rw [h5.1]; omega, by rw [h5.1]; omega, h6.1, by omega, HS.out.erase 0⟩
        have e1 : (x0 == 1) = false := beq_eq_false_iff_ne.2 hk1
        by_cases hk4 : x0 = 4
        · have e4 : (x0 == 4) = true := beq_iff_eq.2 hk4
          clear hk1 hk4
          by_cases hz : (actM s.mode x1).2.1 = 0
          · have HZ := Go.Lib.hid hz
            clear hz
            have HB : Hid (false = !decide ((actM s.mode x1).2.1 = 0)) := Go.Lib.hid (by rw [decide_eq_true HZ.out]; rfl)
            go_wp2_with (first | (go_at_call 41; refine (act_told HS.out 1 rfl x1 false HB.out (by rw [← HSE.out]; omega) (by rw [← HSE.out]; omega) (by omega)).mono ?_; rintro e w41_ ⟨rfl, HSn⟩; replace HS : Hid (St [SL.blk g9 67 #[.int .i64 x0, .int .i64 x1, .int .u32 x2], part g5 id name may fst (s.act fst x1), SL.blk g2 63 #[.int .i64 id, .string name, .bool may, .slice A fst.length c]] w w41_) := Go.Lib.hid HSn; clear HSn; clear c0_0 f0_0 c0_1 f0_1 c0_2 f0_2 c2_0 f2_0 c2_1 f2_1 c2_2 f2_2 c2_3 f2_3 ne0_2; have c0_0 : w41_.cell? ⟨g9, 0, none⟩ = some (.int .i64 x0) := HS.out.cell 0 _ _ _ rfl 0; have f0_0 : w41_.frozen? ⟨g9, 0, none⟩ = false := HS.out.free 0 _ _ _ rfl 0; have c0_1 : w41_.cell? ⟨g9, 1, none⟩ = some (.int .i64 x1) := HS.out.cell 0 _ _ _ rfl 1; have f0_1 : w41_.frozen? ⟨g9, 1, none⟩ = false := HS.out.free 0 _ _ _ rfl 1; have c0_2 : w41_.cell? ⟨g9, 2, none⟩ = some (.int .u32 x2) := HS.out.cell 0 _ _ _ rfl 2; have f0_2 : w41_.frozen? ⟨g9, 2, none⟩ = false := HS.out.free 0 _ _ _ rfl 2; have c2_0 : w41_.cell? ⟨g2, 0, none⟩ = some (.int .i64 id) := HS.out.cell 2 _ _ _ rfl 0; have f2_0 : w41_.frozen? ⟨g2, 0, none⟩ = false := HS.out.free 2 _ _ _ rfl 0; have c2_1 : w41_.cell? ⟨g2, 1, none⟩ = some (.string name) := HS.out.cell 2 _ _ _ rfl 1; have f2_1 : w41_.frozen? ⟨g2, 1, none⟩ = false := HS.out.free 2 _ _ _ rfl 1; have c2_2 : w41_.cell? ⟨g2, 2, none⟩ = some (.bool may) := HS.out.cell 2 _ _ _ rfl 2; have f2_2 : w41_.frozen? ⟨g2, 2, none⟩ = false := HS.out.free 2 _ _ _ rfl 2; have c2_3 : w41_.cell? ⟨g2, 3, none⟩ = some (.slice A fst.length c) := HS.out.cell 2 _ _ _ rfl 3; have f2_3 : w41_.frozen? ⟨g2, 3, none⟩ = false := HS.out.free 2 _ _ _ rfl 3; have ne0_2 := HS.out.ne_blk 0 2 _ _ _ _ _ _ rfl rfl (by omega)))
            have h6 := act_wr fst s x1 hq0
            have h5 := congrArg PS.starts (act_plain fst s x1 HZ.out)
            have h7 := congrArg PS.cause (act_plain fst s x1 HZ.out)
            rw [← HSE.out] at h5
            rw [← HUE.out] at h7
            go_meet
            exact ⟨s.act fst x1, by rw [h5], by rw [h7], by rw [h5]; omega, by rw [h5]; omega, h6.1, by omega, HS.out.erase 0⟩
          · have HZ := Go.Lib.hid hz
            clear hz
            have HB : Hid (true = !decide ((actM s.mode x1).2.1 = 0)) := Go.Lib.hid (by rw [decide_eq_false HZ.out]; rfl)
            go_wp2_with (first | (go_at_call 41; refine (act_told HS.out 1 rfl x1 true HB.out (by rw [← HSE.out]; omega) (by rw [← HSE.out]; omega) (by omega)).mono ?_; rintro e w41_ ⟨rfl, HSn⟩; replace HS : Hid (St [SL.blk g9 67 #[.int .i64 x0, .int .i64 x1, .int .u32 x2], part g5 id name may fst (s.act fst x1), SL.blk g2 63 #[.int .i64 id, .string name, .bool may, .slice A fst.length c]] w w41_) := Go.Lib.hid HSn; clear HSn; clear c0_0 f0_0 c0_1 f0_1 c0_2 f0_2 c2_0 f2_0 c2_1 f2_1 c2_2 f2_2 c2_3 f2_3 ne0_2; have c0_0 : w41_.cell? ⟨g9, 0, none⟩ = some (.int .i64 x0) := HS.out.cell 0 _ _ _ rfl 0; have f0_0 : w41_.frozen? ⟨g9, 0, none⟩ = false := HS.out.free 0 _ _ _ rfl 0; have c0_1 : w41_.cell? ⟨g9, 1, none⟩ = some (.int .i64 x1) := HS.out.cell 0 _ _ _ rfl 1; have f0_1 : w41_.frozen? ⟨g9, 1, none⟩ = false := HS.out.free 0 _ _ _ rfl 1; have c0_2 : w41_.cell? ⟨g9, 2, none⟩ = some (.int .u32 x2) := HS.out.cell 0 _ _ _ rfl 2; have f0_2 : w41_.frozen? ⟨g9, 2, none⟩ = false := HS.out.free 0 _ _ _ rfl 2; have c2_0 : w41_.cell? ⟨g2, 0, none⟩ = some (.int .i64 id) := HS.out.cell 2 _ _ _ rfl 0; have f2_0 : w41_.frozen? ⟨g2, 0, none⟩ = false := HS.out.free 2 _ _ _ rfl 0; have c2_1 : w41_.cell? ⟨g2, 1, none⟩ = some (.string name) := HS.out.cell 2 _ _ _ rfl 1; have f2_1 : w41_.frozen? ⟨g2, 1, none⟩ = false := HS.out.free 2 _ _ _ rfl 1; have c2_2 : w41_.cell? ⟨g2, 2, none⟩ = some (.bool may) := HS.out.cell 2 _ _ _ rfl 2; have f2_2 : w41_.frozen? ⟨g2, 2, none⟩ = false := HS.out.free 2 _ _ _ rfl 2; have c2_3 : w41_.cell? ⟨g2, 3, none⟩ = some (.slice A fst.length c) := HS.out.cell 2 _ _ _ rfl 3; have f2_3 : w41_.frozen? ⟨g2, 3, none⟩ = false := HS.out.free 2 _ _ _ rfl 3; have ne0_2 := HS.out.ne_blk 0 2 _ _ _ _ _ _ rfl rfl (by omega)))
            have h6 := act_wr fst s x1 hq0
            have h5 := act_grant fst s x1 HZ.out
            rw [← HSE.out] at h5
            go_meet
            exact ⟨s.act fst x1, by rw [h5.1], by rw [h5.2], by rw [h5.1]; omega, by rw [h5.1]; omega, h6.1, by omega, HS.out.erase 0⟩
        have e4 : (x0 == 4) = false := beq_eq_false_iff_ne.2 hk4
        clear hk1 hk4
        go_wp2_with (first | (go_at_call 42; refine (write_at HS.out 1 rfl x1 x2 hq0 (by omega)).mono ?_; rintro e w41_ ⟨rfl, HSn⟩; replace HS : Hid (St [SL.blk g9 67 #[.int .i64 x0, .int .i64 x1, .int .u32 x2], part g5 id name may fst (s.write x1 x2), SL.blk g2 63 #[.int .i64 id, .string name, .bool may, .slice A fst.length c]] w w41_) := Go.Lib.hid HSn; clear HSn; clear c0_0 f0_0 c0_1 f0_1 c0_2 f0_2 c2_0 f2_0 c2_1 f2_1 c2_2 f2_2 c2_3 f2_3 ne0_2; have c0_0 : w41_.cell? ⟨g9, 0, none⟩ = some (.int .i64 x0) := HS.out.cell 0 _ _ _ rfl 0; have f0_0 : w41_.frozen? ⟨g9, 0, none⟩ = false := HS.out.free 0 _ _ _ rfl 0; have c0_1 : w41_.cell? ⟨g9, 1, none⟩ = some (.int .i64 x1) := HS.out.cell 0 _ _ _ rfl 1; have f0_1 : w41_.frozen? ⟨g9, 1, none⟩ = false := HS.out.free 0 _ _ _ rfl 1; have c0_2 : w41_.cell? ⟨g9, 2, none⟩ = some (.int .u32 x2) := HS.out.cell 0 _ _ _ rfl 2; have f0_2 : w41_.frozen? ⟨g9, 2, none⟩ = false := HS.out.free 0 _ _ _ rfl 2; have c2_0 : w41_.cell? ⟨g2, 0, none⟩ = some (.int .i64 id) := HS.out.cell 2 _ _ _ rfl 0; have f2_0 : w41_.frozen? ⟨g2, 0, none⟩ = false := HS.out.free 2 _ _ _ rfl 0; have c2_1 : w41_.cell? ⟨g2, 1, none⟩ = some (.string name) := HS.out.cell 2 _ _ _ rfl 1; have f2_1 : w41_.frozen? ⟨g2, 1, none⟩ = false := HS.out.free 2 _ _ _ rfl 1; have c2_2 : w41_.cell? ⟨g2, 2, none⟩ = some (.bool may) := HS.out.cell 2 _ _ _ rfl 2; have f2_2 : w41_.frozen? ⟨g2, 2, none⟩ = false := HS.out.free 2 _ _ _ rfl 2; have c2_3 : w41_.cell? ⟨g2, 3, none⟩ = some (.slice A fst.length c) := HS.out.cell 2 _ _ _ rfl 3; have f2_3 : w41_.frozen? ⟨g2, 3, none⟩ = false := HS.out.free 2 _ _ _ rfl 3; have ne0_2 := HS.out.ne_blk 0 2 _ _ _ _ _ _ rfl rfl (by omega)))
        have h6 := write_wr s x1 x2 hq0
        have h5 := write_starts s x1 x2
        rw [← HSE.out, ← HUE.out] at h5
        go_meet
        exact ⟨s.write x1 x2, by rw [h5.1], by rw [h5.2.1], by rw [h5.1]; omega, by rw [h5.1]; omega, h6.1, by omega, HS.out.erase 0⟩
      case rest =>
        clear HS HSE HUE hs0 hs1 hq0 hq1 gg0 gg1 gg2 c0_0 f0_0 c0_1 f0_1 c0_2 f0_2 c2_0 f2_0 c2_1 f2_1 c2_2 f2_2 c2_3 f2_3 ne0_2
        obtain ⟨s, rfl, rfl, hs0, hs1, hq0, hq1, hS⟩ := hcut
        have HS := Go.Lib.hid hS
        obtain ⟨s1, hs1e⟩ : ∃ s1, s1 = s.starts := ⟨_, rfl⟩
        obtain ⟨u1, hu1e⟩ : ∃ u1, u1 = s.cause := ⟨_, rfl⟩
        have HS1 := Go.Lib.hid hs1e.symm
        have HU1 := Go.Lib.hid hu1e.symm
        rw [← hs1e, ← hu1e]
        rw [← hs1e] at hs0 hs1
        clear hS hs1e hu1e
        go_wp2_with (first | (go_at_call 43; refine (starts_is HS.out 0 rfl s1 HS1.out).mono ?_; rintro e w' ⟨rfl, rfl⟩) | (go_at_call 44; refine (cause_is HS.out 0 rfl u1 HU1.out).mono ?_; rintro e w' ⟨rfl, rfl⟩))
        go_roundw
        case rel => exact ⟨k + 1, s, by omega, by go_num, by rw [HS1.out], by rw [HU1.out], by rw [HS1.out]; omega, by rw [HS1.out]; omega, hq0, by omega, HS.out⟩
        case measure => simp [intOf]; omega
    · obtain rfl : k = n1 := by omega
      go_wp2_with (first | (go_at_call 38; refine (awake_st HS.out).mono ?_; rintro e w81_ ⟨rfl, HSn⟩; replace HS : Hid (St [part g5 id name may fst s, SL.blk g2 63 #[.int .i64 id, .string name, .bool may, .slice A fst.length c]] w w81_) := Go.Lib.hid HSn; clear HSn; have c1_0 : w81_.cell? ⟨g2, 0, none⟩ = some (.int .i64 id) := HS.out.cell 1 _ _ _ rfl 0; have f1_0 : w81_.frozen? ⟨g2, 0, none⟩ = false := HS.out.free 1 _ _ _ rfl 0; have c1_1 : w81_.cell? ⟨g2, 1, none⟩ = some (.string name) := HS.out.cell 1 _ _ _ rfl 1; have f1_1 : w81_.frozen? ⟨g2, 1, none⟩ = false := HS.out.free 1 _ _ _ rfl 1; have c1_2 : w81_.cell? ⟨g2, 2, none⟩ = some (.bool may) := HS.out.cell 1 _ _ _ rfl 2; have f1_2 : w81_.frozen? ⟨g2, 2, none⟩ = false := HS.out.free 1 _ _ _ rfl 2; have c1_3 : w81_.cell? ⟨g2, 3, none⟩ = some (.slice A fst.length c) := HS.out.cell 1 _ _ _ rfl 3; have f1_3 : w81_.frozen? ⟨g2, 3, none⟩ = false := HS.out.free 1 _ _ _ rfl 3))
      go_ret
      exact ⟨rfl, HS.out.below⟩
end Go.Proofs.Ytkmhgolohppliaa.Prt
