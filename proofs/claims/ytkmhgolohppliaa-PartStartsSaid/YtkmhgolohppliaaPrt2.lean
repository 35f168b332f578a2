/- A partition in memory: SetMode, Act, Read, Write, Shot, Copy, New. -/
import Derived.Test.YtkmhgolohppliaaPrt1
namespace Go.Proofs.Ytkmhgolohppliaa.Prt
open Go.RowKit Go.Proofs.Ytkmhgolohppliaa.PCellsPlays Go.Proofs.YtkmhgolohppliaaW.PrintWords Go.Proofs.YtkmhgolohppliaaW.PrintLast Go.Proofs.YtkmhgolohppliaaW.PrintMore Go.Proofs.Ytkmhgolohppliaa.Mine Go.Proofs.Ytkmhgolohppliaa.Cel Go.Proofs.Ytkmhgolohppliaa.Cls
open Go.Proofs.Ytkmhgolohppliaa.Sl (SL Stp St No)
open Go.Proofs.Ytkmhgolohppliaa.Mod (strt actM runs right askd)
set_option linter.unusedVariables false
set_option linter.unusedSimpArgs false
attribute [local go_sem] max2_int min2_int max_two min_two max_three min_three max_four min_four
variable {l : List SL} {w0 w : World} {g : Nat} {id : Int} {name : ByteArray} {may : Bool} {fst : List S43} {s : PS}
set_option maxHeartbeats 800000 in
theorem setMode_no (h : St (part g id name may fst s :: l) w0 w) (want c1 c2 c3 : Int) (hm : ∀ (l : List SL) (w : World), St l w0 w → Calls Try.prog 19 #[.int .i64 s.mode, .int .i64 want] w fun e w' => e = .returned (.agg #[.int .i64 c1, .int .i64 c2, .int .i64 c3]) ∧ St l w0 w') (hst : c2 = 0 ∨ c2 = 1 ∨ c2 = 2) (hc : (c3 == 0) = false) (hs0 : 0 ≤ s.starts) (hs1 : s.starts ≤ 1000000) (hn : fst.length ≤ 1000000) :
    Calls Try.prog 40 #[.pointer (some ⟨g, 0, none⟩), .int .i64 want] w fun e w' => e = .returned (.int .i64 c3) ∧ St (part g id name may fst (s) :: l) w0 w' := by
  obtain ⟨m0, s0, u0, now0, q0⟩ := s
  obtain ⟨A, n, c, cg, hS⟩ := open_part h
  have HS := Go.Lib.hid hS
  clear hS h
  have hs0' : 0 ≤ s0 := hs0
  have hs1' : s0 ≤ 1000000 := hs1
  clear hs0 hs1
  have HM := Go.Lib.hid hm
  clear hm
  have c0_0 : w.cell? ⟨g, 0, none⟩ = some (.int .i64 m0) := HS.out.cell 0 _ _ _ rfl 0
  have f0_0 : w.frozen? ⟨g, 0, none⟩ = false := HS.out.free 0 _ _ _ rfl 0
  have c0_1 : w.cell? ⟨g, 1, none⟩ = some (.int .i64 s0) := HS.out.cell 0 _ _ _ rfl 1
  have f0_1 : w.frozen? ⟨g, 1, none⟩ = false := HS.out.free 0 _ _ _ rfl 1
  have c0_2 : w.cell? ⟨g, 2, none⟩ = some (.int .i64 u0) := HS.out.cell 0 _ _ _ rfl 2
  have f0_2 : w.frozen? ⟨g, 2, none⟩ = false := HS.out.free 0 _ _ _ rfl 2
  have c0_3 : w.cell? ⟨g, 3, none⟩ = some (.int .i64 id) := HS.out.cell 0 _ _ _ rfl 3
  have f0_3 : w.frozen? ⟨g, 3, none⟩ = false := HS.out.free 0 _ _ _ rfl 3
  have c0_4 : w.cell? ⟨g, 4, none⟩ = some (.string name) := HS.out.cell 0 _ _ _ rfl 4
  have f0_4 : w.frozen? ⟨g, 4, none⟩ = false := HS.out.free 0 _ _ _ rfl 4
  have c0_5 : w.cell? ⟨g, 5, none⟩ = some (.bool may) := HS.out.cell 0 _ _ _ rfl 5
  have f0_5 : w.frozen? ⟨g, 5, none⟩ = false := HS.out.free 0 _ _ _ rfl 5
  have c0_6 : w.cell? ⟨g, 6, none⟩ = some (.slice A n c) := HS.out.cell 0 _ _ _ rfl 6
  have f0_6 : w.frozen? ⟨g, 6, none⟩ = false := HS.out.free 0 _ _ _ rfl 6
  have c0_7 : w.cell? ⟨g, 7, none⟩ = some (.pointer (some ⟨cg, 0, none⟩)) := HS.out.cell 0 _ _ _ rfl 7
  have f0_7 : w.frozen? ⟨g, 7, none⟩ = false := HS.out.free 0 _ _ _ rfl 7
  go_enter Try.func40, Try.ntmps40
  go_wp2_with (first | (go_at_call 19; refine (HM.out _ _ HS.out).mono ?_; rintro e w1_ ⟨rfl, HSn⟩; replace HS : Hid (St (SL.blk g 73 #[.int .i64 m0, .int .i64 s0, .int .i64 u0, .int .i64 id, .string name, .bool may, .slice A n c, .pointer (some ⟨cg, 0, none⟩)] :: cells cg fst now0 q0 :: l) w0 w1_) := Go.Lib.hid HSn; clear HSn; clear c0_0 f0_0 c0_1 f0_1 c0_2 f0_2 c0_3 f0_3 c0_4 f0_4 c0_5 f0_5 c0_6 f0_6 c0_7 f0_7; have c0_0 : w1_.cell? ⟨g, 0, none⟩ = some (.int .i64 m0) := HS.out.cell 0 _ _ _ rfl 0; have f0_0 : w1_.frozen? ⟨g, 0, none⟩ = false := HS.out.free 0 _ _ _ rfl 0; have c0_1 : w1_.cell? ⟨g, 1, none⟩ = some (.int .i64 s0) := HS.out.cell 0 _ _ _ rfl 1; have f0_1 : w1_.frozen? ⟨g, 1, none⟩ = false := HS.out.free 0 _ _ _ rfl 1; have c0_2 : w1_.cell? ⟨g, 2, none⟩ = some (.int .i64 u0) := HS.out.cell 0 _ _ _ rfl 2; have f0_2 : w1_.frozen? ⟨g, 2, none⟩ = false := HS.out.free 0 _ _ _ rfl 2; have c0_3 : w1_.cell? ⟨g, 3, none⟩ = some (.int .i64 id) := HS.out.cell 0 _ _ _ rfl 3; have f0_3 : w1_.frozen? ⟨g, 3, none⟩ = false := HS.out.free 0 _ _ _ rfl 3; have c0_4 : w1_.cell? ⟨g, 4, none⟩ = some (.string name) := HS.out.cell 0 _ _ _ rfl 4; have f0_4 : w1_.frozen? ⟨g, 4, none⟩ = false := HS.out.free 0 _ _ _ rfl 4; have c0_5 : w1_.cell? ⟨g, 5, none⟩ = some (.bool may) := HS.out.cell 0 _ _ _ rfl 5; have f0_5 : w1_.frozen? ⟨g, 5, none⟩ = false := HS.out.free 0 _ _ _ rfl 5; have c0_6 : w1_.cell? ⟨g, 6, none⟩ = some (.slice A n c) := HS.out.cell 0 _ _ _ rfl 6; have f0_6 : w1_.frozen? ⟨g, 6, none⟩ = false := HS.out.free 0 _ _ _ rfl 6; have c0_7 : w1_.cell? ⟨g, 7, none⟩ = some (.pointer (some ⟨cg, 0, none⟩)) := HS.out.cell 0 _ _ _ rfl 7; have f0_7 : w1_.frozen? ⟨g, 7, none⟩ = false := HS.out.free 0 _ _ _ rfl 7) | ((with_reducible refine gate_dst (N := 5) rfl ?_); refine Sl.box_st HS.out (by rfl) (cs := #[.int .i64 0, .int .i64 0, .int .i64 0]) (t := 30) ?hr ?_; (case hr => first | (go_simp; done) | (go_simp; rfl)); intro g5 w2_ HSn HBn; clear HBn; replace HS : Hid (St (SL.blk g5 30 #[.int .i64 0, .int .i64 0, .int .i64 0] :: SL.blk g 73 #[.int .i64 m0, .int .i64 s0, .int .i64 u0, .int .i64 id, .string name, .bool may, .slice A n c, .pointer (some ⟨cg, 0, none⟩)] :: cells cg fst now0 q0 :: l) w0 w2_) := Go.Lib.hid HSn; clear HSn; clear c0_0 f0_0 c0_1 f0_1 c0_2 f0_2 c0_3 f0_3 c0_4 f0_4 c0_5 f0_5 c0_6 f0_6 c0_7 f0_7; have c0_0 : w2_.cell? ⟨g5, 0, none⟩ = some (.int .i64 0) := HS.out.cell 0 _ _ _ rfl 0; have f0_0 : w2_.frozen? ⟨g5, 0, none⟩ = false := HS.out.free 0 _ _ _ rfl 0; have c0_1 : w2_.cell? ⟨g5, 1, none⟩ = some (.int .i64 0) := HS.out.cell 0 _ _ _ rfl 1; have f0_1 : w2_.frozen? ⟨g5, 1, none⟩ = false := HS.out.free 0 _ _ _ rfl 1; have c0_2 : w2_.cell? ⟨g5, 2, none⟩ = some (.int .i64 0) := HS.out.cell 0 _ _ _ rfl 2; have f0_2 : w2_.frozen? ⟨g5, 2, none⟩ = false := HS.out.free 0 _ _ _ rfl 2; have c1_0 : w2_.cell? ⟨g, 0, none⟩ = some (.int .i64 m0) := HS.out.cell 1 _ _ _ rfl 0; have f1_0 : w2_.frozen? ⟨g, 0, none⟩ = false := HS.out.free 1 _ _ _ rfl 0; have c1_1 : w2_.cell? ⟨g, 1, none⟩ = some (.int .i64 s0) := HS.out.cell 1 _ _ _ rfl 1; have f1_1 : w2_.frozen? ⟨g, 1, none⟩ = false := HS.out.free 1 _ _ _ rfl 1; have c1_2 : w2_.cell? ⟨g, 2, none⟩ = some (.int .i64 u0) := HS.out.cell 1 _ _ _ rfl 2; have f1_2 : w2_.frozen? ⟨g, 2, none⟩ = false := HS.out.free 1 _ _ _ rfl 2; have c1_3 : w2_.cell? ⟨g, 3, none⟩ = some (.int .i64 id) := HS.out.cell 1 _ _ _ rfl 3; have f1_3 : w2_.frozen? ⟨g, 3, none⟩ = false := HS.out.free 1 _ _ _ rfl 3; have c1_4 : w2_.cell? ⟨g, 4, none⟩ = some (.string name) := HS.out.cell 1 _ _ _ rfl 4; have f1_4 : w2_.frozen? ⟨g, 4, none⟩ = false := HS.out.free 1 _ _ _ rfl 4; have c1_5 : w2_.cell? ⟨g, 5, none⟩ = some (.bool may) := HS.out.cell 1 _ _ _ rfl 5; have f1_5 : w2_.frozen? ⟨g, 5, none⟩ = false := HS.out.free 1 _ _ _ rfl 5; have c1_6 : w2_.cell? ⟨g, 6, none⟩ = some (.slice A n c) := HS.out.cell 1 _ _ _ rfl 6; have f1_6 : w2_.frozen? ⟨g, 6, none⟩ = false := HS.out.free 1 _ _ _ rfl 6; have c1_7 : w2_.cell? ⟨g, 7, none⟩ = some (.pointer (some ⟨cg, 0, none⟩)) := HS.out.cell 1 _ _ _ rfl 7; have f1_7 : w2_.frozen? ⟨g, 7, none⟩ = false := HS.out.free 1 _ _ _ rfl 7; have ne0_1 := HS.out.ne_blk 0 1 _ _ _ _ _ _ rfl rfl (by omega)) | ((with_reducible refine gate_store (p := 5) rfl ?_); refine Sl.storeAll_st HS.out 0 g5 30 _ rfl [.int .i64 c1, .int .i64 c2, .int .i64 c3] rfl (by rfl) (by rfl) ?hr ?_; (case hr => first | (go_simp; done) | (go_simp; rfl)); intro w3_ HSn; replace HS : Hid (St (SL.blk g5 30 #[.int .i64 c1, .int .i64 c2, .int .i64 c3] :: SL.blk g 73 #[.int .i64 m0, .int .i64 s0, .int .i64 u0, .int .i64 id, .string name, .bool may, .slice A n c, .pointer (some ⟨cg, 0, none⟩)] :: cells cg fst now0 q0 :: l) w0 w3_) := Go.Lib.hid HSn; clear HSn; clear c0_0 f0_0 c0_1 f0_1 c0_2 f0_2 c1_0 f1_0 c1_1 f1_1 c1_2 f1_2 c1_3 f1_3 c1_4 f1_4 c1_5 f1_5 c1_6 f1_6 c1_7 f1_7 ne0_1; have c0_0 : w3_.cell? ⟨g5, 0, none⟩ = some (.int .i64 c1) := HS.out.cell 0 _ _ _ rfl 0; have f0_0 : w3_.frozen? ⟨g5, 0, none⟩ = false := HS.out.free 0 _ _ _ rfl 0; have c0_1 : w3_.cell? ⟨g5, 1, none⟩ = some (.int .i64 c2) := HS.out.cell 0 _ _ _ rfl 1; have f0_1 : w3_.frozen? ⟨g5, 1, none⟩ = false := HS.out.free 0 _ _ _ rfl 1; have c0_2 : w3_.cell? ⟨g5, 2, none⟩ = some (.int .i64 c3) := HS.out.cell 0 _ _ _ rfl 2; have f0_2 : w3_.frozen? ⟨g5, 2, none⟩ = false := HS.out.free 0 _ _ _ rfl 2; have c1_0 : w3_.cell? ⟨g, 0, none⟩ = some (.int .i64 m0) := HS.out.cell 1 _ _ _ rfl 0; have f1_0 : w3_.frozen? ⟨g, 0, none⟩ = false := HS.out.free 1 _ _ _ rfl 0; have c1_1 : w3_.cell? ⟨g, 1, none⟩ = some (.int .i64 s0) := HS.out.cell 1 _ _ _ rfl 1; have f1_1 : w3_.frozen? ⟨g, 1, none⟩ = false := HS.out.free 1 _ _ _ rfl 1; have c1_2 : w3_.cell? ⟨g, 2, none⟩ = some (.int .i64 u0) := HS.out.cell 1 _ _ _ rfl 2; have f1_2 : w3_.frozen? ⟨g, 2, none⟩ = false := HS.out.free 1 _ _ _ rfl 2; have c1_3 : w3_.cell? ⟨g, 3, none⟩ = some (.int .i64 id) := HS.out.cell 1 _ _ _ rfl 3; have f1_3 : w3_.frozen? ⟨g, 3, none⟩ = false := HS.out.free 1 _ _ _ rfl 3; have c1_4 : w3_.cell? ⟨g, 4, none⟩ = some (.string name) := HS.out.cell 1 _ _ _ rfl 4; have f1_4 : w3_.frozen? ⟨g, 4, none⟩ = false := HS.out.free 1 _ _ _ rfl 4; have c1_5 : w3_.cell? ⟨g, 5, none⟩ = some (.bool may) := HS.out.cell 1 _ _ _ rfl 5; have f1_5 : w3_.frozen? ⟨g, 5, none⟩ = false := HS.out.free 1 _ _ _ rfl 5; have c1_6 : w3_.cell? ⟨g, 6, none⟩ = some (.slice A n c) := HS.out.cell 1 _ _ _ rfl 6; have f1_6 : w3_.frozen? ⟨g, 6, none⟩ = false := HS.out.free 1 _ _ _ rfl 6; have c1_7 : w3_.cell? ⟨g, 7, none⟩ = some (.pointer (some ⟨cg, 0, none⟩)) := HS.out.cell 1 _ _ _ rfl 7; have f1_7 : w3_.frozen? ⟨g, 7, none⟩ = false := HS.out.free 1 _ _ _ rfl 7; have ne0_1 := HS.out.ne_blk 0 1 _ _ _ _ _ _ rfl rfl (by omega)))
  go_ret
  exact ⟨rfl, shut_part (HS.out.drop)⟩
set_option maxHeartbeats 800000 in
theorem setMode_yes (h : St (part g id name may fst s :: l) w0 w) (want c1 c2 c3 : Int) (hm : ∀ (l : List SL) (w : World), St l w0 w → Calls Try.prog 19 #[.int .i64 s.mode, .int .i64 want] w fun e w' => e = .returned (.agg #[.int .i64 c1, .int .i64 c2, .int .i64 c3]) ∧ St l w0 w') (hst : c2 = 0 ∨ c2 = 1 ∨ c2 = 2) (hc : (c3 == 0) = true) (hs0 : 0 ≤ s.starts) (hs1 : s.starts ≤ 1000000) (hn : fst.length ≤ 1000000) :
    Calls Try.prog 40 #[.pointer (some ⟨g, 0, none⟩), .int .i64 want] w fun e w' => e = .returned (.int .i64 c3) ∧ St (part g id name may fst (PS.become fst s c1 c2 1) :: l) w0 w' := by
  obtain ⟨m0, s0, u0, now0, q0⟩ := s
  obtain ⟨A, n, c, cg, hS⟩ := open_part h
  have HS := Go.Lib.hid hS
  clear hS h
  have hs0' : 0 ≤ s0 := hs0
  have hs1' : s0 ≤ 1000000 := hs1
  clear hs0 hs1
  have HM := Go.Lib.hid hm
  clear hm
  have c0_0 : w.cell? ⟨g, 0, none⟩ = some (.int .i64 m0) := HS.out.cell 0 _ _ _ rfl 0
  have f0_0 : w.frozen? ⟨g, 0, none⟩ = false := HS.out.free 0 _ _ _ rfl 0
  have c0_1 : w.cell? ⟨g, 1, none⟩ = some (.int .i64 s0) := HS.out.cell 0 _ _ _ rfl 1
  have f0_1 : w.frozen? ⟨g, 1, none⟩ = false := HS.out.free 0 _ _ _ rfl 1
  have c0_2 : w.cell? ⟨g, 2, none⟩ = some (.int .i64 u0) := HS.out.cell 0 _ _ _ rfl 2
  have f0_2 : w.frozen? ⟨g, 2, none⟩ = false := HS.out.free 0 _ _ _ rfl 2
  have c0_3 : w.cell? ⟨g, 3, none⟩ = some (.int .i64 id) := HS.out.cell 0 _ _ _ rfl 3
  have f0_3 : w.frozen? ⟨g, 3, none⟩ = false := HS.out.free 0 _ _ _ rfl 3
  have c0_4 : w.cell? ⟨g, 4, none⟩ = some (.string name) := HS.out.cell 0 _ _ _ rfl 4
  have f0_4 : w.frozen? ⟨g, 4, none⟩ = false := HS.out.free 0 _ _ _ rfl 4
  have c0_5 : w.cell? ⟨g, 5, none⟩ = some (.bool may) := HS.out.cell 0 _ _ _ rfl 5
  have f0_5 : w.frozen? ⟨g, 5, none⟩ = false := HS.out.free 0 _ _ _ rfl 5
  have c0_6 : w.cell? ⟨g, 6, none⟩ = some (.slice A n c) := HS.out.cell 0 _ _ _ rfl 6
  have f0_6 : w.frozen? ⟨g, 6, none⟩ = false := HS.out.free 0 _ _ _ rfl 6
  have c0_7 : w.cell? ⟨g, 7, none⟩ = some (.pointer (some ⟨cg, 0, none⟩)) := HS.out.cell 0 _ _ _ rfl 7
  have f0_7 : w.frozen? ⟨g, 7, none⟩ = false := HS.out.free 0 _ _ _ rfl 7
  go_enter Try.func40, Try.ntmps40
  go_wp2_with (first | (go_at_call 19; refine (HM.out _ _ HS.out).mono ?_; rintro e w1_ ⟨rfl, HSn⟩; replace HS : Hid (St (SL.blk g 73 #[.int .i64 m0, .int .i64 s0, .int .i64 u0, .int .i64 id, .string name, .bool may, .slice A n c, .pointer (some ⟨cg, 0, none⟩)] :: cells cg fst now0 q0 :: l) w0 w1_) := Go.Lib.hid HSn; clear HSn; clear c0_0 f0_0 c0_1 f0_1 c0_2 f0_2 c0_3 f0_3 c0_4 f0_4 c0_5 f0_5 c0_6 f0_6 c0_7 f0_7; have c0_0 : w1_.cell? ⟨g, 0, none⟩ = some (.int .i64 m0) := HS.out.cell 0 _ _ _ rfl 0; have f0_0 : w1_.frozen? ⟨g, 0, none⟩ = false := HS.out.free 0 _ _ _ rfl 0; have c0_1 : w1_.cell? ⟨g, 1, none⟩ = some (.int .i64 s0) := HS.out.cell 0 _ _ _ rfl 1; have f0_1 : w1_.frozen? ⟨g, 1, none⟩ = false := HS.out.free 0 _ _ _ rfl 1; have c0_2 : w1_.cell? ⟨g, 2, none⟩ = some (.int .i64 u0) := HS.out.cell 0 _ _ _ rfl 2; have f0_2 : w1_.frozen? ⟨g, 2, none⟩ = false := HS.out.free 0 _ _ _ rfl 2; have c0_3 : w1_.cell? ⟨g, 3, none⟩ = some (.int .i64 id) := HS.out.cell 0 _ _ _ rfl 3; have f0_3 : w1_.frozen? ⟨g, 3, none⟩ = false := HS.out.free 0 _ _ _ rfl 3; have c0_4 : w1_.cell? ⟨g, 4, none⟩ = some (.string name) := HS.out.cell 0 _ _ _ rfl 4; have f0_4 : w1_.frozen? ⟨g, 4, none⟩ = false := HS.out.free 0 _ _ _ rfl 4; have c0_5 : w1_.cell? ⟨g, 5, none⟩ = some (.bool may) := HS.out.cell 0 _ _ _ rfl 5; have f0_5 : w1_.frozen? ⟨g, 5, none⟩ = false := HS.out.free 0 _ _ _ rfl 5; have c0_6 : w1_.cell? ⟨g, 6, none⟩ = some (.slice A n c) := HS.out.cell 0 _ _ _ rfl 6; have f0_6 : w1_.frozen? ⟨g, 6, none⟩ = false := HS.out.free 0 _ _ _ rfl 6; have c0_7 : w1_.cell? ⟨g, 7, none⟩ = some (.pointer (some ⟨cg, 0, none⟩)) := HS.out.cell 0 _ _ _ rfl 7; have f0_7 : w1_.frozen? ⟨g, 7, none⟩ = false := HS.out.free 0 _ _ _ rfl 7) | ((with_reducible refine gate_dst (N := 5) rfl ?_); refine Sl.box_st HS.out (by rfl) (cs := #[.int .i64 0, .int .i64 0, .int .i64 0]) (t := 30) ?hr ?_; (case hr => first | (go_simp; done) | (go_simp; rfl)); intro g5 w2_ HSn HBn; clear HBn; replace HS : Hid (St (SL.blk g5 30 #[.int .i64 0, .int .i64 0, .int .i64 0] :: SL.blk g 73 #[.int .i64 m0, .int .i64 s0, .int .i64 u0, .int .i64 id, .string name, .bool may, .slice A n c, .pointer (some ⟨cg, 0, none⟩)] :: cells cg fst now0 q0 :: l) w0 w2_) := Go.Lib.hid HSn; clear HSn; clear c0_0 f0_0 c0_1 f0_1 c0_2 f0_2 c0_3 f0_3 c0_4 f0_4 c0_5 f0_5 c0_6 f0_6 c0_7 f0_7; have c0_0 : w2_.cell? ⟨g5, 0, none⟩ = some (.int .i64 0) := HS.out.cell 0 _ _ _ rfl 0; have f0_0 : w2_.frozen? ⟨g5, 0, none⟩ = false := HS.out.free 0 _ _ _ rfl 0; have c0_1 : w2_.cell? ⟨g5, 1, none⟩ = some (.int .i64 0) := HS.out.cell 0 _ _ _ rfl 1; have f0_1 : w2_.frozen? ⟨g5, 1, none⟩ = false := HS.out.free 0 _ _ _ rfl 1; have c0_2 : w2_.cell? ⟨g5, 2, none⟩ = some (.int .i64 0) := HS.out.cell 0 _ _ _ rfl 2; have f0_2 : w2_.frozen? ⟨g5, 2, none⟩ = false := HS.out.free 0 _ _ _ rfl 2; have c1_0 : w2_.cell? ⟨g, 0, none⟩ = some (.int .i64 m0) := HS.out.cell 1 _ _ _ rfl 0; have f1_0 : w2_.frozen? ⟨g, 0, none⟩ = false := HS.out.free 1 _ _ _ rfl 0; have c1_1 : w2_.cell? ⟨g, 1, none⟩ = some (.int .i64 s0) := HS.out.cell 1 _ _ _ rfl 1; have f1_1 : w2_.frozen? ⟨g, 1, none⟩ = false := HS.out.free 1 _ _ _ rfl 1; have c1_2 : w2_.cell? ⟨g, 2, none⟩ = some (.int .i64 u0) := HS.out.cell 1 _ _ _ rfl 2; have f1_2 : w2_.frozen? ⟨g, 2, none⟩ = false := HS.out.free 1 _ _ _ rfl 2; have c1_3 : w2_.cell? ⟨g, 3, none⟩ = some (.int .i64 id) := HS.out.cell 1 _ _ _ rfl 3; have f1_3 : w2_.frozen? ⟨g, 3, none⟩ = false := HS.out.free 1 _ _ _ rfl 3; have c1_4 : w2_.cell? ⟨g, 4, none⟩ = some (.string name) := HS.out.cell 1 _ _ _ rfl 4; have f1_4 : w2_.frozen? ⟨g, 4, none⟩ = false := HS.out.free 1 _ _ _ rfl 4; have c1_5 : w2_.cell? ⟨g, 5, none⟩ = some (.bool may) := HS.out.cell 1 _ _ _ rfl 5; have f1_5 : w2_.frozen? ⟨g, 5, none⟩ = false := HS.out.free 1 _ _ _ rfl 5; have c1_6 : w2_.cell? ⟨g, 6, none⟩ = some (.slice A n c) := HS.out.cell 1 _ _ _ rfl 6; have f1_6 : w2_.frozen? ⟨g, 6, none⟩ = false := HS.out.free 1 _ _ _ rfl 6; have c1_7 : w2_.cell? ⟨g, 7, none⟩ = some (.pointer (some ⟨cg, 0, none⟩)) := HS.out.cell 1 _ _ _ rfl 7; have f1_7 : w2_.frozen? ⟨g, 7, none⟩ = false := HS.out.free 1 _ _ _ rfl 7; have ne0_1 := HS.out.ne_blk 0 1 _ _ _ _ _ _ rfl rfl (by omega)) | ((with_reducible refine gate_store (p := 5) rfl ?_); refine Sl.storeAll_st HS.out 0 g5 30 _ rfl [.int .i64 c1, .int .i64 c2, .int .i64 c3] rfl (by rfl) (by rfl) ?hr ?_; (case hr => first | (go_simp; done) | (go_simp; rfl)); intro w3_ HSn; replace HS : Hid (St (SL.blk g5 30 #[.int .i64 c1, .int .i64 c2, .int .i64 c3] :: SL.blk g 73 #[.int .i64 m0, .int .i64 s0, .int .i64 u0, .int .i64 id, .string name, .bool may, .slice A n c, .pointer (some ⟨cg, 0, none⟩)] :: cells cg fst now0 q0 :: l) w0 w3_) := Go.Lib.hid HSn; clear HSn; clear c0_0 f0_0 c0_1 f0_1 c0_2 f0_2 c1_0 f1_0 c1_1 f1_1 c1_2 f1_2 c1_3 f1_3 c1_4 f1_4 c1_5 f1_5 c1_6 f1_6 c1_7 f1_7 ne0_1; have c0_0 : w3_.cell? ⟨g5, 0, none⟩ = some (.int .i64 c1) := HS.out.cell 0 _ _ _ rfl 0; have f0_0 : w3_.frozen? ⟨g5, 0, none⟩ = false := HS.out.free 0 _ _ _ rfl 0; have c0_1 : w3_.cell? ⟨g5, 1, none⟩ = some (.int .i64 c2) := HS.out.cell 0 _ _ _ rfl 1; have f0_1 : w3_.frozen? ⟨g5, 1, none⟩ = false := HS.out.free 0 _ _ _ rfl 1; have c0_2 : w3_.cell? ⟨g5, 2, none⟩ = some (.int .i64 c3) := HS.out.cell 0 _ _ _ rfl 2; have f0_2 : w3_.frozen? ⟨g5, 2, none⟩ = false := HS.out.free 0 _ _ _ rfl 2; have c1_0 : w3_.cell? ⟨g, 0, none⟩ = some (.int .i64 m0) := HS.out.cell 1 _ _ _ rfl 0; have f1_0 : w3_.frozen? ⟨g, 0, none⟩ = false := HS.out.free 1 _ _ _ rfl 0; have c1_1 : w3_.cell? ⟨g, 1, none⟩ = some (.int .i64 s0) := HS.out.cell 1 _ _ _ rfl 1; have f1_1 : w3_.frozen? ⟨g, 1, none⟩ = false := HS.out.free 1 _ _ _ rfl 1; have c1_2 : w3_.cell? ⟨g, 2, none⟩ = some (.int .i64 u0) := HS.out.cell 1 _ _ _ rfl 2; have f1_2 : w3_.frozen? ⟨g, 2, none⟩ = false := HS.out.free 1 _ _ _ rfl 2; have c1_3 : w3_.cell? ⟨g, 3, none⟩ = some (.int .i64 id) := HS.out.cell 1 _ _ _ rfl 3; have f1_3 : w3_.frozen? ⟨g, 3, none⟩ = false := HS.out.free 1 _ _ _ rfl 3; have c1_4 : w3_.cell? ⟨g, 4, none⟩ = some (.string name) := HS.out.cell 1 _ _ _ rfl 4; have f1_4 : w3_.frozen? ⟨g, 4, none⟩ = false := HS.out.free 1 _ _ _ rfl 4; have c1_5 : w3_.cell? ⟨g, 5, none⟩ = some (.bool may) := HS.out.cell 1 _ _ _ rfl 5; have f1_5 : w3_.frozen? ⟨g, 5, none⟩ = false := HS.out.free 1 _ _ _ rfl 5; have c1_6 : w3_.cell? ⟨g, 6, none⟩ = some (.slice A n c) := HS.out.cell 1 _ _ _ rfl 6; have f1_6 : w3_.frozen? ⟨g, 6, none⟩ = false := HS.out.free 1 _ _ _ rfl 6; have c1_7 : w3_.cell? ⟨g, 7, none⟩ = some (.pointer (some ⟨cg, 0, none⟩)) := HS.out.cell 1 _ _ _ rfl 7; have f1_7 : w3_.frozen? ⟨g, 7, none⟩ = false := HS.out.free 1 _ _ _ rfl 7; have ne0_1 := HS.out.ne_blk 0 1 _ _ _ _ _ _ rfl rfl (by omega)) | (go_at_call 99; refine (become_hd (s := ⟨m0, s0, u0, now0, q0⟩) (shut_part (HS.out.down)) c1 c2 c3 1 hst hs0' hs1' hn).mono ?_; rintro e w4_ ⟨rfl, HSm⟩; have HSn := St.swap HSm; replace HS : Hid (St (SL.blk g5 30 #[.int .i64 c1, .int .i64 c2, .int .i64 c3] :: part g id name may fst (PS.become fst ⟨m0, s0, u0, now0, q0⟩ c1 c2 1) :: l) w0 w4_) := Go.Lib.hid HSn; clear HSn HSm; clear c0_0 f0_0 c0_1 f0_1 c0_2 f0_2 c1_0 f1_0 c1_1 f1_1 c1_2 f1_2 c1_3 f1_3 c1_4 f1_4 c1_5 f1_5 c1_6 f1_6 c1_7 f1_7 ne0_1; have c0_0 : w4_.cell? ⟨g5, 0, none⟩ = some (.int .i64 c1) := HS.out.cell 0 _ _ _ rfl 0; have f0_0 : w4_.frozen? ⟨g5, 0, none⟩ = false := HS.out.free 0 _ _ _ rfl 0; have c0_1 : w4_.cell? ⟨g5, 1, none⟩ = some (.int .i64 c2) := HS.out.cell 0 _ _ _ rfl 1; have f0_1 : w4_.frozen? ⟨g5, 1, none⟩ = false := HS.out.free 0 _ _ _ rfl 1; have c0_2 : w4_.cell? ⟨g5, 2, none⟩ = some (.int .i64 c3) := HS.out.cell 0 _ _ _ rfl 2; have f0_2 : w4_.frozen? ⟨g5, 2, none⟩ = false := HS.out.free 0 _ _ _ rfl 2))
  go_ret
  exact ⟨rfl, HS.out.drop⟩
set_option maxHeartbeats 800000 in
theorem act_no (h : St (part g id name may fst s :: l) w0 w) (want c1 c2 c3 : Int) (hm : ∀ (l : List SL) (w : World), St l w0 w → Calls Try.prog 20 #[.int .i64 s.mode, .int .i64 want] w fun e w' => e = .returned (.agg #[.int .i64 c1, .int .i64 c2, .int .i64 c3]) ∧ St l w0 w') (hst : c2 = 0 ∨ c2 = 1 ∨ c2 = 2) (hc : (c2 == 0) = true) (hs0 : 0 ≤ s.starts) (hs1 : s.starts ≤ 1000000) (hn : fst.length ≤ 1000000) :
    Calls Try.prog 41 #[.pointer (some ⟨g, 0, none⟩), .int .i64 want] w fun e w' => e = .returned (.bool false) ∧ St (part g id name may fst (s) :: l) w0 w' := by
  obtain ⟨m0, s0, u0, now0, q0⟩ := s
  obtain ⟨A, n, c, cg, hS⟩ := open_part h
  have HS := Go.Lib.hid hS
  clear hS h
  have hs0' : 0 ≤ s0 := hs0
  have hs1' : s0 ≤ 1000000 := hs1
  clear hs0 hs1
  have HM := Go.Lib.hid hm
  clear hm
  have c0_0 : w.cell? ⟨g, 0, none⟩ = some (.int .i64 m0) := HS.out.cell 0 _ _ _ rfl 0
  have f0_0 : w.frozen? ⟨g, 0, none⟩ = false := HS.out.free 0 _ _ _ rfl 0
  have c0_1 : w.cell? ⟨g, 1, none⟩ = some (.int .i64 s0) := HS.out.cell 0 _ _ _ rfl 1
  have f0_1 : w.frozen? ⟨g, 1, none⟩ = false := HS.out.free 0 _ _ _ rfl 1
  have c0_2 : w.cell? ⟨g, 2, none⟩ = some (.int .i64 u0) := HS.out.cell 0 _ _ _ rfl 2
  have f0_2 : w.frozen? ⟨g, 2, none⟩ = false := HS.out.free 0 _ _ _ rfl 2
  have c0_3 : w.cell? ⟨g, 3, none⟩ = some (.int .i64 id) := HS.out.cell 0 _ _ _ rfl 3
  have f0_3 : w.frozen? ⟨g, 3, none⟩ = false := HS.out.free 0 _ _ _ rfl 3
  have c0_4 : w.cell? ⟨g, 4, none⟩ = some (.string name) := HS.out.cell 0 _ _ _ rfl 4
  have f0_4 : w.frozen? ⟨g, 4, none⟩ = false := HS.out.free 0 _ _ _ rfl 4
  have c0_5 : w.cell? ⟨g, 5, none⟩ = some (.bool may) := HS.out.cell 0 _ _ _ rfl 5
  have f0_5 : w.frozen? ⟨g, 5, none⟩ = false := HS.out.free 0 _ _ _ rfl 5
  have c0_6 : w.cell? ⟨g, 6, none⟩ = some (.slice A n c) := HS.out.cell 0 _ _ _ rfl 6
  have f0_6 : w.frozen? ⟨g, 6, none⟩ = false := HS.out.free 0 _ _ _ rfl 6
  have c0_7 : w.cell? ⟨g, 7, none⟩ = some (.pointer (some ⟨cg, 0, none⟩)) := HS.out.cell 0 _ _ _ rfl 7
  have f0_7 : w.frozen? ⟨g, 7, none⟩ = false := HS.out.free 0 _ _ _ rfl 7
  go_enter Try.func41, Try.ntmps41
  go_wp2_with (first | (go_at_call 20; refine (HM.out _ _ HS.out).mono ?_; rintro e w1_ ⟨rfl, HSn⟩; replace HS : Hid (St (SL.blk g 73 #[.int .i64 m0, .int .i64 s0, .int .i64 u0, .int .i64 id, .string name, .bool may, .slice A n c, .pointer (some ⟨cg, 0, none⟩)] :: cells cg fst now0 q0 :: l) w0 w1_) := Go.Lib.hid HSn; clear HSn; clear c0_0 f0_0 c0_1 f0_1 c0_2 f0_2 c0_3 f0_3 c0_4 f0_4 c0_5 f0_5 c0_6 f0_6 c0_7 f0_7; have c0_0 : w1_.cell? ⟨g, 0, none⟩ = some (.int .i64 m0) := HS.out.cell 0 _ _ _ rfl 0; have f0_0 : w1_.frozen? ⟨g, 0, none⟩ = false := HS.out.free 0 _ _ _ rfl 0; have c0_1 : w1_.cell? ⟨g, 1, none⟩ = some (.int .i64 s0) := HS.out.cell 0 _ _ _ rfl 1; have f0_1 : w1_.frozen? ⟨g, 1, none⟩ = false := HS.out.free 0 _ _ _ rfl 1; have c0_2 : w1_.cell? ⟨g, 2, none⟩ = some (.int .i64 u0) := HS.out.cell 0 _ _ _ rfl 2; have f0_2 : w1_.frozen? ⟨g, 2, none⟩ = false := HS.out.free 0 _ _ _ rfl 2; have c0_3 : w1_.cell? ⟨g, 3, none⟩ = some (.int .i64 id) := HS.out.cell 0 _ _ _ rfl 3; have f0_3 : w1_.frozen? ⟨g, 3, none⟩ = false := HS.out.free 0 _ _ _ rfl 3; have c0_4 : w1_.cell? ⟨g, 4, none⟩ = some (.string name) := HS.out.cell 0 _ _ _ rfl 4; have f0_4 : w1_.frozen? ⟨g, 4, none⟩ = false := HS.out.free 0 _ _ _ rfl 4; have c0_5 : w1_.cell? ⟨g, 5, none⟩ = some (.bool may) := HS.out.cell 0 _ _ _ rfl 5; have f0_5 : w1_.frozen? ⟨g, 5, none⟩ = false := HS.out.free 0 _ _ _ rfl 5; have c0_6 : w1_.cell? ⟨g, 6, none⟩ = some (.slice A n c) := HS.out.cell 0 _ _ _ rfl 6; have f0_6 : w1_.frozen? ⟨g, 6, none⟩ = false := HS.out.free 0 _ _ _ rfl 6; have c0_7 : w1_.cell? ⟨g, 7, none⟩ = some (.pointer (some ⟨cg, 0, none⟩)) := HS.out.cell 0 _ _ _ rfl 7; have f0_7 : w1_.frozen? ⟨g, 7, none⟩ = false := HS.out.free 0 _ _ _ rfl 7) | ((with_reducible refine gate_dst (N := 5) rfl ?_); refine Sl.box_st HS.out (by rfl) (cs := #[.int .i64 0, .int .i64 0, .int .i64 0]) (t := 30) ?hr ?_; (case hr => first | (go_simp; done) | (go_simp; rfl)); intro g5 w2_ HSn HBn; clear HBn; replace HS : Hid (St (SL.blk g5 30 #[.int .i64 0, .int .i64 0, .int .i64 0] :: SL.blk g 73 #[.int .i64 m0, .int .i64 s0, .int .i64 u0, .int .i64 id, .string name, .bool may, .slice A n c, .pointer (some ⟨cg, 0, none⟩)] :: cells cg fst now0 q0 :: l) w0 w2_) := Go.Lib.hid HSn; clear HSn; clear c0_0 f0_0 c0_1 f0_1 c0_2 f0_2 c0_3 f0_3 c0_4 f0_4 c0_5 f0_5 c0_6 f0_6 c0_7 f0_7; have c0_0 : w2_.cell? ⟨g5, 0, none⟩ = some (.int .i64 0) := HS.out.cell 0 _ _ _ rfl 0; have f0_0 : w2_.frozen? ⟨g5, 0, none⟩ = false := HS.out.free 0 _ _ _ rfl 0; have c0_1 : w2_.cell? ⟨g5, 1, none⟩ = some (.int .i64 0) := HS.out.cell 0 _ _ _ rfl 1; have f0_1 : w2_.frozen? ⟨g5, 1, none⟩ = false := HS.out.free 0 _ _ _ rfl 1; have c0_2 : w2_.cell? ⟨g5, 2, none⟩ = some (.int .i64 0) := HS.out.cell 0 _ _ _ rfl 2; have f0_2 : w2_.frozen? ⟨g5, 2, none⟩ = false := HS.out.free 0 _ _ _ rfl 2; have c1_0 : w2_.cell? ⟨g, 0, none⟩ = some (.int .i64 m0) := HS.out.cell 1 _ _ _ rfl 0; have f1_0 : w2_.frozen? ⟨g, 0, none⟩ = false := HS.out.free 1 _ _ _ rfl 0; have c1_1 : w2_.cell? ⟨g, 1, none⟩ = some (.int .i64 s0) := HS.out.cell 1 _ _ _ rfl 1; have f1_1 : w2_.frozen? ⟨g, 1, none⟩ = false := HS.out.free 1 _ _ _ rfl 1; have c1_2 : w2_.cell? ⟨g, 2, none⟩ = some (.int .i64 u0) := HS.out.cell 1 _ _ _ rfl 2; have f1_2 : w2_.frozen? ⟨g, 2, none⟩ = false := HS.out.free 1 _ _ _ rfl 2; have c1_3 : w2_.cell? ⟨g, 3, none⟩ = some (.int .i64 id) := HS.out.cell 1 _ _ _ rfl 3; have f1_3 : w2_.frozen? ⟨g, 3, none⟩ = false := HS.out.free 1 _ _ _ rfl 3; have c1_4 : w2_.cell? ⟨g, 4, none⟩ = some (.string name) := HS.out.cell 1 _ _ _ rfl 4; have f1_4 : w2_.frozen? ⟨g, 4, none⟩ = false := HS.out.free 1 _ _ _ rfl 4; have c1_5 : w2_.cell? ⟨g, 5, none⟩ = some (.bool may) := HS.out.cell 1 _ _ _ rfl 5; have f1_5 : w2_.frozen? ⟨g, 5, none⟩ = false := HS.out.free 1 _ _ _ rfl 5; have c1_6 : w2_.cell? ⟨g, 6, none⟩ = some (.slice A n c) := HS.out.cell 1 _ _ _ rfl 6; have f1_6 : w2_.frozen? ⟨g, 6, none⟩ = false := HS.out.free 1 _ _ _ rfl 6; have c1_7 : w2_.cell? ⟨g, 7, none⟩ = some (.pointer (some ⟨cg, 0, none⟩)) := HS.out.cell 1 _ _ _ rfl 7; have f1_7 : w2_.frozen? ⟨g, 7, none⟩ = false := HS.out.free 1 _ _ _ rfl 7; have ne0_1 := HS.out.ne_blk 0 1 _ _ _ _ _ _ rfl rfl (by omega)) | ((with_reducible refine gate_store (p := 5) rfl ?_); refine Sl.storeAll_st HS.out 0 g5 30 _ rfl [.int .i64 c1, .int .i64 c2, .int .i64 c3] rfl (by rfl) (by rfl) ?hr ?_; (case hr => first | (go_simp; done) | (go_simp; rfl)); intro w3_ HSn; replace HS : Hid (St (SL.blk g5 30 #[.int .i64 c1, .int .i64 c2, .int .i64 c3] :: SL.blk g 73 #[.int .i64 m0, .int .i64 s0, .int .i64 u0, .int .i64 id, .string name, .bool may, .slice A n c, .pointer (some ⟨cg, 0, none⟩)] :: cells cg fst now0 q0 :: l) w0 w3_) := Go.Lib.hid HSn; clear HSn; clear c0_0 f0_0 c0_1 f0_1 c0_2 f0_2 c1_0 f1_0 c1_1 f1_1 c1_2 f1_2 c1_3 f1_3 c1_4 f1_4 c1_5 f1_5 c1_6 f1_6 c1_7 f1_7 ne0_1; have c0_0 : w3_.cell? ⟨g5, 0, none⟩ = some (.int .i64 c1) := HS.out.cell 0 _ _ _ rfl 0; have f0_0 : w3_.frozen? ⟨g5, 0, none⟩ = false := HS.out.free 0 _ _ _ rfl 0; have c0_1 : w3_.cell? ⟨g5, 1, none⟩ = some (.int .i64 c2) := HS.out.cell 0 _ _ _ rfl 1; have f0_1 : w3_.frozen? ⟨g5, 1, none⟩ = false := HS.out.free 0 _ _ _ rfl 1; have c0_2 : w3_.cell? ⟨g5, 2, none⟩ = some (.int .i64 c3) := HS.out.cell 0 _ _ _ rfl 2; have f0_2 : w3_.frozen? ⟨g5, 2, none⟩ = false := HS.out.free 0 _ _ _ rfl 2; have c1_0 : w3_.cell? ⟨g, 0, none⟩ = some (.int .i64 m0) := HS.out.cell 1 _ _ _ rfl 0; have f1_0 : w3_.frozen? ⟨g, 0, none⟩ = false := HS.out.free 1 _ _ _ rfl 0; have c1_1 : w3_.cell? ⟨g, 1, none⟩ = some (.int .i64 s0) := HS.out.cell 1 _ _ _ rfl 1; have f1_1 : w3_.frozen? ⟨g, 1, none⟩ = false := HS.out.free 1 _ _ _ rfl 1; have c1_2 : w3_.cell? ⟨g, 2, none⟩ = some (.int .i64 u0) := HS.out.cell 1 _ _ _ rfl 2; have f1_2 : w3_.frozen? ⟨g, 2, none⟩ = false := HS.out.free 1 _ _ _ rfl 2; have c1_3 : w3_.cell? ⟨g, 3, none⟩ = some (.int .i64 id) := HS.out.cell 1 _ _ _ rfl 3; have f1_3 : w3_.frozen? ⟨g, 3, none⟩ = false := HS.out.free 1 _ _ _ rfl 3; have c1_4 : w3_.cell? ⟨g, 4, none⟩ = some (.string name) := HS.out.cell 1 _ _ _ rfl 4; have f1_4 : w3_.frozen? ⟨g, 4, none⟩ = false := HS.out.free 1 _ _ _ rfl 4; have c1_5 : w3_.cell? ⟨g, 5, none⟩ = some (.bool may) := HS.out.cell 1 _ _ _ rfl 5; have f1_5 : w3_.frozen? ⟨g, 5, none⟩ = false := HS.out.free 1 _ _ _ rfl 5; have c1_6 : w3_.cell? ⟨g, 6, none⟩ = some (.slice A n c) := HS.out.cell 1 _ _ _ rfl 6; have f1_6 : w3_.frozen? ⟨g, 6, none⟩ = false := HS.out.free 1 _ _ _ rfl 6; have c1_7 : w3_.cell? ⟨g, 7, none⟩ = some (.pointer (some ⟨cg, 0, none⟩)) := HS.out.cell 1 _ _ _ rfl 7; have f1_7 : w3_.frozen? ⟨g, 7, none⟩ = false := HS.out.free 1 _ _ _ rfl 7; have ne0_1 := HS.out.ne_blk 0 1 _ _ _ _ _ _ rfl rfl (by omega)))
  go_ret
  exact ⟨rfl, shut_part (HS.out.drop)⟩
set_option maxHeartbeats 800000 in
theorem act_yes (h : St (part g id name may fst s :: l) w0 w) (want c1 c2 c3 : Int) (hm : ∀ (l : List SL) (w : World), St l w0 w → Calls Try.prog 20 #[.int .i64 s.mode, .int .i64 want] w fun e w' => e = .returned (.agg #[.int .i64 c1, .int .i64 c2, .int .i64 c3]) ∧ St l w0 w') (hst : c2 = 0 ∨ c2 = 1 ∨ c2 = 2) (hc : (c2 == 0) = false) (hs0 : 0 ≤ s.starts) (hs1 : s.starts ≤ 1000000) (hn : fst.length ≤ 1000000) :
    Calls Try.prog 41 #[.pointer (some ⟨g, 0, none⟩), .int .i64 want] w fun e w' => e = .returned (.bool true) ∧ St (part g id name may fst (PS.become fst s c1 c2 2) :: l) w0 w' := by
  obtain ⟨m0, s0, u0, now0, q0⟩ := s
  obtain ⟨A, n, c, cg, hS⟩ := open_part h
  have HS := Go.Lib.hid hS
  clear hS h
  have hs0' : 0 ≤ s0 := hs0
  have hs1' : s0 ≤ 1000000 := hs1
  clear hs0 hs1
  have HM := Go.Lib.hid hm
  clear hm
  have c0_0 : w.cell? ⟨g, 0, none⟩ = some (.int .i64 m0) := HS.out.cell 0 _ _ _ rfl 0
  have f0_0 : w.frozen? ⟨g, 0, none⟩ = false := HS.out.free 0 _ _ _ rfl 0
  have c0_1 : w.cell? ⟨g, 1, none⟩ = some (.int .i64 s0) := HS.out.cell 0 _ _ _ rfl 1
  have f0_1 : w.frozen? ⟨g, 1, none⟩ = false := HS.out.free 0 _ _ _ rfl 1
  have c0_2 : w.cell? ⟨g, 2, none⟩ = some (.int .i64 u0) := HS.out.cell 0 _ _ _ rfl 2
  have f0_2 : w.frozen? ⟨g, 2, none⟩ = false := HS.out.free 0 _ _ _ rfl 2
  have c0_3 : w.cell? ⟨g, 3, none⟩ = some (.int .i64 id) := HS.out.cell 0 _ _ _ rfl 3
  have f0_3 : w.frozen? ⟨g, 3, none⟩ = false := HS.out.free 0 _ _ _ rfl 3
  have c0_4 : w.cell? ⟨g, 4, none⟩ = some (.string name) := HS.out.cell 0 _ _ _ rfl 4
  have f0_4 : w.frozen? ⟨g, 4, none⟩ = false := HS.out.free 0 _ _ _ rfl 4
  have c0_5 : w.cell? ⟨g, 5, none⟩ = some (.bool may) := HS.out.cell 0 _ _ _ rfl 5
  have f0_5 : w.frozen? ⟨g, 5, none⟩ = false := HS.out.free 0 _ _ _ rfl 5
  have c0_6 : w.cell? ⟨g, 6, none⟩ = some (.slice A n c) := HS.out.cell 0 _ _ _ rfl 6
  have f0_6 : w.frozen? ⟨g, 6, none⟩ = false := HS.out.free 0 _ _ _ rfl 6
  have c0_7 : w.cell? ⟨g, 7, none⟩ = some (.pointer (some ⟨cg, 0, none⟩)) := HS.out.cell 0 _ _ _ rfl 7
  have f0_7 : w.frozen? ⟨g, 7, none⟩ = false := HS.out.free 0 _ _ _ rfl 7
  go_enter Try.func41, Try.ntmps41
  go_wp2_with (first | (go_at_call 20; refine (HM.out _ _ HS.out).mono ?_; rintro e w1_ ⟨rfl, HSn⟩; replace HS : Hid (St (SL.blk g 73 #[.int .i64 m0, .int .i64 s0, .int .i64 u0, .int .i64 id, .string name, .bool may, .slice A n c, .pointer (some ⟨cg, 0, none⟩)] :: cells cg fst now0 q0 :: l) w0 w1_) := Go.Lib.hid HSn; clear HSn; clear c0_0 f0_0 c0_1 f0_1 c0_2 f0_2 c0_3 f0_3 c0_4 f0_4 c0_5 f0_5 c0_6 f0_6 c0_7 f0_7; have c0_0 : w1_.cell? ⟨g, 0, none⟩ = some (.int .i64 m0) := HS.out.cell 0 _ _ _ rfl 0; have f0_0 : w1_.frozen? ⟨g, 0, none⟩ = false := HS.out.free 0 _ _ _ rfl 0; have c0_1 : w1_.cell? ⟨g, 1, none⟩ = some (.int .i64 s0) := HS.out.cell 0 _ _ _ rfl 1; have f0_1 : w1_.frozen? ⟨g, 1, none⟩ = false := HS.out.free 0 _ _ _ rfl 1; have c0_2 : w1_.cell? ⟨g, 2, none⟩ = some (.int .i64 u0) := HS.out.cell 0 _ _ _ rfl 2; have f0_2 : w1_.frozen? ⟨g, 2, none⟩ = false := HS.out.free 0 _ _ _ rfl 2; have c0_3 : w1_.cell? ⟨g, 3, none⟩ = some (.int .i64 id) := HS.out.cell 0 _ _ _ rfl 3; have f0_3 : w1_.frozen? ⟨g, 3, none⟩ = false := HS.out.free 0 _ _ _ rfl 3; have c0_4 : w1_.cell? ⟨g, 4, none⟩ = some (.string name) := HS.out.cell 0 _ _ _ rfl 4; have f0_4 : w1_.frozen? ⟨g, 4, none⟩ = false := HS.out.free 0 _ _ _ rfl 4; have c0_5 : w1_.cell? ⟨g, 5, none⟩ = some (.bool may) := HS.out.cell 0 _ _ _ rfl 5; have f0_5 : w1_.frozen? ⟨g, 5, none⟩ = false := HS.out.free 0 _ _ _ rfl 5; have c0_6 : w1_.cell? ⟨g, 6, none⟩ = some (.slice A n c) := HS.out.cell 0 _ _ _ rfl 6; have f0_6 : w1_.frozen? ⟨g, 6, none⟩ = false := HS.out.free 0 _ _ _ rfl 6; have c0_7 : w1_.cell? ⟨g, 7, none⟩ = some (.pointer (some ⟨cg, 0, none⟩)) := HS.out.cell 0 _ _ _ rfl 7; have f0_7 : w1_.frozen? ⟨g, 7, none⟩ = false := HS.out.free 0 _ _ _ rfl 7) | ((with_reducible refine gate_dst (N := 5) rfl ?_); refine Sl.box_st HS.out (by rfl) (cs := #[.int .i64 0, .int .i64 0, .int .i64 0]) (t := 30) ?hr ?_; (case hr => first | (go_simp; done) | (go_simp; rfl)); intro g5 w2_ HSn HBn; clear HBn; replace HS : Hid (St (SL.blk g5 30 #[.int .i64 0, .int .i64 0, .int .i64 0] :: SL.blk g 73 #[.int .i64 m0, .int .i64 s0, .int .i64 u0, .int .i64 id, .string name, .bool may, .slice A n c, .pointer (some ⟨cg, 0, none⟩)] :: cells cg fst now0 q0 :: l) w0 w2_) := Go.Lib.hid HSn; clear HSn; clear c0_0 f0_0 c0_1 f0_1 c0_2 f0_2 c0_3 f0_3 c0_4 f0_4 c0_5 f0_5 c0_6 f0_6 c0_7 f0_7; have c0_0 : w2_.cell? ⟨g5, 0, none⟩ = some (.int .i64 0) := HS.out.cell 0 _ _ _ rfl 0; have f0_0 : w2_.frozen? ⟨g5, 0, none⟩ = false := HS.out.free 0 _ _ _ rfl 0; have c0_1 : w2_.cell? ⟨g5, 1, none⟩ = some (.int .i64 0) := HS.out.cell 0 _ _ _ rfl 1; have f0_1 : w2_.frozen? ⟨g5, 1, none⟩ = false := HS.out.free 0 _ _ _ rfl 1; have c0_2 : w2_.cell? ⟨g5, 2, none⟩ = some (.int .i64 0) := HS.out.cell 0 _ _ _ rfl 2; have f0_2 : w2_.frozen? ⟨g5, 2, none⟩ = false := HS.out.free 0 _ _ _ rfl 2; have c1_0 : w2_.cell? ⟨g, 0, none⟩ = some (.int .i64 m0) := HS.out.cell 1 _ _ _ rfl 0; have f1_0 : w2_.frozen? ⟨g, 0, none⟩ = false := HS.out.free 1 _ _ _ rfl 0; have c1_1 : w2_.cell? ⟨g, 1, none⟩ = some (.int .i64 s0) := HS.out.cell 1 _ _ _ rfl 1; have f1_1 : w2_.frozen? ⟨g, 1, none⟩ = false := HS.out.free 1 _ _ _ rfl 1; have c1_2 : w2_.cell? ⟨g, 2, none⟩ = some (.int .i64 u0) := HS.out.cell 1 _ _ _ rfl 2; have f1_2 : w2_.frozen? ⟨g, 2, none⟩ = false := HS.out.free 1 _ _ _ rfl 2; have c1_3 : w2_.cell? ⟨g, 3, none⟩ = some (.int .i64 id) := HS.out.cell 1 _ _ _ rfl 3; have f1_3 : w2_.frozen? ⟨g, 3, none⟩ = false := HS.out.free 1 _ _ _ rfl 3; have c1_4 : w2_.cell? ⟨g, 4, none⟩ = some (.string name) := HS.out.cell 1 _ _ _ rfl 4; have f1_4 : w2_.frozen? ⟨g, 4, none⟩ = false := HS.out.free 1 _ _ _ rfl 4; have c1_5 : w2_.cell? ⟨g, 5, none⟩ = some (.bool may) := HS.out.cell 1 _ _ _ rfl 5; have f1_5 : w2_.frozen? ⟨g, 5, none⟩ = false := HS.out.free 1 _ _ _ rfl 5; have c1_6 : w2_.cell? ⟨g, 6, none⟩ = some (.slice A n c) := HS.out.cell 1 _ _ _ rfl 6; have f1_6 : w2_.frozen? ⟨g, 6, none⟩ = false := HS.out.free 1 _ _ _ rfl 6; have c1_7 : w2_.cell? ⟨g, 7, none⟩ = some (.pointer (some ⟨cg, 0, none⟩)) := HS.out.cell 1 _ _ _ rfl 7; have f1_7 : w2_.frozen? ⟨g, 7, none⟩ = false := HS.out.free 1 _ _ _ rfl 7; have ne0_1 := HS.out.ne_blk 0 1 _ _ _ _ _ _ rfl rfl (by omega)) | ((with_reducible refine gate_store (p := 5) rfl ?_); refine Sl.storeAll_st HS.out 0 g5 30 _ rfl [.int .i64 c1, .int .i64 c2, .int .i64 c3] rfl (by rfl) (by rfl) ?hr ?_; (case hr => first | (go_simp; done) | (go_simp; rfl)); intro w3_ HSn; replace HS : Hid (St (SL.blk g5 30 #[.int .i64 c1, .int .i64 c2, .int .i64 c3] :: SL.blk g 73 #[.int .i64 m0, .int .i64 s0, .int .i64 u0, .int .i64 id, .string name, .bool may, .slice A n c, .pointer (some ⟨cg, 0, none⟩)] :: cells cg fst now0 q0 :: l) w0 w3_) := Go.Lib.hid HSn; clear HSn; clear c0_0 f0_0 c0_1 f0_1 c0_2 f0_2 c1_0 f1_0 c1_1 f1_1 c1_2 f1_2 c1_3 f1_3 c1_4 f1_4 c1_5 f1_5 c1_6 f1_6 c1_7 f1_7 ne0_1; have c0_0 : w3_.cell? ⟨g5, 0, none⟩ = some (.int .i64 c1) := HS.out.cell 0 _ _ _ rfl 0; have f0_0 : w3_.frozen? ⟨g5, 0, none⟩ = false := HS.out.free 0 _ _ _ rfl 0; have c0_1 : w3_.cell? ⟨g5, 1, none⟩ = some (.int .i64 c2) := HS.out.cell 0 _ _ _ rfl 1; have f0_1 : w3_.frozen? ⟨g5, 1, none⟩ = false := HS.out.free 0 _ _ _ rfl 1; have c0_2 : w3_.cell? ⟨g5, 2, none⟩ = some (.int .i64 c3) := HS.out.cell 0 _ _ _ rfl 2; have f0_2 : w3_.frozen? ⟨g5, 2, none⟩ = false := HS.out.free 0 _ _ _ rfl 2; have c1_0 : w3_.cell? ⟨g, 0, none⟩ = some (.int .i64 m0) := HS.out.cell 1 _ _ _ rfl 0; have f1_0 : w3_.frozen? ⟨g, 0, none⟩ = false := HS.out.free 1 _ _ _ rfl 0; have c1_1 : w3_.cell? ⟨g, 1, none⟩ = some (.int .i64 s0) := HS.out.cell 1 _ _ _ rfl 1; have f1_1 : w3_.frozen? ⟨g, 1, none⟩ = false := HS.out.free 1 _ _ _ rfl 1; have c1_2 : w3_.cell? ⟨g, 2, none⟩ = some (.int .i64 u0) := HS.out.cell 1 _ _ _ rfl 2; have f1_2 : w3_.frozen? ⟨g, 2, none⟩ = false := HS.out.free 1 _ _ _ rfl 2; have c1_3 : w3_.cell? ⟨g, 3, none⟩ = some (.int .i64 id) := HS.out.cell 1 _ _ _ rfl 3; have f1_3 : w3_.frozen? ⟨g, 3, none⟩ = false := HS.out.free 1 _ _ _ rfl 3; have c1_4 : w3_.cell? ⟨g, 4, none⟩ = some (.string name) := HS.out.cell 1 _ _ _ rfl 4; have f1_4 : w3_.frozen? ⟨g, 4, none⟩ = false := HS.out.free 1 _ _ _ rfl 4; have c1_5 : w3_.cell? ⟨g, 5, none⟩ = some (.bool may) := HS.out.cell 1 _ _ _ rfl 5; have f1_5 : w3_.frozen? ⟨g, 5, none⟩ = false := HS.out.free 1 _ _ _ rfl 5; have c1_6 : w3_.cell? ⟨g, 6, none⟩ = some (.slice A n c) := HS.out.cell 1 _ _ _ rfl 6; have f1_6 : w3_.frozen? ⟨g, 6, none⟩ = false := HS.out.free 1 _ _ _ rfl 6; have c1_7 : w3_.cell? ⟨g, 7, none⟩ = some (.pointer (some ⟨cg, 0, none⟩)) := HS.out.cell 1 _ _ _ rfl 7; have f1_7 : w3_.frozen? ⟨g, 7, none⟩ = false := HS.out.free 1 _ _ _ rfl 7; have ne0_1 := HS.out.ne_blk 0 1 _ _ _ _ _ _ rfl rfl (by omega)) | (go_at_call 99; refine (become_hd (s := ⟨m0, s0, u0, now0, q0⟩) (shut_part (HS.out.down)) c1 c2 c3 2 hst hs0' hs1' hn).mono ?_; rintro e w4_ ⟨rfl, HSm⟩; have HSn := St.swap HSm; replace HS : Hid (St (SL.blk g5 30 #[.int .i64 c1, .int .i64 c2, .int .i64 c3] :: part g id name may fst (PS.become fst ⟨m0, s0, u0, now0, q0⟩ c1 c2 2) :: l) w0 w4_) := Go.Lib.hid HSn; clear HSn HSm; clear c0_0 f0_0 c0_1 f0_1 c0_2 f0_2 c1_0 f1_0 c1_1 f1_1 c1_2 f1_2 c1_3 f1_3 c1_4 f1_4 c1_5 f1_5 c1_6 f1_6 c1_7 f1_7 ne0_1; have c0_0 : w4_.cell? ⟨g5, 0, none⟩ = some (.int .i64 c1) := HS.out.cell 0 _ _ _ rfl 0; have f0_0 : w4_.frozen? ⟨g5, 0, none⟩ = false := HS.out.free 0 _ _ _ rfl 0; have c0_1 : w4_.cell? ⟨g5, 1, none⟩ = some (.int .i64 c2) := HS.out.cell 0 _ _ _ rfl 1; have f0_1 : w4_.frozen? ⟨g5, 1, none⟩ = false := HS.out.free 0 _ _ _ rfl 1; have c0_2 : w4_.cell? ⟨g5, 2, none⟩ = some (.int .i64 c3) := HS.out.cell 0 _ _ _ rfl 2; have f0_2 : w4_.frozen? ⟨g5, 2, none⟩ = false := HS.out.free 0 _ _ _ rfl 2))
  go_ret
  exact ⟨rfl, HS.out.drop⟩
theorem setMode_hd (h : St (part g id name may fst s :: l) w0 w) (want : Int) (hs0 : 0 ≤ s.starts) (hs1 : s.starts ≤ 1000000) (hn : fst.length ≤ 1000000) :
    Calls Try.prog 40 #[.pointer (some ⟨g, 0, none⟩), .int .i64 want] w fun e w' => e = .returned (.int .i64 (mset s.mode want).2.2) ∧ St (part g id name may fst (s.setMode fst want) :: l) w0 w' := by
  unfold PS.setMode
  by_cases hc : (mset s.mode want).2.2 = 0
  · rw [if_pos hc]
    exact setMode_yes h want _ _ _ (fun l w hS => mset_st hS s.mode want) (mset_start _ _) (beq_iff_eq.2 hc) hs0 hs1 hn
  · rw [if_neg hc]
    exact setMode_no h want _ _ _ (fun l w hS => mset_st hS s.mode want) (mset_start _ _) (beq_eq_false_iff_ne.2 hc) hs0 hs1 hn
theorem act_hd (h : St (part g id name may fst s :: l) w0 w) (want : Int) (hs0 : 0 ≤ s.starts) (hs1 : s.starts ≤ 1000000) (hn : fst.length ≤ 1000000) :
    Calls Try.prog 41 #[.pointer (some ⟨g, 0, none⟩), .int .i64 want] w fun e w' => e = .returned (.bool (!decide ((actM s.mode want).2.1 = 0))) ∧ St (part g id name may fst (s.act fst want) :: l) w0 w' := by
  unfold PS.act
  by_cases hc : (actM s.mode want).2.1 = 0
  · rw [if_pos hc, decide_eq_true hc]
    exact act_no h want _ _ _ (fun l w hS => mact_st hS s.mode want) (act_start _ _) (beq_iff_eq.2 hc) hs0 hs1 hn
  · rw [if_neg hc, decide_eq_false hc]
    exact act_yes h want _ _ _ (fun l w hS => mact_st hS s.mode want) (act_start _ _) (beq_eq_false_iff_ne.2 hc) hs0 hs1 hn
theorem setMode_at (h : St l w0 w) (k : Nat) (e : l[k]? = some (part g id name may fst s)) (want : Int) (hs0 : 0 ≤ s.starts) (hs1 : s.starts ≤ 1000000) (hn : fst.length ≤ 1000000) : Calls Try.prog 40 #[.pointer (some ⟨g, 0, none⟩), .int .i64 want] w fun e w' => e = .returned (.int .i64 (mset s.mode want).2.2) ∧ St (l.set k (part g id name may fst (s.setMode fst want))) w0 w' :=
  (setMode_hd (h.front k _ e) want hs0 hs1 hn).mono fun _ _ ⟨he, hS⟩ => ⟨he, St.back k (List.getElem?_eq_some_iff.1 e).1 hS⟩
theorem act_at (h : St l w0 w) (k : Nat) (e : l[k]? = some (part g id name may fst s)) (want : Int) (hs0 : 0 ≤ s.starts) (hs1 : s.starts ≤ 1000000) (hn : fst.length ≤ 1000000) : Calls Try.prog 41 #[.pointer (some ⟨g, 0, none⟩), .int .i64 want] w fun e w' => e = .returned (.bool (!decide ((actM s.mode want).2.1 = 0))) ∧ St (l.set k (part g id name may fst (s.act fst want))) w0 w' :=
  (act_hd (h.front k _ e) want hs0 hs1 hn).mono fun _ _ ⟨he, hS⟩ => ⟨he, St.back k (List.getElem?_eq_some_iff.1 e).1 hS⟩
theorem cell_0 (h : St (part g id name may fst s :: l) w0 w) (i : Int) (hr : runs s.mode = false) :
    Calls Try.prog 100 #[.pointer (some ⟨g, 0, none⟩), .int .i64 i] w fun e w' => e = .returned (.int .i64 5) ∧ St (part g id name may fst s :: l) w0 w' := by
  have HR : Hid (∀ (l : List SL) (w : World), St l w0 w → Calls Try.prog 21 #[.int .i64 s.mode] w fun e w' => e = .returned (.bool false) ∧ St l w0 w') := Go.Lib.hid (fun l w hS => by rw [← hr]; exact runs_st hS s.mode)
  clear hr
  obtain ⟨m0, s0, u0, now0, q0⟩ := s
  obtain ⟨A, n, c, cg, hS⟩ := open_part h
  have HS := Go.Lib.hid hS
  clear hS h
  have c0_0 : w.cell? ⟨g, 0, none⟩ = some (.int .i64 m0) := HS.out.cell 0 _ _ _ rfl 0
  have f0_0 : w.frozen? ⟨g, 0, none⟩ = false := HS.out.free 0 _ _ _ rfl 0
  have c0_1 : w.cell? ⟨g, 1, none⟩ = some (.int .i64 s0) := HS.out.cell 0 _ _ _ rfl 1
  have f0_1 : w.frozen? ⟨g, 1, none⟩ = false := HS.out.free 0 _ _ _ rfl 1
  have c0_2 : w.cell? ⟨g, 2, none⟩ = some (.int .i64 u0) := HS.out.cell 0 _ _ _ rfl 2
  have f0_2 : w.frozen? ⟨g, 2, none⟩ = false := HS.out.free 0 _ _ _ rfl 2
  have c0_3 : w.cell? ⟨g, 3, none⟩ = some (.int .i64 id) := HS.out.cell 0 _ _ _ rfl 3
  have f0_3 : w.frozen? ⟨g, 3, none⟩ = false := HS.out.free 0 _ _ _ rfl 3
  have c0_4 : w.cell? ⟨g, 4, none⟩ = some (.string name) := HS.out.cell 0 _ _ _ rfl 4
  have f0_4 : w.frozen? ⟨g, 4, none⟩ = false := HS.out.free 0 _ _ _ rfl 4
  have c0_5 : w.cell? ⟨g, 5, none⟩ = some (.bool may) := HS.out.cell 0 _ _ _ rfl 5
  have f0_5 : w.frozen? ⟨g, 5, none⟩ = false := HS.out.free 0 _ _ _ rfl 5
  have c0_6 : w.cell? ⟨g, 6, none⟩ = some (.slice A n c) := HS.out.cell 0 _ _ _ rfl 6
  have f0_6 : w.frozen? ⟨g, 6, none⟩ = false := HS.out.free 0 _ _ _ rfl 6
  have c0_7 : w.cell? ⟨g, 7, none⟩ = some (.pointer (some ⟨cg, 0, none⟩)) := HS.out.cell 0 _ _ _ rfl 7
  have f0_7 : w.frozen? ⟨g, 7, none⟩ = false := HS.out.free 0 _ _ _ rfl 7
  go_enter Try.func100, Try.ntmps100
  go_wp2_with (first | (go_at_call 21; refine (HR.out _ _ HS.out).mono ?_; rintro e w1_ ⟨rfl, HSn⟩; replace HS : Hid (St (SL.blk g 73 #[.int .i64 m0, .int .i64 s0, .int .i64 u0, .int .i64 id, .string name, .bool may, .slice A n c, .pointer (some ⟨cg, 0, none⟩)] :: cells cg fst now0 q0 :: l) w0 w1_) := Go.Lib.hid HSn; clear HSn; clear c0_0 f0_0 c0_1 f0_1 c0_2 f0_2 c0_3 f0_3 c0_4 f0_4 c0_5 f0_5 c0_6 f0_6 c0_7 f0_7; have c0_0 : w1_.cell? ⟨g, 0, none⟩ = some (.int .i64 m0) := HS.out.cell 0 _ _ _ rfl 0; have f0_0 : w1_.frozen? ⟨g, 0, none⟩ = false := HS.out.free 0 _ _ _ rfl 0; have c0_1 : w1_.cell? ⟨g, 1, none⟩ = some (.int .i64 s0) := HS.out.cell 0 _ _ _ rfl 1; have f0_1 : w1_.frozen? ⟨g, 1, none⟩ = false := HS.out.free 0 _ _ _ rfl 1; have c0_2 : w1_.cell? ⟨g, 2, none⟩ = some (.int .i64 u0) := HS.out.cell 0 _ _ _ rfl 2; have f0_2 : w1_.frozen? ⟨g, 2, none⟩ = false := HS.out.free 0 _ _ _ rfl 2; have c0_3 : w1_.cell? ⟨g, 3, none⟩ = some (.int .i64 id) := HS.out.cell 0 _ _ _ rfl 3; have f0_3 : w1_.frozen? ⟨g, 3, none⟩ = false := HS.out.free 0 _ _ _ rfl 3; have c0_4 : w1_.cell? ⟨g, 4, none⟩ = some (.string name) := HS.out.cell 0 _ _ _ rfl 4; have f0_4 : w1_.frozen? ⟨g, 4, none⟩ = false := HS.out.free 0 _ _ _ rfl 4; have c0_5 : w1_.cell? ⟨g, 5, none⟩ = some (.bool may) := HS.out.cell 0 _ _ _ rfl 5; have f0_5 : w1_.frozen? ⟨g, 5, none⟩ = false := HS.out.free 0 _ _ _ rfl 5; have c0_6 : w1_.cell? ⟨g, 6, none⟩ = some (.slice A n c) := HS.out.cell 0 _ _ _ rfl 6; have f0_6 : w1_.frozen? ⟨g, 6, none⟩ = false := HS.out.free 0 _ _ _ rfl 6; have c0_7 : w1_.cell? ⟨g, 7, none⟩ = some (.pointer (some ⟨cg, 0, none⟩)) := HS.out.cell 0 _ _ _ rfl 7; have f0_7 : w1_.frozen? ⟨g, 7, none⟩ = false := HS.out.free 0 _ _ _ rfl 7))
  go_ret
  exact ⟨rfl, shut_part HS.out⟩
theorem cell_1 (h : St (part g id name may fst s :: l) w0 w) (i : Int) (hr : runs s.mode = true) (hi : i < 0 ∨ s.now.length ≤ i) :
    Calls Try.prog 100 #[.pointer (some ⟨g, 0, none⟩), .int .i64 i] w fun e w' => e = .returned (.int .i64 3) ∧ St (part g id name may fst s :: l) w0 w' := by
  have HR : Hid (∀ (l : List SL) (w : World), St l w0 w → Calls Try.prog 21 #[.int .i64 s.mode] w fun e w' => e = .returned (.bool true) ∧ St l w0 w') := Go.Lib.hid (fun l w hS => by rw [← hr]; exact runs_st hS s.mode)
  clear hr
  obtain ⟨m0, s0, u0, now0, q0⟩ := s
  obtain ⟨A, n, c, cg, hS⟩ := open_part h
  have HS := Go.Lib.hid hS
  clear hS h
  have c0_0 : w.cell? ⟨g, 0, none⟩ = some (.int .i64 m0) := HS.out.cell 0 _ _ _ rfl 0
  have f0_0 : w.frozen? ⟨g, 0, none⟩ = false := HS.out.free 0 _ _ _ rfl 0
  have c0_1 : w.cell? ⟨g, 1, none⟩ = some (.int .i64 s0) := HS.out.cell 0 _ _ _ rfl 1
  have f0_1 : w.frozen? ⟨g, 1, none⟩ = false := HS.out.free 0 _ _ _ rfl 1
  have c0_2 : w.cell? ⟨g, 2, none⟩ = some (.int .i64 u0) := HS.out.cell 0 _ _ _ rfl 2
  have f0_2 : w.frozen? ⟨g, 2, none⟩ = false := HS.out.free 0 _ _ _ rfl 2
  have c0_3 : w.cell? ⟨g, 3, none⟩ = some (.int .i64 id) := HS.out.cell 0 _ _ _ rfl 3
  have f0_3 : w.frozen? ⟨g, 3, none⟩ = false := HS.out.free 0 _ _ _ rfl 3
  have c0_4 : w.cell? ⟨g, 4, none⟩ = some (.string name) := HS.out.cell 0 _ _ _ rfl 4
  have f0_4 : w.frozen? ⟨g, 4, none⟩ = false := HS.out.free 0 _ _ _ rfl 4
  have c0_5 : w.cell? ⟨g, 5, none⟩ = some (.bool may) := HS.out.cell 0 _ _ _ rfl 5
  have f0_5 : w.frozen? ⟨g, 5, none⟩ = false := HS.out.free 0 _ _ _ rfl 5
  have c0_6 : w.cell? ⟨g, 6, none⟩ = some (.slice A n c) := HS.out.cell 0 _ _ _ rfl 6
  have f0_6 : w.frozen? ⟨g, 6, none⟩ = false := HS.out.free 0 _ _ _ rfl 6
  have c0_7 : w.cell? ⟨g, 7, none⟩ = some (.pointer (some ⟨cg, 0, none⟩)) := HS.out.cell 0 _ _ _ rfl 7
  have f0_7 : w.frozen? ⟨g, 7, none⟩ = false := HS.out.free 0 _ _ _ rfl 7
  go_enter Try.func100, Try.ntmps100
  go_wp2_with (first | (go_at_call 21; refine (HR.out _ _ HS.out).mono ?_; rintro e w1_ ⟨rfl, HSn⟩; replace HS : Hid (St (SL.blk g 73 #[.int .i64 m0, .int .i64 s0, .int .i64 u0, .int .i64 id, .string name, .bool may, .slice A n c, .pointer (some ⟨cg, 0, none⟩)] :: cells cg fst now0 q0 :: l) w0 w1_) := Go.Lib.hid HSn; clear HSn; clear c0_0 f0_0 c0_1 f0_1 c0_2 f0_2 c0_3 f0_3 c0_4 f0_4 c0_5 f0_5 c0_6 f0_6 c0_7 f0_7; have c0_0 : w1_.cell? ⟨g, 0, none⟩ = some (.int .i64 m0) := HS.out.cell 0 _ _ _ rfl 0; have f0_0 : w1_.frozen? ⟨g, 0, none⟩ = false := HS.out.free 0 _ _ _ rfl 0; have c0_1 : w1_.cell? ⟨g, 1, none⟩ = some (.int .i64 s0) := HS.out.cell 0 _ _ _ rfl 1; have f0_1 : w1_.frozen? ⟨g, 1, none⟩ = false := HS.out.free 0 _ _ _ rfl 1; have c0_2 : w1_.cell? ⟨g, 2, none⟩ = some (.int .i64 u0) := HS.out.cell 0 _ _ _ rfl 2; have f0_2 : w1_.frozen? ⟨g, 2, none⟩ = false := HS.out.free 0 _ _ _ rfl 2; have c0_3 : w1_.cell? ⟨g, 3, none⟩ = some (.int .i64 id) := HS.out.cell 0 _ _ _ rfl 3; have f0_3 : w1_.frozen? ⟨g, 3, none⟩ = false := HS.out.free 0 _ _ _ rfl 3; have c0_4 : w1_.cell? ⟨g, 4, none⟩ = some (.string name) := HS.out.cell 0 _ _ _ rfl 4; have f0_4 : w1_.frozen? ⟨g, 4, none⟩ = false := HS.out.free 0 _ _ _ rfl 4; have c0_5 : w1_.cell? ⟨g, 5, none⟩ = some (.bool may) := HS.out.cell 0 _ _ _ rfl 5; have f0_5 : w1_.frozen? ⟨g, 5, none⟩ = false := HS.out.free 0 _ _ _ rfl 5; have c0_6 : w1_.cell? ⟨g, 6, none⟩ = some (.slice A n c) := HS.out.cell 0 _ _ _ rfl 6; have f0_6 : w1_.frozen? ⟨g, 6, none⟩ = false := HS.out.free 0 _ _ _ rfl 6; have c0_7 : w1_.cell? ⟨g, 7, none⟩ = some (.pointer (some ⟨cg, 0, none⟩)) := HS.out.cell 0 _ _ _ rfl 7; have f0_7 : w1_.frozen? ⟨g, 7, none⟩ = false := HS.out.free 0 _ _ _ rfl 7) | (go_at_call 35; refine (get_out HS.out 1 rfl i hi).mono ?_; rintro e w' ⟨rfl, rfl⟩))
  go_ret
  exact ⟨rfl, shut_part HS.out⟩
theorem cell_2 (h : St (part g id name may fst s :: l) w0 w) (i : Int) (hr : runs s.mode = true) (h0 : 0 ≤ i) (h1 : i < s.now.length) :
    Calls Try.prog 100 #[.pointer (some ⟨g, 0, none⟩), .int .i64 i] w fun e w' => e = .returned (.int .i64 0) ∧ St (part g id name may fst s :: l) w0 w' := by
  have HR : Hid (∀ (l : List SL) (w : World), St l w0 w → Calls Try.prog 21 #[.int .i64 s.mode] w fun e w' => e = .returned (.bool true) ∧ St l w0 w') := Go.Lib.hid (fun l w hS => by rw [← hr]; exact runs_st hS s.mode)
  clear hr
  obtain ⟨m0, s0, u0, now0, q0⟩ := s
  obtain ⟨A, n, c, cg, hS⟩ := open_part h
  have HS := Go.Lib.hid hS
  clear hS h
  have c0_0 : w.cell? ⟨g, 0, none⟩ = some (.int .i64 m0) := HS.out.cell 0 _ _ _ rfl 0
  have f0_0 : w.frozen? ⟨g, 0, none⟩ = false := HS.out.free 0 _ _ _ rfl 0
  have c0_1 : w.cell? ⟨g, 1, none⟩ = some (.int .i64 s0) := HS.out.cell 0 _ _ _ rfl 1
  have f0_1 : w.frozen? ⟨g, 1, none⟩ = false := HS.out.free 0 _ _ _ rfl 1
  have c0_2 : w.cell? ⟨g, 2, none⟩ = some (.int .i64 u0) := HS.out.cell 0 _ _ _ rfl 2
  have f0_2 : w.frozen? ⟨g, 2, none⟩ = false := HS.out.free 0 _ _ _ rfl 2
  have c0_3 : w.cell? ⟨g, 3, none⟩ = some (.int .i64 id) := HS.out.cell 0 _ _ _ rfl 3
  have f0_3 : w.frozen? ⟨g, 3, none⟩ = false := HS.out.free 0 _ _ _ rfl 3
  have c0_4 : w.cell? ⟨g, 4, none⟩ = some (.string name) := HS.out.cell 0 _ _ _ rfl 4
  have f0_4 : w.frozen? ⟨g, 4, none⟩ = false := HS.out.free 0 _ _ _ rfl 4
  have c0_5 : w.cell? ⟨g, 5, none⟩ = some (.bool may) := HS.out.cell 0 _ _ _ rfl 5
  have f0_5 : w.frozen? ⟨g, 5, none⟩ = false := HS.out.free 0 _ _ _ rfl 5
  have c0_6 : w.cell? ⟨g, 6, none⟩ = some (.slice A n c) := HS.out.cell 0 _ _ _ rfl 6
  have f0_6 : w.frozen? ⟨g, 6, none⟩ = false := HS.out.free 0 _ _ _ rfl 6
  have c0_7 : w.cell? ⟨g, 7, none⟩ = some (.pointer (some ⟨cg, 0, none⟩)) := HS.out.cell 0 _ _ _ rfl 7
  have f0_7 : w.frozen? ⟨g, 7, none⟩ = false := HS.out.free 0 _ _ _ rfl 7
  go_enter Try.func100, Try.ntmps100
  go_wp2_with (first | (go_at_call 21; refine (HR.out _ _ HS.out).mono ?_; rintro e w1_ ⟨rfl, HSn⟩; replace HS : Hid (St (SL.blk g 73 #[.int .i64 m0, .int .i64 s0, .int .i64 u0, .int .i64 id, .string name, .bool may, .slice A n c, .pointer (some ⟨cg, 0, none⟩)] :: cells cg fst now0 q0 :: l) w0 w1_) := Go.Lib.hid HSn; clear HSn; clear c0_0 f0_0 c0_1 f0_1 c0_2 f0_2 c0_3 f0_3 c0_4 f0_4 c0_5 f0_5 c0_6 f0_6 c0_7 f0_7; have c0_0 : w1_.cell? ⟨g, 0, none⟩ = some (.int .i64 m0) := HS.out.cell 0 _ _ _ rfl 0; have f0_0 : w1_.frozen? ⟨g, 0, none⟩ = false := HS.out.free 0 _ _ _ rfl 0; have c0_1 : w1_.cell? ⟨g, 1, none⟩ = some (.int .i64 s0) := HS.out.cell 0 _ _ _ rfl 1; have f0_1 : w1_.frozen? ⟨g, 1, none⟩ = false := HS.out.free 0 _ _ _ rfl 1; have c0_2 : w1_.cell? ⟨g, 2, none⟩ = some (.int .i64 u0) := HS.out.cell 0 _ _ _ rfl 2; have f0_2 : w1_.frozen? ⟨g, 2, none⟩ = false := HS.out.free 0 _ _ _ rfl 2; have c0_3 : w1_.cell? ⟨g, 3, none⟩ = some (.int .i64 id) := HS.out.cell 0 _ _ _ rfl 3; have f0_3 : w1_.frozen? ⟨g, 3, none⟩ = false := HS.out.free 0 _ _ _ rfl 3; have c0_4 : w1_.cell? ⟨g, 4, none⟩ = some (.string name) := HS.out.cell 0 _ _ _ rfl 4; have f0_4 : w1_.frozen? ⟨g, 4, none⟩ = false := HS.out.free 0 _ _ _ rfl 4; have c0_5 : w1_.cell? ⟨g, 5, none⟩ = some (.bool may) := HS.out.cell 0 _ _ _ rfl 5; have f0_5 : w1_.frozen? ⟨g, 5, none⟩ = false := HS.out.free 0 _ _ _ rfl 5; have c0_6 : w1_.cell? ⟨g, 6, none⟩ = some (.slice A n c) := HS.out.cell 0 _ _ _ rfl 6; have f0_6 : w1_.frozen? ⟨g, 6, none⟩ = false := HS.out.free 0 _ _ _ rfl 6; have c0_7 : w1_.cell? ⟨g, 7, none⟩ = some (.pointer (some ⟨cg, 0, none⟩)) := HS.out.cell 0 _ _ _ rfl 7; have f0_7 : w1_.frozen? ⟨g, 7, none⟩ = false := HS.out.free 0 _ _ _ rfl 7) | (go_at_call 35; refine (get_in HS.out 1 rfl i h0 h1).mono ?_; rintro e w' ⟨rfl, rfl⟩))
  go_ret
  exact ⟨rfl, shut_part HS.out⟩
theorem cell_hd (h : St (part g id name may fst s :: l) w0 w) (i : Int) :
    Calls Try.prog 100 #[.pointer (some ⟨g, 0, none⟩), .int .i64 i] w fun e w' => e = .returned (.int .i64 (s.cell i)) ∧ St (part g id name may fst s :: l) w0 w' := by
  unfold PS.cell
  cases hr : runs s.mode with
  | false => exact cell_0 h i hr
  | true =>
    cases hb : inB i s.now.length with
    | true =>
      have h0 : 0 ≤ i := by unfold inB at hb; simp at hb; omega
      have h1 : i < s.now.length := by unfold inB at hb; simp at hb; omega
      exact cell_2 h i hr h0 h1
    | false =>
      exact cell_1 h i hr (by unfold inB at hb; simp at hb; omega)
theorem read_no (h : St (part g id name may fst s :: l) w0 w) (i k : Int) (hk : s.cell i = k) (h0 : (k != 0) = true) :
    Calls Try.prog 98 #[.pointer (some ⟨g, 0, none⟩), .int .i64 i] w fun e w' => e = .returned (.tuple #[.int .u32 0, .int .i64 k]) ∧ St (part g id name may fst s :: l) w0 w' := by
  have HC : Hid (∀ (l : List SL) (w : World), St (part g id name may fst s :: l) w0 w → Calls Try.prog 100 #[.pointer (some ⟨g, 0, none⟩), .int .i64 i] w fun e w' => e = .returned (.int .i64 k) ∧ St (part g id name may fst s :: l) w0 w') := Go.Lib.hid (fun l w hS => by rw [← hk]; exact cell_hd hS i)
  have HS := Go.Lib.hid h
  clear h hk
  go_enter Try.func98, Try.ntmps98
  go_wp2_with (first | (go_at_call 100; refine (HC.out _ _ HS.out).mono ?_; rintro e w1_ ⟨rfl, HSn⟩; replace HS : Hid (St (part g id name may fst s :: l) w0 w1_) := Go.Lib.hid HSn; clear HSn))
  go_ret2
  exact ⟨rfl, HS.out⟩
theorem read_yes (h : St (part g id name may fst s :: l) w0 w) (i : Int) (hk : s.cell i = 0) (h0 : 0 ≤ i) (h1 : i < s.now.length) :
    Calls Try.prog 98 #[.pointer (some ⟨g, 0, none⟩), .int .i64 i] w fun e w' => e = .returned (.tuple #[.int .u32 (rd s.now i), .int .i64 0]) ∧ St (part g id name may fst s :: l) w0 w' := by
  have HC : Hid (∀ (l : List SL) (w : World), St (part g id name may fst s :: l) w0 w → Calls Try.prog 100 #[.pointer (some ⟨g, 0, none⟩), .int .i64 i] w fun e w' => e = .returned (.int .i64 0) ∧ St (part g id name may fst s :: l) w0 w') := Go.Lib.hid (fun l w hS => by rw [← hk]; exact cell_hd hS i)
  have HS := Go.Lib.hid h
  clear h hk
  go_enter Try.func98, Try.ntmps98
  go_wp2_with fail
  refine (HC.out _ _ HS.out).mono ?_
  rintro e w1_ ⟨rfl, h⟩
  obtain ⟨m0, s0, u0, now0, q0⟩ := s
  obtain ⟨A, n, c, cg, hS⟩ := open_part h
  replace HS := Go.Lib.hid hS
  clear hS h
  have c0_0 : w1_.cell? ⟨g, 0, none⟩ = some (.int .i64 m0) := HS.out.cell 0 _ _ _ rfl 0
  have f0_0 : w1_.frozen? ⟨g, 0, none⟩ = false := HS.out.free 0 _ _ _ rfl 0
  have c0_1 : w1_.cell? ⟨g, 1, none⟩ = some (.int .i64 s0) := HS.out.cell 0 _ _ _ rfl 1
  have f0_1 : w1_.frozen? ⟨g, 1, none⟩ = false := HS.out.free 0 _ _ _ rfl 1
  have c0_2 : w1_.cell? ⟨g, 2, none⟩ = some (.int .i64 u0) := HS.out.cell 0 _ _ _ rfl 2
  have f0_2 : w1_.frozen? ⟨g, 2, none⟩ = false := HS.out.free 0 _ _ _ rfl 2
  have c0_3 : w1_.cell? ⟨g, 3, none⟩ = some (.int .i64 id) := HS.out.cell 0 _ _ _ rfl 3
  have f0_3 : w1_.frozen? ⟨g, 3, none⟩ = false := HS.out.free 0 _ _ _ rfl 3
  have c0_4 : w1_.cell? ⟨g, 4, none⟩ = some (.string name) := HS.out.cell 0 _ _ _ rfl 4
  have f0_4 : w1_.frozen? ⟨g, 4, none⟩ = false := HS.out.free 0 _ _ _ rfl 4
  have c0_5 : w1_.cell? ⟨g, 5, none⟩ = some (.bool may) := HS.out.cell 0 _ _ _ rfl 5
  have f0_5 : w1_.frozen? ⟨g, 5, none⟩ = false := HS.out.free 0 _ _ _ rfl 5
  have c0_6 : w1_.cell? ⟨g, 6, none⟩ = some (.slice A n c) := HS.out.cell 0 _ _ _ rfl 6
  have f0_6 : w1_.frozen? ⟨g, 6, none⟩ = false := HS.out.free 0 _ _ _ rfl 6
  have c0_7 : w1_.cell? ⟨g, 7, none⟩ = some (.pointer (some ⟨cg, 0, none⟩)) := HS.out.cell 0 _ _ _ rfl 7
  have f0_7 : w1_.frozen? ⟨g, 7, none⟩ = false := HS.out.free 0 _ _ _ rfl 7
  go_wp2_with (first | (go_at_call 35; refine (get_in HS.out 1 rfl i h0 h1).mono ?_; rintro e w' ⟨rfl, rfl⟩))
  go_ret2
  exact ⟨rfl, shut_part HS.out⟩
theorem write_no (h : St (part g id name may fst s :: l) w0 w) (i x k : Int) (hk : s.cell i = k) (h0 : (k == 0) = false) (hq0 : 0 ≤ s.wr) (hq1 : s.wr ≤ 1000000) :
    Calls Try.prog 42 #[.pointer (some ⟨g, 0, none⟩), .int .i64 i, .int .u32 x] w fun e w' => e = .returned (.int .i64 k) ∧ St (part g id name may fst (s) :: l) w0 w' := by
  have HC : Hid (∀ (l : List SL) (w : World), St (part g id name may fst s :: l) w0 w → Calls Try.prog 100 #[.pointer (some ⟨g, 0, none⟩), .int .i64 i] w fun e w' => e = .returned (.int .i64 k) ∧ St (part g id name may fst s :: l) w0 w') := Go.Lib.hid (fun l w hS => by rw [← hk]; exact cell_hd hS i)
  have HS := Go.Lib.hid h
  clear h hk
  go_enter Try.func42, Try.ntmps42
  go_wp2_with fail
  refine (HC.out _ _ HS.out).mono ?_
  rintro e w1_ ⟨rfl, h⟩
  replace HS := Go.Lib.hid h
  clear h
  go_wp2_with fail
  go_ret
  exact ⟨rfl, HS.out⟩
theorem write_yes (h : St (part g id name may fst s :: l) w0 w) (i x : Int) (hk : s.cell i = 0) (hq0 : 0 ≤ s.wr) (hq1 : s.wr ≤ 1000000) :
    Calls Try.prog 42 #[.pointer (some ⟨g, 0, none⟩), .int .i64 i, .int .u32 x] w fun e w' => e = .returned (.int .i64 0) ∧ St (part g id name may fst (⟨s.mode, s.starts, s.cause, setN s.now i x, setM s.now i s.wr⟩) :: l) w0 w' := by
  have HC : Hid (∀ (l : List SL) (w : World), St (part g id name may fst s :: l) w0 w → Calls Try.prog 100 #[.pointer (some ⟨g, 0, none⟩), .int .i64 i] w fun e w' => e = .returned (.int .i64 0) ∧ St (part g id name may fst s :: l) w0 w') := Go.Lib.hid (fun l w hS => by rw [← hk]; exact cell_hd hS i)
  have HS := Go.Lib.hid h
  clear h hk
  go_enter Try.func42, Try.ntmps42
  go_wp2_with fail
  refine (HC.out _ _ HS.out).mono ?_
  rintro e w1_ ⟨rfl, h⟩
  obtain ⟨m0, s0, u0, now0, q0⟩ := s
  obtain ⟨A, n, c, cg, hS⟩ := open_part h
  replace HS := Go.Lib.hid hS
  clear hS h
  have hq0' : 0 ≤ q0 := hq0
  have hq1' : q0 ≤ 1000000 := hq1
  have c0_0 : w1_.cell? ⟨g, 0, none⟩ = some (.int .i64 m0) := HS.out.cell 0 _ _ _ rfl 0
  have f0_0 : w1_.frozen? ⟨g, 0, none⟩ = false := HS.out.free 0 _ _ _ rfl 0
  have c0_1 : w1_.cell? ⟨g, 1, none⟩ = some (.int .i64 s0) := HS.out.cell 0 _ _ _ rfl 1
  have f0_1 : w1_.frozen? ⟨g, 1, none⟩ = false := HS.out.free 0 _ _ _ rfl 1
  have c0_2 : w1_.cell? ⟨g, 2, none⟩ = some (.int .i64 u0) := HS.out.cell 0 _ _ _ rfl 2
  have f0_2 : w1_.frozen? ⟨g, 2, none⟩ = false := HS.out.free 0 _ _ _ rfl 2
  have c0_3 : w1_.cell? ⟨g, 3, none⟩ = some (.int .i64 id) := HS.out.cell 0 _ _ _ rfl 3
  have f0_3 : w1_.frozen? ⟨g, 3, none⟩ = false := HS.out.free 0 _ _ _ rfl 3
  have c0_4 : w1_.cell? ⟨g, 4, none⟩ = some (.string name) := HS.out.cell 0 _ _ _ rfl 4
  have f0_4 : w1_.frozen? ⟨g, 4, none⟩ = false := HS.out.free 0 _ _ _ rfl 4
  have c0_5 : w1_.cell? ⟨g, 5, none⟩ = some (.bool may) := HS.out.cell 0 _ _ _ rfl 5
  have f0_5 : w1_.frozen? ⟨g, 5, none⟩ = false := HS.out.free 0 _ _ _ rfl 5
  have c0_6 : w1_.cell? ⟨g, 6, none⟩ = some (.slice A n c) := HS.out.cell 0 _ _ _ rfl 6
  have f0_6 : w1_.frozen? ⟨g, 6, none⟩ = false := HS.out.free 0 _ _ _ rfl 6
  have c0_7 : w1_.cell? ⟨g, 7, none⟩ = some (.pointer (some ⟨cg, 0, none⟩)) := HS.out.cell 0 _ _ _ rfl 7
  have f0_7 : w1_.frozen? ⟨g, 7, none⟩ = false := HS.out.free 0 _ _ _ rfl 7
  go_wp2_with (first | (go_at_call 25; refine (set_st HS.out 1 rfl i x hq0 hq1).mono ?_; rintro e w21_ ⟨rfl, HSn⟩; replace HS : Hid (St (SL.blk g 73 #[.int .i64 m0, .int .i64 s0, .int .i64 u0, .int .i64 id, .string name, .bool may, .slice A n c, .pointer (some ⟨cg, 0, none⟩)] :: cells cg fst (setN now0 i x) (setM now0 i q0) :: l) w0 w21_) := Go.Lib.hid HSn; clear HSn; clear c0_0 f0_0 c0_1 f0_1 c0_2 f0_2 c0_3 f0_3 c0_4 f0_4 c0_5 f0_5 c0_6 f0_6 c0_7 f0_7; have c0_0 : w21_.cell? ⟨g, 0, none⟩ = some (.int .i64 m0) := HS.out.cell 0 _ _ _ rfl 0; have f0_0 : w21_.frozen? ⟨g, 0, none⟩ = false := HS.out.free 0 _ _ _ rfl 0; have c0_1 : w21_.cell? ⟨g, 1, none⟩ = some (.int .i64 s0) := HS.out.cell 0 _ _ _ rfl 1; have f0_1 : w21_.frozen? ⟨g, 1, none⟩ = false := HS.out.free 0 _ _ _ rfl 1; have c0_2 : w21_.cell? ⟨g, 2, none⟩ = some (.int .i64 u0) := HS.out.cell 0 _ _ _ rfl 2; have f0_2 : w21_.frozen? ⟨g, 2, none⟩ = false := HS.out.free 0 _ _ _ rfl 2; have c0_3 : w21_.cell? ⟨g, 3, none⟩ = some (.int .i64 id) := HS.out.cell 0 _ _ _ rfl 3; have f0_3 : w21_.frozen? ⟨g, 3, none⟩ = false := HS.out.free 0 _ _ _ rfl 3; have c0_4 : w21_.cell? ⟨g, 4, none⟩ = some (.string name) := HS.out.cell 0 _ _ _ rfl 4; have f0_4 : w21_.frozen? ⟨g, 4, none⟩ = false := HS.out.free 0 _ _ _ rfl 4; have c0_5 : w21_.cell? ⟨g, 5, none⟩ = some (.bool may) := HS.out.cell 0 _ _ _ rfl 5; have f0_5 : w21_.frozen? ⟨g, 5, none⟩ = false := HS.out.free 0 _ _ _ rfl 5; have c0_6 : w21_.cell? ⟨g, 6, none⟩ = some (.slice A n c) := HS.out.cell 0 _ _ _ rfl 6; have f0_6 : w21_.frozen? ⟨g, 6, none⟩ = false := HS.out.free 0 _ _ _ rfl 6; have c0_7 : w21_.cell? ⟨g, 7, none⟩ = some (.pointer (some ⟨cg, 0, none⟩)) := HS.out.cell 0 _ _ _ rfl 7; have f0_7 : w21_.frozen? ⟨g, 7, none⟩ = false := HS.out.free 0 _ _ _ rfl 7))
  go_ret
  exact ⟨rfl, shut_part (s := ⟨m0, s0, u0, setN now0 i x, setM now0 i q0⟩) HS.out⟩
theorem write_hd (h : St (part g id name may fst s :: l) w0 w) (i x : Int) (hq0 : 0 ≤ s.wr) (hq1 : s.wr ≤ 1000000) :
    Calls Try.prog 42 #[.pointer (some ⟨g, 0, none⟩), .int .i64 i, .int .u32 x] w fun e w' => e = .returned (.int .i64 (s.cell i)) ∧ St (part g id name may fst (s.write i x) :: l) w0 w' := by
  unfold PS.write
  by_cases hk : s.cell i = 0
  · rw [if_pos hk, hk]
    exact write_yes h i x hk hq0 hq1
  · rw [if_neg hk]
    exact write_no h i x _ rfl (beq_eq_false_iff_ne.2 hk) hq0 hq1
theorem cell_zero (s : PS) (i : Int) (h : s.cell i = 0) : 0 ≤ i ∧ i < s.now.length := by
  unfold PS.cell at h
  split at h
  · split at h
    · rename_i h2; unfold inB at h2; simp at h2; omega
    · omega
  · omega
theorem read_hd (h : St (part g id name may fst s :: l) w0 w) (i : Int) :
    Calls Try.prog 98 #[.pointer (some ⟨g, 0, none⟩), .int .i64 i] w fun e w' => e = .returned (.tuple #[.int .u32 (if s.cell i = 0 then rd s.now i else 0), .int .i64 (s.cell i)]) ∧ St (part g id name may fst s :: l) w0 w' := by
  by_cases hk : s.cell i = 0
  · rw [if_pos hk, hk]
    exact read_yes h i hk (cell_zero s i hk).1 (cell_zero s i hk).2
  · rw [if_neg hk]
    exact read_no h i _ rfl (by rw [bne_iff_ne]; exact hk)
theorem write_at (h : St l w0 w) (k : Nat) (e : l[k]? = some (part g id name may fst s)) (i x : Int) (hq0 : 0 ≤ s.wr) (hq1 : s.wr ≤ 1000000) : Calls Try.prog 42 #[.pointer (some ⟨g, 0, none⟩), .int .i64 i, .int .u32 x] w fun e w' => e = .returned (.int .i64 (s.cell i)) ∧ St (l.set k (part g id name may fst (s.write i x))) w0 w' :=
  (write_hd (h.front k _ e) i x hq0 hq1).mono fun _ _ ⟨he, hS⟩ => ⟨he, St.back k (List.getElem?_eq_some_iff.1 e).1 hS⟩
theorem read_at (h : St l w0 w) (k : Nat) (e : l[k]? = some (part g id name may fst s)) (i : Int) :
    Calls Try.prog 98 #[.pointer (some ⟨g, 0, none⟩), .int .i64 i] w fun e w' => e = .returned (.tuple #[.int .u32 (if s.cell i = 0 then rd s.now i else 0), .int .i64 (s.cell i)]) ∧ St (l.set k (part g id name may fst s)) w0 w' :=
  (read_hd (h.front k _ e) i).mono fun _ _ ⟨he, hS⟩ => ⟨he, St.back k (List.getElem?_eq_some_iff.1 e).1 hS⟩
end Go.Proofs.Ytkmhgolohppliaa.Prt
