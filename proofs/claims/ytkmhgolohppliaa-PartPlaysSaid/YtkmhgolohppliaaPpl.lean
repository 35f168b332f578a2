/- PartPlays, walked. -/
import Derived.Test.YtkmhgolohppliaaRprA
import Derived.Deep.DeepCutAuto
namespace Go.Proofs.Ytkmhgolohppliaa.Prt
open Go.RowKit Go.Proofs.Ytkmhgolohppliaa.PCellsPlays Go.Proofs.YtkmhgolohppliaaW.PrintWords Go.Proofs.YtkmhgolohppliaaW.PrintLast Go.Proofs.YtkmhgolohppliaaW.PrintMore Go.Proofs.Ytkmhgolohppliaa.Mine Go.Proofs.Ytkmhgolohppliaa.Cel Go.Proofs.Ytkmhgolohppliaa.Cls
open Go.Proofs.Ytkmhgolohppliaa.Sl (SL Stp St No)
open Go.Proofs.Ytkmhgolohppliaa.Mod (strt actM runs right askd)
set_option linter.unusedVariables false
set_option linter.unusedSimpArgs false
attribute [local go_sem] max2_int min2_int max_two min_two max_three min_three max_four min_four
theorem become_mode_ (fst : List S43) (s : PS) (m st c : Int) : (s.become fst m st c).mode = m := by unfold PS.become; split <;> (try split) <;> rfl
theorem mset_mode (now want : Int) (h0 : 0 ≤ now) (h1 : now ≤ 3) : 0 ≤ (mset now want).1 ∧ (mset now want).1 ≤ 3 := by
  by_cases hr : right want = true
  · have h2 : 0 ≤ want ∧ want ≤ 3 := by simpa [right] using hr
    unfold mset Go.Proofs.Ytkmhgolohppliaa.Mod.setM
    split
    · exact h2
    · exact ⟨h0, h1⟩
  · have h3 : askd now want = 3 := by unfold askd; rw [if_neg hr]
    unfold mset Go.Proofs.Ytkmhgolohppliaa.Mod.setM
    rw [h3]
    exact ⟨h0, h1⟩
theorem setMode_mode (fst : List S43) (s : PS) (want : Int) (h0 : 0 ≤ s.mode) (h1 : s.mode ≤ 3) : 0 ≤ (s.setMode fst want).mode ∧ (s.setMode fst want).mode ≤ 3 := by
  unfold PS.setMode
  split
  · rw [become_mode_]; exact mset_mode _ _ h0 h1
  · exact ⟨h0, h1⟩
theorem act_mode (fst : List S43) (s : PS) (a : Int) (h0 : 0 ≤ s.mode) (h1 : s.mode ≤ 3) : 0 ≤ (s.act fst a).mode ∧ (s.act fst a).mode ≤ 3 := by
  unfold PS.act
  split
  · exact ⟨h0, h1⟩
  · rw [become_mode_]
    unfold actM
    (repeat' split) <;> simp <;> omega
/-- What is kept: the mode's bounds, the starts', the cells' number, the writes'. -/
structure Inv (fst : List S43) (s : PS) (k : Int) : Prop where
  m0 : 0 ≤ s.mode
  m1 : s.mode ≤ 3
  s0 : 0 ≤ s.starts
  s1 : s.starts ≤ 1 + k
  q0 : 0 ≤ s.wr
  q1 : s.wr ≤ k
  len : s.now.length = fst.length
theorem Inv.init (fst : List S43) : Inv fst (PS.init fst) 0 := ⟨(show (0 : Int) ≤ 1 by decide), (show (1 : Int) ≤ 3 by decide), (show (0 : Int) ≤ 1 by decide), (show (1 : Int) ≤ 1 + 0 by decide), (show (0 : Int) ≤ 0 by decide), (show (0 : Int) ≤ 0 by decide), by simp [PS.init]⟩
theorem setMode_starts_le (fst : List S43) (s : PS) (want : Int) (h : 0 ≤ s.starts) : 0 ≤ (s.setMode fst want).starts ∧ (s.setMode fst want).starts ≤ s.starts + 1 := by
  unfold PS.setMode; split
  · rw [become_starts]; split <;> omega
  · omega
theorem act_starts_le (fst : List S43) (s : PS) (a : Int) (h : 0 ≤ s.starts) : 0 ≤ (s.act fst a).starts ∧ (s.act fst a).starts ≤ s.starts + 1 := by
  unfold PS.act; split
  · omega
  · rw [become_starts]; split <;> omega
theorem Inv.setMode {fst : List S43} {s : PS} {k : Int} (h : Inv fst s k) (want : Int) : Inv fst (s.setMode fst want) (k + 1) := by
  have a := setMode_mode fst s want h.m0 h.m1; have b := setMode_starts_le fst s want h.s0; have d := setMode_wr fst s want h.q0
  have h1 := h.s1; have h2 := h.q1
  exact ⟨a.1, a.2, b.1, by omega, d.1, by omega, setMode_len fst s want h.len⟩
theorem Inv.act {fst : List S43} {s : PS} {k : Int} (h : Inv fst s k) (want : Int) : Inv fst (s.act fst want) (k + 1) := by
  have a := act_mode fst s want h.m0 h.m1; have b := act_starts_le fst s want h.s0; have d := act_wr fst s want h.q0
  have h1 := h.s1; have h2 := h.q1
  exact ⟨a.1, a.2, b.1, by omega, d.1, by omega, act_len fst s want h.len⟩
theorem Inv.more {fst : List S43} {s : PS} {k : Int} (h : Inv fst s k) : Inv fst s (k + 1) := ⟨h.m0, h.m1, h.s0, by have := h.s1; omega, h.q0, by have := h.q1; omega, h.len⟩
theorem Inv.write {fst : List S43} {s : PS} {k : Int} (h : Inv fst s k) (i x : Int) : Inv fst (s.write i x) (k + 1) := by
  have a := write_starts s i x; have d := write_wr s i x h.q0
  have h1 := h.s1; have h2 := h.q1; have h3 := h.m0; have h4 := h.m1; have h5 := h.s0
  exact ⟨by rw [a.2.2]; exact h3, by rw [a.2.2]; exact h4, by rw [a.1]; exact h5, by rw [a.1]; omega, d.1, by omega, write_len fst s i x h.len⟩
theorem Inv.step {fst : List S43} {s : PS} {k : Int} (h : Inv fst s k) (x : S67) : Inv fst (stepP fst s x) (k + 1) := by
  unfold stepP
  split
  · exact h.setMode _
  · split
    · exact h.write _ _
    · split
      · exact h.act _
      · exact h.more

set_option maxHeartbeats 6400000 in
set_option maxRecDepth 100000 in
theorem partPlays_walk (w : World) (v0 : Value) (hv : ∃ id name may A n c fst, v0 = .agg #[.int .i64 id, .string name, .bool may, .slice A n c] ∧ n ≤ c ∧ k43.C w A n fst ∧ name.size ≤ maxLen ∧ (Lit.int .i64 id).wf = true ∧ ∀ z ∈ fst, (Lit.int .u32 z.f0).wf = true)
    (A1 : Option Addr) (n1 c1 : Nat) (ops : List S67) (hO0 : n1 ≤ c1 ∧ k67.C w A1 n1 ops ∧ ∀ z ∈ ops, (Lit.int .i64 z.f0).wf = true ∧ (Lit.int .i64 z.f1).wf = true ∧ (Lit.int .u32 z.f2).wf = true) :
    Calls Try.prog 10 #[v0, .slice A1 n1 c1] w fun e w' => e = .returned (.bool true) ∧ Below w.heap.size w w' := by
  obtain ⟨id, name, may, A, n, c, fst, rfl, _, hC0, _, _, _⟩ := hv
  have hC := Go.Lib.hid hC0
  have hO := Go.Lib.hid hO0.2.1
  clear hC0 hO0
  obtain rfl : fst.length = n := hC.out.1
  have HS := Go.Lib.hid (St.start w)
  by_cases h1 : (40 : Int) < (fst.length : Int)
  · have h1' : decide ((40 : Int) < (fst.length : Int)) = true := by simpa using h1
    clear hC hO h1
    go_enter Try.func10, Try.ntmps10
    go_wp2_with (first | ((with_reducible refine gate_dst (N := 2) rfl ?_); refine Sl.box_st HS.out (by rfl) (cs := #[.int .i64 id, .string name, .bool may, .slice A fst.length c]) (t := 63) ?hr ?_; (case hr => first | (go_simp; done) | (go_simp; rfl)); intro g2 w1_ HSn HBn; clear HBn; replace HS : Hid (St [SL.blk g2 63 #[.int .i64 id, .string name, .bool may, .slice A fst.length c]] w w1_) := Go.Lib.hid HSn; clear HSn; obtain ⟨c0_0, c0_1, c0_2, c0_3⟩ := HS.out.c4 0 _ _ _ _ _ _ rfl) | (go_at_call 38; refine (awake_st HS.out).mono ?_; rintro e w2_ ⟨rfl, HSn⟩; replace HS : Hid (St [SL.blk g2 63 #[.int .i64 id, .string name, .bool may, .slice A fst.length c]] w w2_) := Go.Lib.hid HSn; clear HSn; clear c0_0 c0_1 c0_2 c0_3; obtain ⟨c0_0, c0_1, c0_2, c0_3⟩ := HS.out.c4 0 _ _ _ _ _ _ rfl))
    go_ret
    exact ⟨rfl, HS.out.below⟩
  have h1' : decide ((40 : Int) < (fst.length : Int)) = false := by simpa using h1
  by_cases h2 : (100 : Int) < (n1 : Int)
  · have h2' : decide ((100 : Int) < (n1 : Int)) = true := by simpa using h2
    clear hC hO h2
    go_enter Try.func10, Try.ntmps10
    go_wp2_with (first | ((with_reducible refine gate_dst (N := 2) rfl ?_); refine Sl.box_st HS.out (by rfl) (cs := #[.int .i64 id, .string name, .bool may, .slice A fst.length c]) (t := 63) ?hr ?_; (case hr => first | (go_simp; done) | (go_simp; rfl)); intro g2 w1_ HSn HBn; clear HBn; replace HS : Hid (St [SL.blk g2 63 #[.int .i64 id, .string name, .bool may, .slice A fst.length c]] w w1_) := Go.Lib.hid HSn; clear HSn; obtain ⟨c0_0, c0_1, c0_2, c0_3⟩ := HS.out.c4 0 _ _ _ _ _ _ rfl) | (go_at_call 38; refine (awake_st HS.out).mono ?_; rintro e w2_ ⟨rfl, HSn⟩; replace HS : Hid (St [SL.blk g2 63 #[.int .i64 id, .string name, .bool may, .slice A fst.length c]] w w2_) := Go.Lib.hid HSn; clear HSn; clear c0_0 c0_1 c0_2 c0_3; obtain ⟨c0_0, c0_1, c0_2, c0_3⟩ := HS.out.c4 0 _ _ _ _ _ _ rfl))
    go_ret
    exact ⟨rfl, HS.out.below⟩
  have h2' : decide ((100 : Int) < (n1 : Int)) = false := by simpa using h2
  have hn : fst.length ≤ 40 := by omega
  have hn1 : n1 ≤ 100 := by omega
  clear h1 h2
  go_enter Try.func10, Try.ntmps10
  go_wp2_with (first | ((with_reducible refine gate_dst (N := 2) rfl ?_); refine Sl.box_st HS.out (by rfl) (cs := #[.int .i64 id, .string name, .bool may, .slice A fst.length c]) (t := 63) ?hr ?_; (case hr => first | (go_simp; done) | (go_simp; rfl)); intro g2 w1_ HSn HBn; clear HBn; replace HS : Hid (St [SL.blk g2 63 #[.int .i64 id, .string name, .bool may, .slice A fst.length c]] w w1_) := Go.Lib.hid HSn; clear HSn; obtain ⟨c0_0, c0_1, c0_2, c0_3⟩ := HS.out.c4 0 _ _ _ _ _ _ rfl) | (go_at_call 39; refine (new_hd HS.out A c (HS.out.C hC.out) (by omega)).mono ?_; rintro e w2_ ⟨g5, rfl, HSn⟩; replace HS : Hid (St [part g5 id name may fst (PS.init fst), SL.blk g2 63 #[.int .i64 id, .string name, .bool may, .slice A fst.length c]] w w2_) := Go.Lib.hid HSn; clear HSn; clear c0_0 c0_1 c0_2 c0_3; obtain ⟨c1_0, c1_1, c1_2, c1_3⟩ := HS.out.c4 1 _ _ _ _ _ _ rfl) | (go_at_call 45; refine (rnew21 HS.out hC.out (by omega)).mono ?_; rintro e w3_ ⟨A2, c2, rfl, HSn⟩; replace HS : Hid (St [SL.row (Kd.int .u32) 39 (.slice A2 ((PS.init fst)).now.length c2) ((PS.init fst)).now, part g5 id name may fst (PS.init fst), SL.blk g2 63 #[.int .i64 id, .string name, .bool may, .slice A fst.length c]] w w3_) := Go.Lib.hid HSn; clear HSn; clear c1_0 c1_1 c1_2 c1_3; obtain ⟨c2_0, c2_1, c2_2, c2_3⟩ := HS.out.c4 2 _ _ _ _ _ _ rfl) | ((with_reducible refine gate_dst (N := 6) rfl ?_); refine Sl.box_st HS.out (by rfl) (cs := #[.int .i64 0, .string ⟨#[]⟩, .bool false, .slice none 0 0, .int .i64 0, .int .i64 0, .int .i64 0, .slice none 0 0, .slice none 0 0, .int .i64 0]) (t := 76) ?hr ?_; (case hr => first | (go_simp; done) | (go_simp; rfl)); intro g6 w4_ HSn HBn; clear HBn; replace HS : Hid (St [SL.blk g6 76 #[.int .i64 0, .string ⟨#[]⟩, .bool false, .slice none 0 0, .int .i64 0, .int .i64 0, .int .i64 0, .slice none 0 0, .slice none 0 0, .int .i64 0], SL.row (Kd.int .u32) 39 (.slice A2 ((PS.init fst)).now.length c2) ((PS.init fst)).now, part g5 id name may fst (PS.init fst), SL.blk g2 63 #[.int .i64 id, .string name, .bool may, .slice A fst.length c]] w w4_) := Go.Lib.hid HSn; clear HSn; clear c2_0 c2_1 c2_2 c2_3; obtain ⟨c0_0, c0_1, c0_2, c0_3, c0_4, c0_5, c0_6, c0_7, c0_8, c0_9⟩ := HS.out.c10 0 _ _ _ _ _ _ _ _ _ _ _ _ rfl; obtain ⟨c3_0, c3_1, c3_2, c3_3⟩ := HS.out.c4 3 _ _ _ _ _ _ rfl) | ((with_reducible refine gate_store (p := 6) rfl ?_); refine Sl.storeAll_st HS.out 0 g6 76 _ rfl [.int .i64 id, .string name, .bool may, .slice A fst.length c, .int .i64 ((PS.init fst)).mode, .int .i64 ((PS.init fst)).starts, .int .i64 ((PS.init fst)).cause, .slice A fst.length c, .slice A2 ((PS.init fst)).now.length c2, .int .i64 ((PS.init fst)).wr] rfl (by rfl) (by rfl) ?hr ?_; (case hr => have f_ := HS.out.f10 0 _ _ _ _ _ _ _ _ _ _ _ _ rfl; (try obtain ⟨f0, f1, f2, f3, f4, f5, f6, f7, f8, f9⟩ := f_); first | (go_simp; done) | (go_simp; rfl)); intro w5_ HSn; replace HS : Hid (St [SL.blk g6 76 #[.int .i64 id, .string name, .bool may, .slice A fst.length c, .int .i64 ((PS.init fst)).mode, .int .i64 ((PS.init fst)).starts, .int .i64 ((PS.init fst)).cause, .slice A fst.length c, .slice A2 ((PS.init fst)).now.length c2, .int .i64 ((PS.init fst)).wr], SL.row (Kd.int .u32) 39 (.slice A2 ((PS.init fst)).now.length c2) ((PS.init fst)).now, part g5 id name may fst (PS.init fst), SL.blk g2 63 #[.int .i64 id, .string name, .bool may, .slice A fst.length c]] w w5_) := Go.Lib.hid HSn; clear HSn; clear c0_0 c0_1 c0_2 c0_3 c0_4 c0_5 c0_6 c0_7 c0_8 c0_9 c3_0 c3_1 c3_2 c3_3; obtain ⟨c0_0, c0_1, c0_2, c0_3, c0_4, c0_5, c0_6, c0_7, c0_8, c0_9⟩ := HS.out.c10 0 _ _ _ _ _ _ _ _ _ _ _ _ rfl; obtain ⟨c3_0, c3_1, c3_2, c3_3⟩ := HS.out.c4 3 _ _ _ _ _ _ rfl))
  go_loopw [30] (fun i wr => ∃ (k : Nat) (s : PS) (A2 : Option Addr) (c2 : Nat), k ≤ n1 ∧ i = .int .i64 k ∧ Inv fst s k ∧ St [SL.row (Kd.int .u32) 39 (.slice A2 (s).now.length c2) (s).now, part g5 id name may fst s, SL.blk g6 76 #[.int .i64 id, .string name, .bool may, .slice A fst.length c, .int .i64 (s).mode, .int .i64 (s).starts, .int .i64 (s).cause, .slice A fst.length c, .slice A2 (s).now.length c2, .int .i64 (s).wr], SL.blk g2 63 #[.int .i64 id, .string name, .bool may, .slice A fst.length c]] w wr) (fun i _ => n1 - (intOf i).toNat)
  case atStart => exact ⟨0, PS.init fst, _, _, Nat.zero_le _, rfl, Inv.init fst, HS.out.down⟩
  case round =>
    clear HS c0_0 c0_1 c0_2 c0_3 c0_4 c0_5 c0_6 c0_7 c0_8 c0_9 c3_0 c3_1 c3_2 c3_3
    obtain ⟨k, s, A2, c2, hk, rfl, hI, hS⟩ := hrel
    have HS := Go.Lib.hid hS
    have HI := Go.Lib.hid hI
    clear hS hI
    by_cases hlt : k < n1
    · obtain ⟨ad, rfl, gg0, gg1, gg2⟩ := at_T67 (HS.out.C hO.out) (k : Int) (by omega) (by omega)
      rw [Int.toNat_natCast] at gg0 gg1 gg2
      generalize rd_T67 ops (k : Int) = x at *
      obtain ⟨c2_0, c2_1, c2_2, c2_3, c2_4, c2_5, c2_6, c2_7, c2_8, c2_9⟩ := HS.out.c10 2 _ _ _ _ _ _ _ _ _ _ _ _ rfl
      obtain ⟨c3_0, c3_1, c3_2, c3_3⟩ := HS.out.c4 3 _ _ _ _ _ _ rfl
      go_wp2_with (first | ((with_reducible refine gate_dst (N := 8) rfl ?_); refine Sl.box_st HS.out (by rfl) (cs := #[.int .i64 0, .int .i64 0, .int .u32 0]) (t := 67) ?hr ?_; (case hr => first | (go_simp; done) | (go_simp; rfl)); intro g8 w31_ HSn HBn; clear HBn; replace HS : Hid (St [SL.blk g8 67 #[.int .i64 0, .int .i64 0, .int .u32 0], SL.row (Kd.int .u32) 39 (.slice A2 (s).now.length c2) (s).now, part g5 id name may fst s, SL.blk g6 76 #[.int .i64 id, .string name, .bool may, .slice A fst.length c, .int .i64 (s).mode, .int .i64 (s).starts, .int .i64 (s).cause, .slice A fst.length c, .slice A2 (s).now.length c2, .int .i64 (s).wr], SL.blk g2 63 #[.int .i64 id, .string name, .bool may, .slice A fst.length c]] w w31_) := Go.Lib.hid HSn; clear HSn; clear c2_0 c2_1 c2_2 c2_3 c2_4 c2_5 c2_6 c2_7 c2_8 c2_9 c3_0 c3_1 c3_2 c3_3; obtain ⟨c0_0, c0_1, c0_2⟩ := HS.out.c3 0 _ _ _ _ _ rfl; obtain ⟨c3_0, c3_1, c3_2, c3_3, c3_4, c3_5, c3_6, c3_7, c3_8, c3_9⟩ := HS.out.c10 3 _ _ _ _ _ _ _ _ _ _ _ _ rfl; obtain ⟨c4_0, c4_1, c4_2, c4_3⟩ := HS.out.c4 4 _ _ _ _ _ _ rfl) | ((with_reducible refine gate_store (p := 8) rfl ?_); refine Sl.storeAll_st HS.out 0 g8 67 _ rfl [.int .i64 x.f0, .int .i64 x.f1, .int .u32 x.f2] rfl (by rfl) (by rfl) ?hr ?_; (case hr => have f_ := HS.out.f3 0 _ _ _ _ _ rfl; (try obtain ⟨f0, f1, f2⟩ := f_); first | (go_simp; done) | (go_simp; rfl)); intro w32_ HSn; replace HS : Hid (St [SL.blk g8 67 #[.int .i64 x.f0, .int .i64 x.f1, .int .u32 x.f2], SL.row (Kd.int .u32) 39 (.slice A2 (s).now.length c2) (s).now, part g5 id name may fst s, SL.blk g6 76 #[.int .i64 id, .string name, .bool may, .slice A fst.length c, .int .i64 (s).mode, .int .i64 (s).starts, .int .i64 (s).cause, .slice A fst.length c, .slice A2 (s).now.length c2, .int .i64 (s).wr], SL.blk g2 63 #[.int .i64 id, .string name, .bool may, .slice A fst.length c]] w w32_) := Go.Lib.hid HSn; clear HSn; clear c0_0 c0_1 c0_2 c3_0 c3_1 c3_2 c3_3 c3_4 c3_5 c3_6 c3_7 c3_8 c3_9 c4_0 c4_1 c4_2 c4_3; obtain ⟨c0_0, c0_1, c0_2⟩ := HS.out.c3 0 _ _ _ _ _ rfl; obtain ⟨c3_0, c3_1, c3_2, c3_3, c3_4, c3_5, c3_6, c3_7, c3_8, c3_9⟩ := HS.out.c10 3 _ _ _ _ _ _ _ _ _ _ _ _ rfl; obtain ⟨c4_0, c4_1, c4_2, c4_3⟩ := HS.out.c4 4 _ _ _ _ _ _ rfl) | (go_at_call 46; refine (one_calls ((HS.out.front 2 _ rfl).front 2 _ rfl) x hC.out HI.out.len HI.out.s0 (by have := HI.out.s1; omega) (by omega) HI.out.m0 HI.out.m1 HI.out.q0 (by have := HI.out.q1; omega)).mono ?_; rintro e w33_ ⟨A3, c3, rfl, HSn⟩; replace HS : Hid (St [SL.row (Kd.int .u32) 39 (.slice A3 ((stepP fst s x)).now.length c3) ((stepP fst s x)).now, part g5 id name may fst (stepP fst s x), SL.blk g8 67 #[.int .i64 x.f0, .int .i64 x.f1, .int .u32 x.f2], SL.blk g6 76 #[.int .i64 id, .string name, .bool may, .slice A fst.length c, .int .i64 (s).mode, .int .i64 (s).starts, .int .i64 (s).cause, .slice A fst.length c, .slice A2 (s).now.length c2, .int .i64 (s).wr], SL.blk g2 63 #[.int .i64 id, .string name, .bool may, .slice A fst.length c]] w w33_) := Go.Lib.hid HSn; clear HSn; clear c0_0 c0_1 c0_2 c3_0 c3_1 c3_2 c3_3 c3_4 c3_5 c3_6 c3_7 c3_8 c3_9 c4_0 c4_1 c4_2 c4_3; obtain ⟨c2_0, c2_1, c2_2⟩ := HS.out.c3 2 _ _ _ _ _ rfl; obtain ⟨c3_0, c3_1, c3_2, c3_3, c3_4, c3_5, c3_6, c3_7, c3_8, c3_9⟩ := HS.out.c10 3 _ _ _ _ _ _ _ _ _ _ _ _ rfl; obtain ⟨c4_0, c4_1, c4_2, c4_3⟩ := HS.out.c4 4 _ _ _ _ _ _ rfl) | ((with_reducible refine gate_dst (N := 9) rfl ?_); refine Sl.box_st HS.out (by rfl) (cs := #[.int .i64 0, .string ⟨#[]⟩, .bool false, .slice none 0 0, .int .i64 0, .int .i64 0, .int .i64 0, .slice none 0 0, .slice none 0 0, .int .i64 0]) (t := 76) ?hr ?_; (case hr => first | (go_simp; done) | (go_simp; rfl)); intro g9 w34_ HSn HBn; clear HBn; replace HS : Hid (St [SL.blk g9 76 #[.int .i64 0, .string ⟨#[]⟩, .bool false, .slice none 0 0, .int .i64 0, .int .i64 0, .int .i64 0, .slice none 0 0, .slice none 0 0, .int .i64 0], SL.row (Kd.int .u32) 39 (.slice A3 ((stepP fst s x)).now.length c3) ((stepP fst s x)).now, part g5 id name may fst (stepP fst s x), SL.blk g8 67 #[.int .i64 x.f0, .int .i64 x.f1, .int .u32 x.f2], SL.blk g6 76 #[.int .i64 id, .string name, .bool may, .slice A fst.length c, .int .i64 (s).mode, .int .i64 (s).starts, .int .i64 (s).cause, .slice A fst.length c, .slice A2 (s).now.length c2, .int .i64 (s).wr], SL.blk g2 63 #[.int .i64 id, .string name, .bool may, .slice A fst.length c]] w w34_) := Go.Lib.hid HSn; clear HSn; clear c2_0 c2_1 c2_2 c3_0 c3_1 c3_2 c3_3 c3_4 c3_5 c3_6 c3_7 c3_8 c3_9 c4_0 c4_1 c4_2 c4_3; obtain ⟨c0_0, c0_1, c0_2, c0_3, c0_4, c0_5, c0_6, c0_7, c0_8, c0_9⟩ := HS.out.c10 0 _ _ _ _ _ _ _ _ _ _ _ _ rfl; obtain ⟨c3_0, c3_1, c3_2⟩ := HS.out.c3 3 _ _ _ _ _ rfl; obtain ⟨c4_0, c4_1, c4_2, c4_3, c4_4, c4_5, c4_6, c4_7, c4_8, c4_9⟩ := HS.out.c10 4 _ _ _ _ _ _ _ _ _ _ _ _ rfl; obtain ⟨c5_0, c5_1, c5_2, c5_3⟩ := HS.out.c4 5 _ _ _ _ _ _ rfl) | ((with_reducible refine gate_store (p := 9) rfl ?_); refine Sl.storeAll_st HS.out 0 g9 76 _ rfl [.int .i64 id, .string name, .bool may, .slice A fst.length c, .int .i64 ((stepP fst s x)).mode, .int .i64 ((stepP fst s x)).starts, .int .i64 ((stepP fst s x)).cause, .slice A fst.length c, .slice A3 ((stepP fst s x)).now.length c3, .int .i64 ((stepP fst s x)).wr] rfl (by rfl) (by rfl) ?hr ?_; (case hr => have f_ := HS.out.f10 0 _ _ _ _ _ _ _ _ _ _ _ _ rfl; (try obtain ⟨f0, f1, f2, f3, f4, f5, f6, f7, f8, f9⟩ := f_); first | (go_simp; done) | (go_simp; rfl)); intro w35_ HSn; replace HS : Hid (St [SL.blk g9 76 #[.int .i64 id, .string name, .bool may, .slice A fst.length c, .int .i64 ((stepP fst s x)).mode, .int .i64 ((stepP fst s x)).starts, .int .i64 ((stepP fst s x)).cause, .slice A fst.length c, .slice A3 ((stepP fst s x)).now.length c3, .int .i64 ((stepP fst s x)).wr], SL.row (Kd.int .u32) 39 (.slice A3 ((stepP fst s x)).now.length c3) ((stepP fst s x)).now, part g5 id name may fst (stepP fst s x), SL.blk g8 67 #[.int .i64 x.f0, .int .i64 x.f1, .int .u32 x.f2], SL.blk g6 76 #[.int .i64 id, .string name, .bool may, .slice A fst.length c, .int .i64 (s).mode, .int .i64 (s).starts, .int .i64 (s).cause, .slice A fst.length c, .slice A2 (s).now.length c2, .int .i64 (s).wr], SL.blk g2 63 #[.int .i64 id, .string name, .bool may, .slice A fst.length c]] w w35_) := Go.Lib.hid HSn; clear HSn; clear c0_0 c0_1 c0_2 c0_3 c0_4 c0_5 c0_6 c0_7 c0_8 c0_9 c3_0 c3_1 c3_2 c4_0 c4_1 c4_2 c4_3 c4_4 c4_5 c4_6 c4_7 c4_8 c4_9 c5_0 c5_1 c5_2 c5_3; obtain ⟨c0_0, c0_1, c0_2, c0_3, c0_4, c0_5, c0_6, c0_7, c0_8, c0_9⟩ := HS.out.c10 0 _ _ _ _ _ _ _ _ _ _ _ _ rfl; obtain ⟨c3_0, c3_1, c3_2⟩ := HS.out.c3 3 _ _ _ _ _ rfl; obtain ⟨c4_0, c4_1, c4_2, c4_3, c4_4, c4_5, c4_6, c4_7, c4_8, c4_9⟩ := HS.out.c10 4 _ _ _ _ _ _ _ _ _ _ _ _ rfl; obtain ⟨c5_0, c5_1, c5_2, c5_3⟩ := HS.out.c4 5 _ _ _ _ _ _ rfl) | ((with_reducible refine gate_store (p := 6) rfl ?_); refine Sl.storeAll_st HS.out 4 g6 76 _ rfl [.int .i64 id, .string name, .bool may, .slice A fst.length c, .int .i64 ((stepP fst s x)).mode, .int .i64 ((stepP fst s x)).starts, .int .i64 ((stepP fst s x)).cause, .slice A fst.length c, .slice A3 ((stepP fst s x)).now.length c3, .int .i64 ((stepP fst s x)).wr] rfl (by rfl) (by rfl) ?hr ?_; (case hr => have f_ := HS.out.f10 4 _ _ _ _ _ _ _ _ _ _ _ _ rfl; (try obtain ⟨f0, f1, f2, f3, f4, f5, f6, f7, f8, f9⟩ := f_); first | (go_simp; done) | (go_simp; rfl)); intro w36_ HSn; replace HS : Hid (St [SL.blk g9 76 #[.int .i64 id, .string name, .bool may, .slice A fst.length c, .int .i64 ((stepP fst s x)).mode, .int .i64 ((stepP fst s x)).starts, .int .i64 ((stepP fst s x)).cause, .slice A fst.length c, .slice A3 ((stepP fst s x)).now.length c3, .int .i64 ((stepP fst s x)).wr], SL.row (Kd.int .u32) 39 (.slice A3 ((stepP fst s x)).now.length c3) ((stepP fst s x)).now, part g5 id name may fst (stepP fst s x), SL.blk g8 67 #[.int .i64 x.f0, .int .i64 x.f1, .int .u32 x.f2], SL.blk g6 76 #[.int .i64 id, .string name, .bool may, .slice A fst.length c, .int .i64 ((stepP fst s x)).mode, .int .i64 ((stepP fst s x)).starts, .int .i64 ((stepP fst s x)).cause, .slice A fst.length c, .slice A3 ((stepP fst s x)).now.length c3, .int .i64 ((stepP fst s x)).wr], SL.blk g2 63 #[.int .i64 id, .string name, .bool may, .slice A fst.length c]] w w36_) := Go.Lib.hid HSn; clear HSn; clear c0_0 c0_1 c0_2 c0_3 c0_4 c0_5 c0_6 c0_7 c0_8 c0_9 c3_0 c3_1 c3_2 c4_0 c4_1 c4_2 c4_3 c4_4 c4_5 c4_6 c4_7 c4_8 c4_9 c5_0 c5_1 c5_2 c5_3; obtain ⟨c0_0, c0_1, c0_2, c0_3, c0_4, c0_5, c0_6, c0_7, c0_8, c0_9⟩ := HS.out.c10 0 _ _ _ _ _ _ _ _ _ _ _ _ rfl; obtain ⟨c3_0, c3_1, c3_2⟩ := HS.out.c3 3 _ _ _ _ _ rfl; obtain ⟨c4_0, c4_1, c4_2, c4_3, c4_4, c4_5, c4_6, c4_7, c4_8, c4_9⟩ := HS.out.c10 4 _ _ _ _ _ _ _ _ _ _ _ _ rfl; obtain ⟨c5_0, c5_1, c5_2, c5_3⟩ := HS.out.c4 5 _ _ _ _ _ _ rfl))
      have HI2 := Go.Lib.hid (HI.out.step x)
      clear c0_0 c0_1 c0_2 c0_3 c0_4 c0_5 c0_6 c0_7 c0_8 c0_9 c3_0 c3_1 c3_2 c4_0 c4_1 c4_2 c4_3 c4_4 c4_5 c4_6 c4_7 c4_8 c4_9 c5_0 c5_1 c5_2 c5_3
      replace HS := Go.Lib.hid HS.out.drew
      refine start_ (n := 57) (S := fun w' => w'.cell? ⟨g6, 0, none⟩ = some (.int .i64 id) ∧ w'.cell? ⟨g6, 1, none⟩ = some (.string name) ∧ w'.cell? ⟨g6, 2, none⟩ = some (.bool may) ∧ w'.cell? ⟨g6, 3, none⟩ = some (.slice A fst.length c) ∧ w'.cell? ⟨g6, 4, none⟩ = some (.int .i64 ((stepP fst s x)).mode) ∧ w'.cell? ⟨g6, 5, none⟩ = some (.int .i64 ((stepP fst s x)).starts) ∧ w'.cell? ⟨g6, 6, none⟩ = some (.int .i64 ((stepP fst s x)).cause) ∧ w'.cell? ⟨g6, 7, none⟩ = some (.slice A fst.length c) ∧ w'.cell? ⟨g6, 8, none⟩ = some (.slice A3 ((stepP fst s x)).now.length c3) ∧ w'.cell? ⟨g6, 9, none⟩ = some (.int .i64 ((stepP fst s x)).wr) ∧ w'.cell? ⟨g2, 0, none⟩ = some (.int .i64 id) ∧ w'.cell? ⟨g2, 1, none⟩ = some (.string name) ∧ w'.cell? ⟨g2, 2, none⟩ = some (.bool may)) (ds := []) #[false, false, false, false, false, false, false, false, false, false, false, false, false, false, false, false, false, false, false, false, false, false, false, false, false, false, false, false, false, false, false, false, false, false, false, false, false, false, false, false, false, false, false, false, false, false, false, false, false, false, false, false, false, false, false, false, false] (by kernel_rfl) rfl rfl ⟨HS.out.cell 4 _ _ _ rfl 0, HS.out.cell 4 _ _ _ rfl 1, HS.out.cell 4 _ _ _ rfl 2, HS.out.cell 4 _ _ _ rfl 3, HS.out.cell 4 _ _ _ rfl 4, HS.out.cell 4 _ _ _ rfl 5, HS.out.cell 4 _ _ _ rfl 6, HS.out.cell 4 _ _ _ rfl 7, HS.out.cell 4 _ _ _ rfl 8, HS.out.cell 4 _ _ _ rfl 9, HS.out.cell 5 _ _ _ rfl 0, HS.out.cell 5 _ _ _ rfl 1, HS.out.cell 5 _ _ _ rfl 2⟩ (fun hHeld => ?_)
      generalize w36_.drew = W_ at *
      refine pure_ (i := 0) (N := some 42) (v := ?_) (a' := ?_) #[true, false, false, false, false, false, false, false, false, false, false, false, false, false, false, false, false, false, false, false, false, false, false, false, false, false, false, false, false, false, false, false, false, false, false, false, false, false, false, false, false, false, false, false, false, false, false, false, false, false, false, false, false, false, false, false, false] rfl rfl (by kernel_rfl) (fun _ _ _ h => h) (Or.inl ⟨by rfl, ?_⟩) ?_ ?_
      rotate_left
      · intro w'
        go_simp
        with_reducible rfl
      rotate_left
      · simp only [Act.put, List.setIfInBounds_toArray, List.set_cons_zero, List.set_cons_succ, i64_w, i32_w]
        rfl
      refine pure_ (i := 1) (N := some 43) (v := ?_) (a' := ?_) #[true, true, false, false, false, false, false, false, false, false, false, false, false, false, false, false, false, false, false, false, false, false, false, false, false, false, false, false, false, false, false, false, false, false, false, false, false, false, false, false, false, false, false, false, false, false, false, false, false, false, false, false, false, false, false, false, false] rfl rfl (by kernel_rfl) (fun _ _ _ h => h) (Or.inl ⟨by rfl, ?_⟩) ?_ ?_
      rotate_left
      · intro w'
        go_simp
        with_reducible rfl
      rotate_left
      · simp only [Act.put, List.setIfInBounds_toArray, List.set_cons_zero, List.set_cons_succ, i64_w, i32_w]
        rfl
      refine pure_ (i := 2) (N := some 44) (v := ?_) (a' := ?_) #[true, true, true, false, false, false, false, false, false, false, false, false, false, false, false, false, false, false, false, false, false, false, false, false, false, false, false, false, false, false, false, false, false, false, false, false, false, false, false, false, false, false, false, false, false, false, false, false, false, false, false, false, false, false, false, false, false] rfl rfl (by kernel_rfl) (fun _ _ _ h => h) (Or.inl ⟨by rfl, ?_⟩) ?_ ?_
      rotate_left
      · intro w'
        go_simp
        with_reducible rfl
      rotate_left
      · simp only [Act.put, List.setIfInBounds_toArray, List.set_cons_zero, List.set_cons_succ, i64_w, i32_w]
        rfl
      refine pure_ (i := 3) (N := some 45) (v := ?_) (a' := ?_) #[true, true, true, true, false, false, false, false, false, false, false, false, false, false, false, false, false, false, false, false, false, false, false, false, false, false, false, false, false, false, false, false, false, false, false, false, false, false, false, false, false, false, false, false, false, false, false, false, false, false, false, false, false, false, false, false, false] rfl rfl (by kernel_rfl) (fun _ _ _ h => h) (Or.inl ⟨by rfl, ?_⟩) ?_ ?_
      rotate_left
      · intro w'
        go_simp
        with_reducible rfl
      rotate_left
      · simp only [Act.put, List.setIfInBounds_toArray, List.set_cons_zero, List.set_cons_succ, i64_w, i32_w]
        rfl
      refine take_ (i := 5) (N := some 47) (v := ?_) (a' := ?_) #[true, true, true, true, false, true, false, false, false, false, false, false, false, false, false, false, false, false, false, false, false, false, false, false, false, false, false, false, false, false, false, false, false, false, false, false, false, false, false, false, false, false, false, false, false, false, false, false, false, false, false, false, false, false, false, false, false] rfl rfl (by kernel_rfl) (fun _ _ _ h => h) (Or.inl ⟨by rfl, ?_⟩) hHeld ?_ ?_
      rotate_left
      · rintro w' ⟨s0_, s1_, s2_, s3_, s4_, s5_, s6_, s7_, s8_, s9_, s10_, s11_, s12_⟩
        go_simp
        with_reducible rfl
      rotate_left
      · simp only [Act.put, List.setIfInBounds_toArray, List.set_cons_zero, List.set_cons_succ, i64_w, i32_w]
        rfl
      refine one_ (i := 4) (N := some 46) #[true, true, true, true, true, true, false, false, false, false, false, false, false, false, false, false, false, false, false, false, false, false, false, false, false, false, false, false, false, false, false, false, false, false, false, false, false, false, false, false, false, false, false, false, false, false, false, false, false, false, false, false, false, false, false, false, false] rfl rfl (by kernel_rfl) (by decide) (fun K hK => ?_)
      refine goes_ Try.func47 (by kernel_rfl) rfl #[.pointer (some ⟨g5, 0, none⟩)] (by rfl) rfl rfl (by (try simp only [List.map_toArray, List.map_cons, List.map_nil]); first | done | rfl) ?_
      refine (shot_at HS.out 2 rfl (by rw [HI2.out.len]; omega)).mono ?_
      rintro e w91 ⟨A9, c9, rfl, hS91⟩
      have HS91 := Go.Lib.hid hS91
      clear hS91
      refine ⟨_, rfl, ?_⟩
      refine hK.out _ _ ⟨HS91.out.cell 5 _ _ _ rfl 0, HS91.out.cell 5 _ _ _ rfl 1, HS91.out.cell 5 _ _ _ rfl 2, HS91.out.cell 5 _ _ _ rfl 3, HS91.out.cell 5 _ _ _ rfl 4, HS91.out.cell 5 _ _ _ rfl 5, HS91.out.cell 5 _ _ _ rfl 6, HS91.out.cell 5 _ _ _ rfl 7, HS91.out.cell 5 _ _ _ rfl 8, HS91.out.cell 5 _ _ _ rfl 9, HS91.out.cell 6 _ _ _ rfl 0, HS91.out.cell 6 _ _ _ rfl 1, HS91.out.cell 6 _ _ _ rfl 2⟩ (fun hHeld => ?_)
      clear hK K
      refine norm_ (a' := ?_) ?_ ?_
      rotate_left
      · show Act.put _ (some 46) _ = _
        simp only [Act.put, List.setIfInBounds_toArray, List.set_cons_zero, List.set_cons_succ, i64_w, i32_w]
        rfl
      refine one_ (i := 6) (N := some 48) #[true, true, true, true, true, true, true, false, false, false, false, false, false, false, false, false, false, false, false, false, false, false, false, false, false, false, false, false, false, false, false, false, false, false, false, false, false, false, false, false, false, false, false, false, false, false, false, false, false, false, false, false, false, false, false, false, false] rfl rfl (by kernel_rfl) (by decide) (fun K hK => ?_)
      refine goes_ Try.func49 (by kernel_rfl) rfl #[.agg #[.int .i64 id, .int .i64 ((stepP fst s x)).mode, .int .i64 ((stepP fst s x)).starts, .int .i64 ((stepP fst s x)).cause, .slice A9 ((stepP fst s x)).now.length c9], .agg #[.int .i64 id, .string name, .bool may, .slice A fst.length c, .int .i64 ((stepP fst s x)).mode, .int .i64 ((stepP fst s x)).starts, .int .i64 ((stepP fst s x)).cause, .slice A fst.length c, .slice A3 ((stepP fst s x)).now.length c3, .int .i64 ((stepP fst s x)).wr]] (by rfl) rfl rfl (by (try simp only [List.map_toArray, List.map_cons, List.map_nil]); first | done | rfl) ?_
      refine (unlike_eq ((HS91.out.front 2 _ rfl).front 1 _ rfl) (by rw [HI2.out.len]; omega)).mono ?_
      rintro e w92 ⟨rfl, hS92⟩
      have HS92 := Go.Lib.hid hS92
      clear hS92
      refine ⟨_, rfl, ?_⟩
      refine hK.out _ _ ⟨HS92.out.cell 5 _ _ _ rfl 0, HS92.out.cell 5 _ _ _ rfl 1, HS92.out.cell 5 _ _ _ rfl 2, HS92.out.cell 5 _ _ _ rfl 3, HS92.out.cell 5 _ _ _ rfl 4, HS92.out.cell 5 _ _ _ rfl 5, HS92.out.cell 5 _ _ _ rfl 6, HS92.out.cell 5 _ _ _ rfl 7, HS92.out.cell 5 _ _ _ rfl 8, HS92.out.cell 5 _ _ _ rfl 9, HS92.out.cell 6 _ _ _ rfl 0, HS92.out.cell 6 _ _ _ rfl 1, HS92.out.cell 6 _ _ _ rfl 2⟩ (fun hHeld => ?_)
      clear hK K
      refine norm_ (a' := ?_) ?_ ?_
      rotate_left
      · show Act.put _ (some 48) _ = _
        simp only [Act.put, List.setIfInBounds_toArray, List.set_cons_zero, List.set_cons_succ, i64_w, i32_w]
        rfl
      refine pure_ (i := 7) (N := some 49) (v := ?_) (a' := ?_) #[true, true, true, true, true, true, true, true, false, false, false, false, false, false, false, false, false, false, false, false, false, false, false, false, false, false, false, false, false, false, false, false, false, false, false, false, false, false, false, false, false, false, false, false, false, false, false, false, false, false, false, false, false, false, false, false, false] rfl rfl (by kernel_rfl) (fun _ _ _ h => h) (Or.inl ⟨by rfl, ?_⟩) ?_ ?_
      rotate_left
      · intro w'
        go_simp
        with_reducible rfl
      rotate_left
      · simp only [Act.put, List.setIfInBounds_toArray, List.set_cons_zero, List.set_cons_succ, i64_w, i32_w]
        rfl
      refine pure_ (i := 8) (N := some 50) (v := ?_) (a' := ?_) #[true, true, true, true, true, true, true, true, true, false, false, false, false, false, false, false, false, false, false, false, false, false, false, false, false, false, false, false, false, false, false, false, false, false, false, false, false, false, false, false, false, false, false, false, false, false, false, false, false, false, false, false, false, false, false, false, false] rfl rfl (by kernel_rfl) (fun _ _ _ h => h) (Or.inl ⟨by rfl, ?_⟩) ?_ ?_
      rotate_left
      · intro w'
        go_simp
        with_reducible rfl
      rotate_left
      · simp only [Act.put, List.setIfInBounds_toArray, List.set_cons_zero, List.set_cons_succ, i64_w, i32_w]
        rfl
      refine pure_ (i := 9) (N := some 51) (v := ?_) (a' := ?_) #[true, true, true, true, true, true, true, true, true, true, false, false, false, false, false, false, false, false, false, false, false, false, false, false, false, false, false, false, false, false, false, false, false, false, false, false, false, false, false, false, false, false, false, false, false, false, false, false, false, false, false, false, false, false, false, false, false] rfl rfl (by kernel_rfl) (fun _ _ _ h => h) (Or.inl ⟨by rfl, ?_⟩) ?_ ?_
      rotate_left
      · intro w'
        go_simp
        with_reducible rfl
      rotate_left
      · simp only [Act.put, List.setIfInBounds_toArray, List.set_cons_zero, List.set_cons_succ, i64_w, i32_w]
        rfl
      refine pure_ (i := 10) (N := some 52) (v := ?_) (a' := ?_) #[true, true, true, true, true, true, true, true, true, true, true, false, false, false, false, false, false, false, false, false, false, false, false, false, false, false, false, false, false, false, false, false, false, false, false, false, false, false, false, false, false, false, false, false, false, false, false, false, false, false, false, false, false, false, false, false, false] rfl rfl (by kernel_rfl) (fun _ _ _ h => h) (Or.inl ⟨by rfl, ?_⟩) ?_ ?_
      rotate_left
      · intro w'
        go_simp
        with_reducible rfl
      rotate_left
      · simp only [Act.put, List.setIfInBounds_toArray, List.set_cons_zero, List.set_cons_succ, i64_w, i32_w]
        rfl
      refine pure_ (i := 12) (N := some 54) (v := ?_) (a' := ?_) #[true, true, true, true, true, true, true, true, true, true, true, false, true, false, false, false, false, false, false, false, false, false, false, false, false, false, false, false, false, false, false, false, false, false, false, false, false, false, false, false, false, false, false, false, false, false, false, false, false, false, false, false, false, false, false, false, false] rfl rfl (by kernel_rfl) (fun _ _ _ h => h) (Or.inl ⟨by rfl, ?_⟩) ?_ ?_
      rotate_left
      · intro w'
        go_simp
        with_reducible rfl
      rotate_left
      · simp only [Act.put, List.setIfInBounds_toArray, List.set_cons_zero, List.set_cons_succ, i64_w, i32_w]
        rfl
      refine take_ (i := 13) (N := some 55) (v := ?_) (a' := ?_) #[true, true, true, true, true, true, true, true, true, true, true, false, true, true, false, false, false, false, false, false, false, false, false, false, false, false, false, false, false, false, false, false, false, false, false, false, false, false, false, false, false, false, false, false, false, false, false, false, false, false, false, false, false, false, false, false, false] rfl rfl (by kernel_rfl) (fun _ _ _ h => h) (Or.inl ⟨by rfl, ?_⟩) hHeld ?_ ?_
      rotate_left
      · rintro w' ⟨s0_, s1_, s2_, s3_, s4_, s5_, s6_, s7_, s8_, s9_, s10_, s11_, s12_⟩
        go_simp
        with_reducible rfl
      rotate_left
      · simp only [Act.put, List.setIfInBounds_toArray, List.set_cons_zero, List.set_cons_succ, i64_w, i32_w]
        rfl
      refine one_ (i := 11) (N := some 53) #[true, true, true, true, true, true, true, true, true, true, true, true, true, true, false, false, false, false, false, false, false, false, false, false, false, false, false, false, false, false, false, false, false, false, false, false, false, false, false, false, false, false, false, false, false, false, false, false, false, false, false, false, false, false, false, false, false] rfl rfl (by kernel_rfl) (by decide) (fun K hK => ?_)
      refine goes_ Try.func50 (by kernel_rfl) rfl #[.pointer (some ⟨g5, 0, none⟩)] (by rfl) rfl rfl (by (try simp only [List.map_toArray, List.map_cons, List.map_nil]); first | done | rfl) ?_
      refine (id_st HS92.out 3 rfl).mono ?_
      rintro e w' ⟨rfl, rfl⟩
      refine ⟨_, rfl, ?_⟩
      refine hK.out _ _ ⟨HS92.out.cell 5 _ _ _ rfl 0, HS92.out.cell 5 _ _ _ rfl 1, HS92.out.cell 5 _ _ _ rfl 2, HS92.out.cell 5 _ _ _ rfl 3, HS92.out.cell 5 _ _ _ rfl 4, HS92.out.cell 5 _ _ _ rfl 5, HS92.out.cell 5 _ _ _ rfl 6, HS92.out.cell 5 _ _ _ rfl 7, HS92.out.cell 5 _ _ _ rfl 8, HS92.out.cell 5 _ _ _ rfl 9, HS92.out.cell 6 _ _ _ rfl 0, HS92.out.cell 6 _ _ _ rfl 1, HS92.out.cell 6 _ _ _ rfl 2⟩ (fun hHeld => ?_)
      clear hK K
      refine norm_ (a' := ?_) ?_ ?_
      rotate_left
      · show Act.put _ (some 53) _ = _
        simp only [Act.put, List.setIfInBounds_toArray, List.set_cons_zero, List.set_cons_succ, i64_w, i32_w]
        rfl
      refine pure_ (i := 14) (N := some 56) (v := ?_) (a' := ?_) #[true, true, true, true, true, true, true, true, true, true, true, true, true, true, true, false, false, false, false, false, false, false, false, false, false, false, false, false, false, false, false, false, false, false, false, false, false, false, false, false, false, false, false, false, false, false, false, false, false, false, false, false, false, false, false, false, false] rfl rfl (by kernel_rfl) (fun _ _ _ h => h) (Or.inl ⟨by rfl, ?_⟩) ?_ ?_
      rotate_left
      · intro w'
        go_simp
        with_reducible rfl
      rotate_left
      · simp only [Act.put, List.setIfInBounds_toArray, List.set_cons_zero, List.set_cons_succ, i64_w, i32_w]
        rfl
      refine pure_ (i := 15) (N := some 57) (v := ?_) (a' := ?_) #[true, true, true, true, true, true, true, true, true, true, true, true, true, true, true, true, false, false, false, false, false, false, false, false, false, false, false, false, false, false, false, false, false, false, false, false, false, false, false, false, false, false, false, false, false, false, false, false, false, false, false, false, false, false, false, false, false] rfl rfl (by kernel_rfl) (fun _ _ _ h => h) (Or.inl ⟨by rfl, ?_⟩) ?_ ?_
      rotate_left
      · intro w'
        go_simp
        with_reducible rfl
      rotate_left
      · simp only [Act.put, List.setIfInBounds_toArray, List.set_cons_zero, List.set_cons_succ, i64_w, i32_w]
        rfl
      refine pure_ (i := 16) (N := some 58) (v := ?_) (a' := ?_) #[true, true, true, true, true, true, true, true, true, true, true, true, true, true, true, true, true, false, false, false, false, false, false, false, false, false, false, false, false, false, false, false, false, false, false, false, false, false, false, false, false, false, false, false, false, false, false, false, false, false, false, false, false, false, false, false, false] rfl rfl (by kernel_rfl) (fun _ _ _ h => h) (Or.inl ⟨by rfl, ?_⟩) ?_ ?_
      rotate_left
      · intro w'
        go_simp
        with_reducible rfl
      rotate_left
      · simp only [Act.put, List.setIfInBounds_toArray, List.set_cons_zero, List.set_cons_succ, i64_w, i32_w]
        rfl
      refine pure_ (i := 17) (N := some 59) (v := ?_) (a' := ?_) #[true, true, true, true, true, true, true, true, true, true, true, true, true, true, true, true, true, true, false, false, false, false, false, false, false, false, false, false, false, false, false, false, false, false, false, false, false, false, false, false, false, false, false, false, false, false, false, false, false, false, false, false, false, false, false, false, false] rfl rfl (by kernel_rfl) (fun _ _ _ h => h) (Or.inl ⟨by rfl, ?_⟩) ?_ ?_
      rotate_left
      · intro w'
        go_simp
        with_reducible rfl
      rotate_left
      · simp only [Act.put, List.setIfInBounds_toArray, List.set_cons_zero, List.set_cons_succ, i64_w, i32_w]
        rfl
      refine pure_ (i := 19) (N := some 61) (v := ?_) (a' := ?_) #[true, true, true, true, true, true, true, true, true, true, true, true, true, true, true, true, true, true, false, true, false, false, false, false, false, false, false, false, false, false, false, false, false, false, false, false, false, false, false, false, false, false, false, false, false, false, false, false, false, false, false, false, false, false, false, false, false] rfl rfl (by kernel_rfl) (fun _ _ _ h => h) (Or.inl ⟨by rfl, ?_⟩) ?_ ?_
      rotate_left
      · intro w'
        go_simp
        with_reducible rfl
      rotate_left
      · simp only [Act.put, List.setIfInBounds_toArray, List.set_cons_zero, List.set_cons_succ, i64_w, i32_w]
        rfl
      refine take_ (i := 20) (N := some 62) (v := ?_) (a' := ?_) #[true, true, true, true, true, true, true, true, true, true, true, true, true, true, true, true, true, true, false, true, true, false, false, false, false, false, false, false, false, false, false, false, false, false, false, false, false, false, false, false, false, false, false, false, false, false, false, false, false, false, false, false, false, false, false, false, false] rfl rfl (by kernel_rfl) (fun _ _ _ h => h) (Or.inl ⟨by rfl, ?_⟩) hHeld ?_ ?_
      rotate_left
      · rintro w' ⟨s0_, s1_, s2_, s3_, s4_, s5_, s6_, s7_, s8_, s9_, s10_, s11_, s12_⟩
        go_simp
        with_reducible rfl
      rotate_left
      · simp only [Act.put, List.setIfInBounds_toArray, List.set_cons_zero, List.set_cons_succ, i64_w, i32_w]
        rfl
      refine one_ (i := 18) (N := some 60) #[true, true, true, true, true, true, true, true, true, true, true, true, true, true, true, true, true, true, true, true, true, false, false, false, false, false, false, false, false, false, false, false, false, false, false, false, false, false, false, false, false, false, false, false, false, false, false, false, false, false, false, false, false, false, false, false, false] rfl rfl (by kernel_rfl) (by decide) (fun K hK => ?_)
      refine goes_ Try.func51 (by kernel_rfl) rfl #[.pointer (some ⟨g5, 0, none⟩)] (by rfl) rfl rfl (by (try simp only [List.map_toArray, List.map_cons, List.map_nil]); first | done | rfl) ?_
      refine (name_st HS92.out 3 rfl).mono ?_
      rintro e w' ⟨rfl, rfl⟩
      refine ⟨_, rfl, ?_⟩
      refine hK.out _ _ ⟨HS92.out.cell 5 _ _ _ rfl 0, HS92.out.cell 5 _ _ _ rfl 1, HS92.out.cell 5 _ _ _ rfl 2, HS92.out.cell 5 _ _ _ rfl 3, HS92.out.cell 5 _ _ _ rfl 4, HS92.out.cell 5 _ _ _ rfl 5, HS92.out.cell 5 _ _ _ rfl 6, HS92.out.cell 5 _ _ _ rfl 7, HS92.out.cell 5 _ _ _ rfl 8, HS92.out.cell 5 _ _ _ rfl 9, HS92.out.cell 6 _ _ _ rfl 0, HS92.out.cell 6 _ _ _ rfl 1, HS92.out.cell 6 _ _ _ rfl 2⟩ (fun hHeld => ?_)
      clear hK K
      refine norm_ (a' := ?_) ?_ ?_
      rotate_left
      · show Act.put _ (some 60) _ = _
        simp only [Act.put, List.setIfInBounds_toArray, List.set_cons_zero, List.set_cons_succ, i64_w, i32_w]
        rfl
      refine pure_ (i := 21) (N := some 63) (v := ?_) (a' := ?_) #[true, true, true, true, true, true, true, true, true, true, true, true, true, true, true, true, true, true, true, true, true, true, false, false, false, false, false, false, false, false, false, false, false, false, false, false, false, false, false, false, false, false, false, false, false, false, false, false, false, false, false, false, false, false, false, false, false] rfl rfl (by kernel_rfl) (fun _ _ _ h => h) (Or.inl ⟨by rfl, ?_⟩) ?_ ?_
      rotate_left
      · intro w'
        go_simp
        with_reducible rfl
      rotate_left
      · simp only [Act.put, List.setIfInBounds_toArray, List.set_cons_zero, List.set_cons_succ, i64_w, i32_w]
        rfl
      refine pure_ (i := 22) (N := some 64) (v := ?_) (a' := ?_) #[true, true, true, true, true, true, true, true, true, true, true, true, true, true, true, true, true, true, true, true, true, true, true, false, false, false, false, false, false, false, false, false, false, false, false, false, false, false, false, false, false, false, false, false, false, false, false, false, false, false, false, false, false, false, false, false, false] rfl rfl (by kernel_rfl) (fun _ _ _ h => h) (Or.inl ⟨by rfl, ?_⟩) ?_ ?_
      rotate_left
      · intro w'
        go_simp
        with_reducible rfl
      rotate_left
      · simp only [Act.put, List.setIfInBounds_toArray, List.set_cons_zero, List.set_cons_succ, i64_w, i32_w]
        rfl
      refine pure_ (i := 23) (N := some 65) (v := ?_) (a' := ?_) #[true, true, true, true, true, true, true, true, true, true, true, true, true, true, true, true, true, true, true, true, true, true, true, true, false, false, false, false, false, false, false, false, false, false, false, false, false, false, false, false, false, false, false, false, false, false, false, false, false, false, false, false, false, false, false, false, false] rfl rfl (by kernel_rfl) (fun _ _ _ h => h) (Or.inl ⟨by rfl, ?_⟩) ?_ ?_
      rotate_left
      · intro w'
        go_simp
        with_reducible rfl
      rotate_left
      · simp only [Act.put, List.setIfInBounds_toArray, List.set_cons_zero, List.set_cons_succ, i64_w, i32_w]
        rfl
      refine pure_ (i := 24) (N := some 66) (v := ?_) (a' := ?_) #[true, true, true, true, true, true, true, true, true, true, true, true, true, true, true, true, true, true, true, true, true, true, true, true, true, false, false, false, false, false, false, false, false, false, false, false, false, false, false, false, false, false, false, false, false, false, false, false, false, false, false, false, false, false, false, false, false] rfl rfl (by kernel_rfl) (fun _ _ _ h => h) (Or.inl ⟨by rfl, ?_⟩) ?_ ?_
      rotate_left
      · intro w'
        go_simp
        with_reducible rfl
      rotate_left
      · simp only [Act.put, List.setIfInBounds_toArray, List.set_cons_zero, List.set_cons_succ, i64_w, i32_w]
        rfl
      refine pure_ (i := 26) (N := some 68) (v := ?_) (a' := ?_) #[true, true, true, true, true, true, true, true, true, true, true, true, true, true, true, true, true, true, true, true, true, true, true, true, true, false, true, false, false, false, false, false, false, false, false, false, false, false, false, false, false, false, false, false, false, false, false, false, false, false, false, false, false, false, false, false, false] rfl rfl (by kernel_rfl) (fun _ _ _ h => h) (Or.inl ⟨by rfl, ?_⟩) ?_ ?_
      rotate_left
      · intro w'
        go_simp
        with_reducible rfl
      rotate_left
      · simp only [Act.put, List.setIfInBounds_toArray, List.set_cons_zero, List.set_cons_succ, i64_w, i32_w]
        rfl
      refine take_ (i := 27) (N := some 69) (v := ?_) (a' := ?_) #[true, true, true, true, true, true, true, true, true, true, true, true, true, true, true, true, true, true, true, true, true, true, true, true, true, false, true, true, false, false, false, false, false, false, false, false, false, false, false, false, false, false, false, false, false, false, false, false, false, false, false, false, false, false, false, false, false] rfl rfl (by kernel_rfl) (fun _ _ _ h => h) (Or.inl ⟨by rfl, ?_⟩) hHeld ?_ ?_
      rotate_left
      · rintro w' ⟨s0_, s1_, s2_, s3_, s4_, s5_, s6_, s7_, s8_, s9_, s10_, s11_, s12_⟩
        go_simp
        with_reducible rfl
      rotate_left
      · simp only [Act.put, List.setIfInBounds_toArray, List.set_cons_zero, List.set_cons_succ, i64_w, i32_w]
        rfl
      refine one_ (i := 25) (N := some 67) #[true, true, true, true, true, true, true, true, true, true, true, true, true, true, true, true, true, true, true, true, true, true, true, true, true, true, true, true, false, false, false, false, false, false, false, false, false, false, false, false, false, false, false, false, false, false, false, false, false, false, false, false, false, false, false, false, false] rfl rfl (by kernel_rfl) (by decide) (fun K hK => ?_)
      refine goes_ Try.func52 (by kernel_rfl) rfl #[.pointer (some ⟨g5, 0, none⟩)] (by rfl) rfl rfl (by (try simp only [List.map_toArray, List.map_cons, List.map_nil]); first | done | rfl) ?_
      refine (may_st HS92.out 3 rfl).mono ?_
      rintro e w' ⟨rfl, rfl⟩
      refine ⟨_, rfl, ?_⟩
      refine hK.out _ _ ⟨HS92.out.cell 5 _ _ _ rfl 0, HS92.out.cell 5 _ _ _ rfl 1, HS92.out.cell 5 _ _ _ rfl 2, HS92.out.cell 5 _ _ _ rfl 3, HS92.out.cell 5 _ _ _ rfl 4, HS92.out.cell 5 _ _ _ rfl 5, HS92.out.cell 5 _ _ _ rfl 6, HS92.out.cell 5 _ _ _ rfl 7, HS92.out.cell 5 _ _ _ rfl 8, HS92.out.cell 5 _ _ _ rfl 9, HS92.out.cell 6 _ _ _ rfl 0, HS92.out.cell 6 _ _ _ rfl 1, HS92.out.cell 6 _ _ _ rfl 2⟩ (fun hHeld => ?_)
      clear hK K
      refine norm_ (a' := ?_) ?_ ?_
      rotate_left
      · show Act.put _ (some 67) _ = _
        simp only [Act.put, List.setIfInBounds_toArray, List.set_cons_zero, List.set_cons_succ, i64_w, i32_w]
        rfl
      refine pure_ (i := 28) (N := some 70) (v := ?_) (a' := ?_) #[true, true, true, true, true, true, true, true, true, true, true, true, true, true, true, true, true, true, true, true, true, true, true, true, true, true, true, true, true, false, false, false, false, false, false, false, false, false, false, false, false, false, false, false, false, false, false, false, false, false, false, false, false, false, false, false, false] rfl rfl (by kernel_rfl) (fun _ _ _ h => h) (Or.inl ⟨by rfl, ?_⟩) ?_ ?_
      rotate_left
      · intro w'
        go_simp
        with_reducible rfl
      rotate_left
      · simp only [Act.put, List.setIfInBounds_toArray, List.set_cons_zero, List.set_cons_succ, i64_w, i32_w]
        rfl
      refine pure_ (i := 29) (N := some 71) (v := ?_) (a' := ?_) #[true, true, true, true, true, true, true, true, true, true, true, true, true, true, true, true, true, true, true, true, true, true, true, true, true, true, true, true, true, true, false, false, false, false, false, false, false, false, false, false, false, false, false, false, false, false, false, false, false, false, false, false, false, false, false, false, false] rfl rfl (by kernel_rfl) (fun _ _ _ h => h) (Or.inl ⟨by rfl, ?_⟩) ?_ ?_
      rotate_left
      · intro w'
        go_simp
        with_reducible rfl
      rotate_left
      · simp only [Act.put, List.setIfInBounds_toArray, List.set_cons_zero, List.set_cons_succ, i64_w, i32_w]
        rfl
      refine pure_ (i := 30) (N := some 72) (v := ?_) (a' := ?_) #[true, true, true, true, true, true, true, true, true, true, true, true, true, true, true, true, true, true, true, true, true, true, true, true, true, true, true, true, true, true, true, false, false, false, false, false, false, false, false, false, false, false, false, false, false, false, false, false, false, false, false, false, false, false, false, false, false] rfl rfl (by kernel_rfl) (fun _ _ _ h => h) (Or.inl ⟨by rfl, ?_⟩) ?_ ?_
      rotate_left
      · intro w'
        go_simp
        with_reducible rfl
      rotate_left
      · simp only [Act.put, List.setIfInBounds_toArray, List.set_cons_zero, List.set_cons_succ, i64_w, i32_w]
        rfl
      refine pure_ (i := 31) (N := some 73) (v := ?_) (a' := ?_) #[true, true, true, true, true, true, true, true, true, true, true, true, true, true, true, true, true, true, true, true, true, true, true, true, true, true, true, true, true, true, true, true, false, false, false, false, false, false, false, false, false, false, false, false, false, false, false, false, false, false, false, false, false, false, false, false, false] rfl rfl (by kernel_rfl) (fun _ _ _ h => h) (Or.inl ⟨by rfl, ?_⟩) ?_ ?_
      rotate_left
      · intro w'
        go_simp
        with_reducible rfl
      rotate_left
      · simp only [Act.put, List.setIfInBounds_toArray, List.set_cons_zero, List.set_cons_succ, i64_w, i32_w]
        rfl
      refine pure_ (i := 32) (N := some 74) (v := ?_) (a' := ?_) #[true, true, true, true, true, true, true, true, true, true, true, true, true, true, true, true, true, true, true, true, true, true, true, true, true, true, true, true, true, true, true, true, true, false, false, false, false, false, false, false, false, false, false, false, false, false, false, false, false, false, false, false, false, false, false, false, false] rfl rfl (by kernel_rfl) (fun _ _ _ h => h) (Or.inl ⟨by rfl, ?_⟩) ?_ ?_
      rotate_left
      · intro w'
        go_simp
        with_reducible rfl
      rotate_left
      · simp only [Act.put, List.setIfInBounds_toArray, List.set_cons_zero, List.set_cons_succ, i64_w, i32_w]
        rfl
      refine pure_ (i := 33) (N := some 75) (v := ?_) (a' := ?_) #[true, true, true, true, true, true, true, true, true, true, true, true, true, true, true, true, true, true, true, true, true, true, true, true, true, true, true, true, true, true, true, true, true, true, false, false, false, false, false, false, false, false, false, false, false, false, false, false, false, false, false, false, false, false, false, false, false] rfl rfl (by kernel_rfl) (fun _ _ _ h => h) (Or.inl ⟨by rfl, ?_⟩) ?_ ?_
      rotate_left
      · intro w'
        go_simp
        with_reducible rfl
      rotate_left
      · simp only [Act.put, List.setIfInBounds_toArray, List.set_cons_zero, List.set_cons_succ, i64_w, i32_w]
        rfl
      refine pure_ (i := 35) (N := some 77) (v := ?_) (a' := ?_) #[true, true, true, true, true, true, true, true, true, true, true, true, true, true, true, true, true, true, true, true, true, true, true, true, true, true, true, true, true, true, true, true, true, true, false, true, false, false, false, false, false, false, false, false, false, false, false, false, false, false, false, false, false, false, false, false, false] rfl rfl (by kernel_rfl) (fun _ _ _ h => h) (Or.inl ⟨by rfl, ?_⟩) ?_ ?_
      rotate_left
      · intro w'
        go_simp
        with_reducible rfl
      rotate_left
      · simp only [Act.put, List.setIfInBounds_toArray, List.set_cons_zero, List.set_cons_succ, i64_w, i32_w]
        rfl
      refine take_ (i := 36) (N := some 78) (v := ?_) (a' := ?_) #[true, true, true, true, true, true, true, true, true, true, true, true, true, true, true, true, true, true, true, true, true, true, true, true, true, true, true, true, true, true, true, true, true, true, false, true, true, false, false, false, false, false, false, false, false, false, false, false, false, false, false, false, false, false, false, false, false] rfl rfl (by kernel_rfl) (fun _ _ _ h => h) (Or.inl ⟨by rfl, ?_⟩) hHeld ?_ ?_
      rotate_left
      · rintro w' ⟨s0_, s1_, s2_, s3_, s4_, s5_, s6_, s7_, s8_, s9_, s10_, s11_, s12_⟩
        go_simp
        with_reducible rfl
      rotate_left
      · simp only [Act.put, List.setIfInBounds_toArray, List.set_cons_zero, List.set_cons_succ, i64_w, i32_w]
        rfl
      refine one_ (i := 34) (N := some 76) #[true, true, true, true, true, true, true, true, true, true, true, true, true, true, true, true, true, true, true, true, true, true, true, true, true, true, true, true, true, true, true, true, true, true, true, true, true, false, false, false, false, false, false, false, false, false, false, false, false, false, false, false, false, false, false, false, false] rfl rfl (by kernel_rfl) (by decide) (fun K hK => ?_)
      refine goes_ Try.func53 (by kernel_rfl) rfl #[.pointer (some ⟨g5, 0, none⟩)] (by rfl) rfl rfl (by (try simp only [List.map_toArray, List.map_cons, List.map_nil]); first | done | rfl) ?_
      refine (mode_st HS92.out 3 rfl).mono ?_
      rintro e w' ⟨rfl, rfl⟩
      refine ⟨_, rfl, ?_⟩
      refine hK.out _ _ ⟨HS92.out.cell 5 _ _ _ rfl 0, HS92.out.cell 5 _ _ _ rfl 1, HS92.out.cell 5 _ _ _ rfl 2, HS92.out.cell 5 _ _ _ rfl 3, HS92.out.cell 5 _ _ _ rfl 4, HS92.out.cell 5 _ _ _ rfl 5, HS92.out.cell 5 _ _ _ rfl 6, HS92.out.cell 5 _ _ _ rfl 7, HS92.out.cell 5 _ _ _ rfl 8, HS92.out.cell 5 _ _ _ rfl 9, HS92.out.cell 6 _ _ _ rfl 0, HS92.out.cell 6 _ _ _ rfl 1, HS92.out.cell 6 _ _ _ rfl 2⟩ (fun hHeld => ?_)
      clear hK K
      refine norm_ (a' := ?_) ?_ ?_
      rotate_left
      · show Act.put _ (some 76) _ = _
        simp only [Act.put, List.setIfInBounds_toArray, List.set_cons_zero, List.set_cons_succ, i64_w, i32_w]
        rfl
      refine pure_ (i := 37) (N := some 79) (v := ?_) (a' := ?_) #[true, true, true, true, true, true, true, true, true, true, true, true, true, true, true, true, true, true, true, true, true, true, true, true, true, true, true, true, true, true, true, true, true, true, true, true, true, true, false, false, false, false, false, false, false, false, false, false, false, false, false, false, false, false, false, false, false] rfl rfl (by kernel_rfl) (fun _ _ _ h => h) (Or.inl ⟨by rfl, ?_⟩) ?_ ?_
      rotate_left
      · intro w'
        go_simp
        with_reducible rfl
      rotate_left
      · simp only [Act.put, List.setIfInBounds_toArray, List.set_cons_zero, List.set_cons_succ, i64_w, i32_w]
        rfl
      refine pure_ (i := 38) (N := some 80) (v := ?_) (a' := ?_) #[true, true, true, true, true, true, true, true, true, true, true, true, true, true, true, true, true, true, true, true, true, true, true, true, true, true, true, true, true, true, true, true, true, true, true, true, true, true, true, false, false, false, false, false, false, false, false, false, false, false, false, false, false, false, false, false, false] rfl rfl (by kernel_rfl) (fun _ _ _ h => h) (Or.inl ⟨by rfl, ?_⟩) ?_ ?_
      rotate_left
      · intro w'
        go_simp
        with_reducible rfl
      rotate_left
      · simp only [Act.put, List.setIfInBounds_toArray, List.set_cons_zero, List.set_cons_succ, i64_w, i32_w]
        rfl
      refine pure_ (i := 39) (N := some 81) (v := ?_) (a' := ?_) #[true, true, true, true, true, true, true, true, true, true, true, true, true, true, true, true, true, true, true, true, true, true, true, true, true, true, true, true, true, true, true, true, true, true, true, true, true, true, true, true, false, false, false, false, false, false, false, false, false, false, false, false, false, false, false, false, false] rfl rfl (by kernel_rfl) (fun _ _ _ h => h) (Or.inl ⟨by rfl, ?_⟩) ?_ ?_
      rotate_left
      · intro w'
        go_simp
        with_reducible rfl
      rotate_left
      · simp only [Act.put, List.setIfInBounds_toArray, List.set_cons_zero, List.set_cons_succ, i64_w, i32_w]
        rfl
      refine pure_ (i := 40) (N := some 82) (v := ?_) (a' := ?_) #[true, true, true, true, true, true, true, true, true, true, true, true, true, true, true, true, true, true, true, true, true, true, true, true, true, true, true, true, true, true, true, true, true, true, true, true, true, true, true, true, true, false, false, false, false, false, false, false, false, false, false, false, false, false, false, false, false] rfl rfl (by kernel_rfl) (fun _ _ _ h => h) (Or.inl ⟨by rfl, ?_⟩) ?_ ?_
      rotate_left
      · intro w'
        go_simp
        with_reducible rfl
      rotate_left
      · simp only [Act.put, List.setIfInBounds_toArray, List.set_cons_zero, List.set_cons_succ, i64_w, i32_w]
        rfl
      refine pure_ (i := 41) (N := some 83) (v := ?_) (a' := ?_) #[true, true, true, true, true, true, true, true, true, true, true, true, true, true, true, true, true, true, true, true, true, true, true, true, true, true, true, true, true, true, true, true, true, true, true, true, true, true, true, true, true, true, false, false, false, false, false, false, false, false, false, false, false, false, false, false, false] rfl rfl (by kernel_rfl) (fun _ _ _ h => h) (Or.inl ⟨by rfl, ?_⟩) ?_ ?_
      rotate_left
      · intro w'
        go_simp
        with_reducible rfl
      rotate_left
      · simp only [Act.put, List.setIfInBounds_toArray, List.set_cons_zero, List.set_cons_succ, i64_w, i32_w]
        rfl
      refine pure_ (i := 42) (N := some 84) (v := ?_) (a' := ?_) #[true, true, true, true, true, true, true, true, true, true, true, true, true, true, true, true, true, true, true, true, true, true, true, true, true, true, true, true, true, true, true, true, true, true, true, true, true, true, true, true, true, true, true, false, false, false, false, false, false, false, false, false, false, false, false, false, false] rfl rfl (by kernel_rfl) (fun _ _ _ h => h) (Or.inl ⟨by rfl, ?_⟩) ?_ ?_
      rotate_left
      · intro w'
        go_simp
        with_reducible rfl
      rotate_left
      · simp only [Act.put, List.setIfInBounds_toArray, List.set_cons_zero, List.set_cons_succ, i64_w, i32_w]
        rfl
      refine pure_ (i := 44) (N := some 86) (v := ?_) (a' := ?_) #[true, true, true, true, true, true, true, true, true, true, true, true, true, true, true, true, true, true, true, true, true, true, true, true, true, true, true, true, true, true, true, true, true, true, true, true, true, true, true, true, true, true, true, false, true, false, false, false, false, false, false, false, false, false, false, false, false] rfl rfl (by kernel_rfl) (fun _ _ _ h => h) (Or.inl ⟨by rfl, ?_⟩) ?_ ?_
      rotate_left
      · intro w'
        go_simp
        with_reducible rfl
      rotate_left
      · simp only [Act.put, List.setIfInBounds_toArray, List.set_cons_zero, List.set_cons_succ, i64_w, i32_w]
        rfl
      refine take_ (i := 45) (N := some 87) (v := ?_) (a' := ?_) #[true, true, true, true, true, true, true, true, true, true, true, true, true, true, true, true, true, true, true, true, true, true, true, true, true, true, true, true, true, true, true, true, true, true, true, true, true, true, true, true, true, true, true, false, true, true, false, false, false, false, false, false, false, false, false, false, false] rfl rfl (by kernel_rfl) (fun _ _ _ h => h) (Or.inl ⟨by rfl, ?_⟩) hHeld ?_ ?_
      rotate_left
      · rintro w' ⟨s0_, s1_, s2_, s3_, s4_, s5_, s6_, s7_, s8_, s9_, s10_, s11_, s12_⟩
        go_simp
        with_reducible rfl
      rotate_left
      · simp only [Act.put, List.setIfInBounds_toArray, List.set_cons_zero, List.set_cons_succ, i64_w, i32_w]
        rfl
      refine one_ (i := 43) (N := some 85) #[true, true, true, true, true, true, true, true, true, true, true, true, true, true, true, true, true, true, true, true, true, true, true, true, true, true, true, true, true, true, true, true, true, true, true, true, true, true, true, true, true, true, true, true, true, true, false, false, false, false, false, false, false, false, false, false, false] rfl rfl (by kernel_rfl) (by decide) (fun K hK => ?_)
      refine goes_ Try.func43 (by kernel_rfl) rfl #[.pointer (some ⟨g5, 0, none⟩)] (by rfl) rfl rfl (by (try simp only [List.map_toArray, List.map_cons, List.map_nil]); first | done | rfl) ?_
      refine (starts_st HS92.out 3 rfl).mono ?_
      rintro e w' ⟨rfl, rfl⟩
      refine ⟨_, rfl, ?_⟩
      refine hK.out _ _ ⟨HS92.out.cell 5 _ _ _ rfl 0, HS92.out.cell 5 _ _ _ rfl 1, HS92.out.cell 5 _ _ _ rfl 2, HS92.out.cell 5 _ _ _ rfl 3, HS92.out.cell 5 _ _ _ rfl 4, HS92.out.cell 5 _ _ _ rfl 5, HS92.out.cell 5 _ _ _ rfl 6, HS92.out.cell 5 _ _ _ rfl 7, HS92.out.cell 5 _ _ _ rfl 8, HS92.out.cell 5 _ _ _ rfl 9, HS92.out.cell 6 _ _ _ rfl 0, HS92.out.cell 6 _ _ _ rfl 1, HS92.out.cell 6 _ _ _ rfl 2⟩ (fun hHeld => ?_)
      clear hK K
      refine norm_ (a' := ?_) ?_ ?_
      rotate_left
      · show Act.put _ (some 85) _ = _
        simp only [Act.put, List.setIfInBounds_toArray, List.set_cons_zero, List.set_cons_succ, i64_w, i32_w]
        rfl
      refine pure_ (i := 46) (N := some 88) (v := ?_) (a' := ?_) #[true, true, true, true, true, true, true, true, true, true, true, true, true, true, true, true, true, true, true, true, true, true, true, true, true, true, true, true, true, true, true, true, true, true, true, true, true, true, true, true, true, true, true, true, true, true, true, false, false, false, false, false, false, false, false, false, false] rfl rfl (by kernel_rfl) (fun _ _ _ h => h) (Or.inl ⟨by rfl, ?_⟩) ?_ ?_
      rotate_left
      · intro w'
        go_simp
        with_reducible rfl
      rotate_left
      · simp only [Act.put, List.setIfInBounds_toArray, List.set_cons_zero, List.set_cons_succ, i64_w, i32_w]
        rfl
      refine pure_ (i := 47) (N := some 89) (v := ?_) (a' := ?_) #[true, true, true, true, true, true, true, true, true, true, true, true, true, true, true, true, true, true, true, true, true, true, true, true, true, true, true, true, true, true, true, true, true, true, true, true, true, true, true, true, true, true, true, true, true, true, true, true, false, false, false, false, false, false, false, false, false] rfl rfl (by kernel_rfl) (fun _ _ _ h => h) (Or.inl ⟨by rfl, ?_⟩) ?_ ?_
      rotate_left
      · intro w'
        go_simp
        with_reducible rfl
      rotate_left
      · simp only [Act.put, List.setIfInBounds_toArray, List.set_cons_zero, List.set_cons_succ, i64_w, i32_w]
        rfl
      refine pure_ (i := 48) (N := some 90) (v := ?_) (a' := ?_) #[true, true, true, true, true, true, true, true, true, true, true, true, true, true, true, true, true, true, true, true, true, true, true, true, true, true, true, true, true, true, true, true, true, true, true, true, true, true, true, true, true, true, true, true, true, true, true, true, true, false, false, false, false, false, false, false, false] rfl rfl (by kernel_rfl) (fun _ _ _ h => h) (Or.inl ⟨by rfl, ?_⟩) ?_ ?_
      rotate_left
      · intro w'
        go_simp
        with_reducible rfl
      rotate_left
      · simp only [Act.put, List.setIfInBounds_toArray, List.set_cons_zero, List.set_cons_succ, i64_w, i32_w]
        rfl
      refine pure_ (i := 49) (N := some 91) (v := ?_) (a' := ?_) #[true, true, true, true, true, true, true, true, true, true, true, true, true, true, true, true, true, true, true, true, true, true, true, true, true, true, true, true, true, true, true, true, true, true, true, true, true, true, true, true, true, true, true, true, true, true, true, true, true, true, false, false, false, false, false, false, false] rfl rfl (by kernel_rfl) (fun _ _ _ h => h) (Or.inl ⟨by rfl, ?_⟩) ?_ ?_
      rotate_left
      · intro w'
        go_simp
        with_reducible rfl
      rotate_left
      · simp only [Act.put, List.setIfInBounds_toArray, List.set_cons_zero, List.set_cons_succ, i64_w, i32_w]
        rfl
      refine pure_ (i := 50) (N := some 92) (v := ?_) (a' := ?_) #[true, true, true, true, true, true, true, true, true, true, true, true, true, true, true, true, true, true, true, true, true, true, true, true, true, true, true, true, true, true, true, true, true, true, true, true, true, true, true, true, true, true, true, true, true, true, true, true, true, true, true, false, false, false, false, false, false] rfl rfl (by kernel_rfl) (fun _ _ _ h => h) (Or.inl ⟨by rfl, ?_⟩) ?_ ?_
      rotate_left
      · intro w'
        go_simp
        with_reducible rfl
      rotate_left
      · simp only [Act.put, List.setIfInBounds_toArray, List.set_cons_zero, List.set_cons_succ, i64_w, i32_w]
        rfl
      refine pure_ (i := 51) (N := some 93) (v := ?_) (a' := ?_) #[true, true, true, true, true, true, true, true, true, true, true, true, true, true, true, true, true, true, true, true, true, true, true, true, true, true, true, true, true, true, true, true, true, true, true, true, true, true, true, true, true, true, true, true, true, true, true, true, true, true, true, true, false, false, false, false, false] rfl rfl (by kernel_rfl) (fun _ _ _ h => h) (Or.inl ⟨by rfl, ?_⟩) ?_ ?_
      rotate_left
      · intro w'
        go_simp
        with_reducible rfl
      rotate_left
      · simp only [Act.put, List.setIfInBounds_toArray, List.set_cons_zero, List.set_cons_succ, i64_w, i32_w]
        rfl
      refine pure_ (i := 53) (N := some 95) (v := ?_) (a' := ?_) #[true, true, true, true, true, true, true, true, true, true, true, true, true, true, true, true, true, true, true, true, true, true, true, true, true, true, true, true, true, true, true, true, true, true, true, true, true, true, true, true, true, true, true, true, true, true, true, true, true, true, true, true, false, true, false, false, false] rfl rfl (by kernel_rfl) (fun _ _ _ h => h) (Or.inl ⟨by rfl, ?_⟩) ?_ ?_
      rotate_left
      · intro w'
        go_simp
        with_reducible rfl
      rotate_left
      · simp only [Act.put, List.setIfInBounds_toArray, List.set_cons_zero, List.set_cons_succ, i64_w, i32_w]
        rfl
      refine take_ (i := 54) (N := some 96) (v := ?_) (a' := ?_) #[true, true, true, true, true, true, true, true, true, true, true, true, true, true, true, true, true, true, true, true, true, true, true, true, true, true, true, true, true, true, true, true, true, true, true, true, true, true, true, true, true, true, true, true, true, true, true, true, true, true, true, true, false, true, true, false, false] rfl rfl (by kernel_rfl) (fun _ _ _ h => h) (Or.inl ⟨by rfl, ?_⟩) hHeld ?_ ?_
      rotate_left
      · rintro w' ⟨s0_, s1_, s2_, s3_, s4_, s5_, s6_, s7_, s8_, s9_, s10_, s11_, s12_⟩
        go_simp
        with_reducible rfl
      rotate_left
      · simp only [Act.put, List.setIfInBounds_toArray, List.set_cons_zero, List.set_cons_succ, i64_w, i32_w]
        rfl
      refine one_ (i := 52) (N := some 94) #[true, true, true, true, true, true, true, true, true, true, true, true, true, true, true, true, true, true, true, true, true, true, true, true, true, true, true, true, true, true, true, true, true, true, true, true, true, true, true, true, true, true, true, true, true, true, true, true, true, true, true, true, true, true, true, false, false] rfl rfl (by kernel_rfl) (by decide) (fun K hK => ?_)
      refine goes_ Try.func44 (by kernel_rfl) rfl #[.pointer (some ⟨g5, 0, none⟩)] (by rfl) rfl rfl (by (try simp only [List.map_toArray, List.map_cons, List.map_nil]); first | done | rfl) ?_
      refine (cause_st HS92.out 3 rfl).mono ?_
      rintro e w' ⟨rfl, rfl⟩
      refine ⟨_, rfl, ?_⟩
      refine hK.out _ _ ⟨HS92.out.cell 5 _ _ _ rfl 0, HS92.out.cell 5 _ _ _ rfl 1, HS92.out.cell 5 _ _ _ rfl 2, HS92.out.cell 5 _ _ _ rfl 3, HS92.out.cell 5 _ _ _ rfl 4, HS92.out.cell 5 _ _ _ rfl 5, HS92.out.cell 5 _ _ _ rfl 6, HS92.out.cell 5 _ _ _ rfl 7, HS92.out.cell 5 _ _ _ rfl 8, HS92.out.cell 5 _ _ _ rfl 9, HS92.out.cell 6 _ _ _ rfl 0, HS92.out.cell 6 _ _ _ rfl 1, HS92.out.cell 6 _ _ _ rfl 2⟩ (fun hHeld => ?_)
      clear hK K
      refine norm_ (a' := ?_) ?_ ?_
      rotate_left
      · show Act.put _ (some 94) _ = _
        simp only [Act.put, List.setIfInBounds_toArray, List.set_cons_zero, List.set_cons_succ, i64_w, i32_w]
        rfl
      refine pure_ (i := 55) (N := some 97) (v := ?_) (a' := ?_) #[true, true, true, true, true, true, true, true, true, true, true, true, true, true, true, true, true, true, true, true, true, true, true, true, true, true, true, true, true, true, true, true, true, true, true, true, true, true, true, true, true, true, true, true, true, true, true, true, true, true, true, true, true, true, true, true, false] rfl rfl (by kernel_rfl) (fun _ _ _ h => h) (Or.inl ⟨by rfl, ?_⟩) ?_ ?_
      rotate_left
      · intro w'
        go_simp
        with_reducible rfl
      rotate_left
      · simp only [Act.put, List.setIfInBounds_toArray, List.set_cons_zero, List.set_cons_succ, i64_w, i32_w]
        rfl
      refine pure_ (i := 56) (N := some 98) (v := ?_) (a' := ?_) #[true, true, true, true, true, true, true, true, true, true, true, true, true, true, true, true, true, true, true, true, true, true, true, true, true, true, true, true, true, true, true, true, true, true, true, true, true, true, true, true, true, true, true, true, true, true, true, true, true, true, true, true, true, true, true, true, true] rfl rfl (by kernel_rfl) (fun _ _ _ h => h) (Or.inl ⟨by rfl, ?_⟩) ?_ ?_
      rotate_left
      · intro w'
        go_simp
        with_reducible rfl
      rotate_left
      · simp only [Act.put, List.setIfInBounds_toArray, List.set_cons_zero, List.set_cons_succ, i64_w, i32_w]
        rfl
      refine done_ (by kernel_rfl) ?_
      go_wp2_with fail
      go_roundw
      case rel => exact ⟨k + 1, stepP fst s x, _, _, by omega, by go_num, by have := HI2.out; simpa using this, ((HS92.out.erase 0).erase 1).erase 2⟩
      case measure => simp [intOf]; omega
    · obtain rfl : k = n1 := by omega
      obtain ⟨c2_0, c2_1, c2_2, c2_3, c2_4, c2_5, c2_6, c2_7, c2_8, c2_9⟩ := HS.out.c10 2 _ _ _ _ _ _ _ _ _ _ _ _ rfl
      obtain ⟨c3_0, c3_1, c3_2, c3_3⟩ := HS.out.c4 3 _ _ _ _ _ _ rfl
      go_wp2_with (first | (go_at_call 54; refine (copy_at HS.out 1 rfl (by omega)).mono ?_; rintro e w61_ ⟨g11, rfl, HSn⟩; replace HS : Hid (St [part g11 id name may fst s, SL.row (Kd.int .u32) 39 (.slice A2 (s).now.length c2) (s).now, part g5 id name may fst s, SL.blk g6 76 #[.int .i64 id, .string name, .bool may, .slice A fst.length c, .int .i64 (s).mode, .int .i64 (s).starts, .int .i64 (s).cause, .slice A fst.length c, .slice A2 (s).now.length c2, .int .i64 (s).wr], SL.blk g2 63 #[.int .i64 id, .string name, .bool may, .slice A fst.length c]] w w61_) := Go.Lib.hid HSn; clear HSn; clear c2_0 c2_1 c2_2 c2_3 c2_4 c2_5 c2_6 c2_7 c2_8 c2_9 c3_0 c3_1 c3_2 c3_3; obtain ⟨c3_0, c3_1, c3_2, c3_3, c3_4, c3_5, c3_6, c3_7, c3_8, c3_9⟩ := HS.out.c10 3 _ _ _ _ _ _ _ _ _ _ _ _ rfl; obtain ⟨c4_0, c4_1, c4_2, c4_3⟩ := HS.out.c4 4 _ _ _ _ _ _ rfl))
      refine (shot_at HS.out 0 rfl (by rw [HI.out.len]; omega)).mono ?_
      rintro e w62_ ⟨B1, d1, rfl, HSn⟩
      replace HS : Hid (St [SL.row (Kd.int .u32) 39 (.slice B1 (s).now.length d1) (s).now, part g11 id name may fst s, SL.row (Kd.int .u32) 39 (.slice A2 (s).now.length c2) (s).now, part g5 id name may fst s, SL.blk g6 76 #[.int .i64 id, .string name, .bool may, .slice A fst.length c, .int .i64 (s).mode, .int .i64 (s).starts, .int .i64 (s).cause, .slice A fst.length c, .slice A2 (s).now.length c2, .int .i64 (s).wr], SL.blk g2 63 #[.int .i64 id, .string name, .bool may, .slice A fst.length c]] w w62_) := Go.Lib.hid HSn
      clear HSn
      clear c3_0 c3_1 c3_2 c3_3 c3_4 c3_5 c3_6 c3_7 c3_8 c3_9 c4_0 c4_1 c4_2 c4_3
      obtain ⟨c4_0, c4_1, c4_2, c4_3, c4_4, c4_5, c4_6, c4_7, c4_8, c4_9⟩ := HS.out.c10 4 _ _ _ _ _ _ _ _ _ _ _ _ rfl
      obtain ⟨c5_0, c5_1, c5_2, c5_3⟩ := HS.out.c4 5 _ _ _ _ _ _ rfl
      go_wp2_with fail
      refine (shot_at HS.out 3 rfl (by rw [HI.out.len]; omega)).mono ?_
      rintro e w63_ ⟨B2, d2, rfl, HSn⟩
      replace HS : Hid (St [SL.row (Kd.int .u32) 39 (.slice B2 (s).now.length d2) (s).now, SL.row (Kd.int .u32) 39 (.slice B1 (s).now.length d1) (s).now, part g11 id name may fst s, SL.row (Kd.int .u32) 39 (.slice A2 (s).now.length c2) (s).now, part g5 id name may fst s, SL.blk g6 76 #[.int .i64 id, .string name, .bool may, .slice A fst.length c, .int .i64 (s).mode, .int .i64 (s).starts, .int .i64 (s).cause, .slice A fst.length c, .slice A2 (s).now.length c2, .int .i64 (s).wr], SL.blk g2 63 #[.int .i64 id, .string name, .bool may, .slice A fst.length c]] w w63_) := Go.Lib.hid HSn
      clear HSn
      clear c4_0 c4_1 c4_2 c4_3 c4_4 c4_5 c4_6 c4_7 c4_8 c4_9 c5_0 c5_1 c5_2 c5_3
      obtain ⟨c5_0, c5_1, c5_2, c5_3, c5_4, c5_5, c5_6, c5_7, c5_8, c5_9⟩ := HS.out.c10 5 _ _ _ _ _ _ _ _ _ _ _ _ rfl
      obtain ⟨c6_0, c6_1, c6_2, c6_3⟩ := HS.out.c4 6 _ _ _ _ _ _ rfl
      go_wp2_with fail
      obtain ⟨_, _, hq_, hd1_, hR1_⟩ := HS.out.rowC 1 rfl
      injection hq_ with q1_ _ q2_
      subst q1_ q2_
      obtain ⟨_, _, hq_, hd2_, hR2_⟩ := HS.out.rowC 0 rfl
      injection hq_ with q1_ _ q2_
      subst q1_ q2_
      refine (sameShot HS.out _ _ _ _ _ _ _ _ B1 d1 s.now B2 d2 s.now hR1_ hd1_ hR2_ hd2_ (by rw [HI.out.len]; omega) true (by simp)).mono ?_
      rintro e w64_ ⟨rfl, HSn⟩
      replace HS : Hid (St [SL.row (Kd.int .u32) 39 (.slice B2 (s).now.length d2) (s).now, SL.row (Kd.int .u32) 39 (.slice B1 (s).now.length d1) (s).now, part g11 id name may fst s, SL.row (Kd.int .u32) 39 (.slice A2 (s).now.length c2) (s).now, part g5 id name may fst s, SL.blk g6 76 #[.int .i64 id, .string name, .bool may, .slice A fst.length c, .int .i64 (s).mode, .int .i64 (s).starts, .int .i64 (s).cause, .slice A fst.length c, .slice A2 (s).now.length c2, .int .i64 (s).wr], SL.blk g2 63 #[.int .i64 id, .string name, .bool may, .slice A fst.length c]] w w64_) := Go.Lib.hid HSn
      clear HSn
      clear c5_0 c5_1 c5_2 c5_3 c5_4 c5_5 c5_6 c5_7 c5_8 c5_9 c6_0 c6_1 c6_2 c6_3
      obtain ⟨c5_0, c5_1, c5_2, c5_3, c5_4, c5_5, c5_6, c5_7, c5_8, c5_9⟩ := HS.out.c10 5 _ _ _ _ _ _ _ _ _ _ _ _ rfl
      obtain ⟨c6_0, c6_1, c6_2, c6_3⟩ := HS.out.c4 6 _ _ _ _ _ _ rfl
      clear hR1_ hR2_
      go_wp2_with fail
      obtain ⟨c3_, hc3⟩ : ∃ c3, c3 = (mset s.mode 1).2.2 := ⟨_, rfl⟩
      have HK := Go.Lib.hid hc3
      clear hc3
      by_cases hz : c3_ = 0
      · have HC3 := Go.Lib.hid hz
        have ez : (c3_ == 0) = true := beq_iff_eq.2 hz
        clear hz
        refine (setMode_code HS.out 2 rfl 1 c3_ HK.out HI.out.s0 (by have := HI.out.s1; omega) (by omega)).mono ?_
        rintro e w65_ ⟨rfl, HSn⟩
        replace HS : Hid (St [SL.row (Kd.int .u32) 39 (.slice B2 (s).now.length d2) (s).now, SL.row (Kd.int .u32) 39 (.slice B1 (s).now.length d1) (s).now, part g11 id name may fst (PS.setMode fst s 1), SL.row (Kd.int .u32) 39 (.slice A2 (s).now.length c2) (s).now, part g5 id name may fst s, SL.blk g6 76 #[.int .i64 id, .string name, .bool may, .slice A fst.length c, .int .i64 (s).mode, .int .i64 (s).starts, .int .i64 (s).cause, .slice A fst.length c, .slice A2 (s).now.length c2, .int .i64 (s).wr], SL.blk g2 63 #[.int .i64 id, .string name, .bool may, .slice A fst.length c]] w w65_) := Go.Lib.hid HSn
        clear HSn
        clear c5_0 c5_1 c5_2 c5_3 c5_4 c5_5 c5_6 c5_7 c5_8 c5_9 c6_0 c6_1 c6_2 c6_3
        obtain ⟨c5_0, c5_1, c5_2, c5_3, c5_4, c5_5, c5_6, c5_7, c5_8, c5_9⟩ := HS.out.c10 5 _ _ _ _ _ _ _ _ _ _ _ _ rfl
        obtain ⟨c6_0, c6_1, c6_2, c6_3⟩ := HS.out.c4 6 _ _ _ _ _ _ rfl
        go_wp2_with fail
        have h5 := setMode_grant fst s 1 (by rw [← HK.out]; exact HC3.out) (.inl rfl)
        have HG := Go.Lib.hid h5
        clear h5
        refine (shot_at HS.out 2 rfl (by rw [setMode_len fst s 1 HI.out.len]; omega)).mono ?_
        rintro e w66_ ⟨B3, d3, rfl, HSn⟩
        replace HS : Hid (St [SL.row (Kd.int .u32) 39 (.slice B3 ((PS.setMode fst s 1)).now.length d3) ((PS.setMode fst s 1)).now, SL.row (Kd.int .u32) 39 (.slice B2 (s).now.length d2) (s).now, SL.row (Kd.int .u32) 39 (.slice B1 (s).now.length d1) (s).now, part g11 id name may fst (PS.setMode fst s 1), SL.row (Kd.int .u32) 39 (.slice A2 (s).now.length c2) (s).now, part g5 id name may fst s, SL.blk g6 76 #[.int .i64 id, .string name, .bool may, .slice A fst.length c, .int .i64 (s).mode, .int .i64 (s).starts, .int .i64 (s).cause, .slice A fst.length c, .slice A2 (s).now.length c2, .int .i64 (s).wr], SL.blk g2 63 #[.int .i64 id, .string name, .bool may, .slice A fst.length c]] w w66_) := Go.Lib.hid HSn
        clear HSn
        clear c5_0 c5_1 c5_2 c5_3 c5_4 c5_5 c5_6 c5_7 c5_8 c5_9 c6_0 c6_1 c6_2 c6_3
        obtain ⟨c6_0, c6_1, c6_2, c6_3, c6_4, c6_5, c6_6, c6_7, c6_8, c6_9⟩ := HS.out.c10 6 _ _ _ _ _ _ _ _ _ _ _ _ rfl
        obtain ⟨c7_0, c7_1, c7_2, c7_3⟩ := HS.out.c4 7 _ _ _ _ _ _ rfl
        go_wp2_with fail
        refine (shot_at HS.out 5 rfl (by rw [HI.out.len]; omega)).mono ?_
        rintro e w67_ ⟨B4, d4, rfl, HSn⟩
        replace HS : Hid (St [SL.row (Kd.int .u32) 39 (.slice B4 (s).now.length d4) (s).now, SL.row (Kd.int .u32) 39 (.slice B3 ((PS.setMode fst s 1)).now.length d3) ((PS.setMode fst s 1)).now, SL.row (Kd.int .u32) 39 (.slice B2 (s).now.length d2) (s).now, SL.row (Kd.int .u32) 39 (.slice B1 (s).now.length d1) (s).now, part g11 id name may fst (PS.setMode fst s 1), SL.row (Kd.int .u32) 39 (.slice A2 (s).now.length c2) (s).now, part g5 id name may fst s, SL.blk g6 76 #[.int .i64 id, .string name, .bool may, .slice A fst.length c, .int .i64 (s).mode, .int .i64 (s).starts, .int .i64 (s).cause, .slice A fst.length c, .slice A2 (s).now.length c2, .int .i64 (s).wr], SL.blk g2 63 #[.int .i64 id, .string name, .bool may, .slice A fst.length c]] w w67_) := Go.Lib.hid HSn
        clear HSn
        clear c6_0 c6_1 c6_2 c6_3 c6_4 c6_5 c6_6 c6_7 c6_8 c6_9 c7_0 c7_1 c7_2 c7_3
        obtain ⟨c7_0, c7_1, c7_2, c7_3, c7_4, c7_5, c7_6, c7_7, c7_8, c7_9⟩ := HS.out.c10 7 _ _ _ _ _ _ _ _ _ _ _ _ rfl
        obtain ⟨c8_0, c8_1, c8_2, c8_3⟩ := HS.out.c4 8 _ _ _ _ _ _ rfl
        go_wp2_with fail
        obtain ⟨_, _, hq_, hd3_, hR3_⟩ := HS.out.rowC 1 rfl
        injection hq_ with q1_ _ q2_
        subst q1_ q2_
        obtain ⟨_, _, hq_, hd4_, hR4_⟩ := HS.out.rowC 0 rfl
        injection hq_ with q1_ _ q2_
        subst q1_ q2_
        refine (sameShot HS.out _ _ _ _ _ _ _ _ B3 d3 ((PS.setMode fst s 1)).now B4 d4 s.now hR3_ hd3_ hR4_ hd4_ (by rw [setMode_len fst s 1 HI.out.len]; omega) false (by symm; rw [decide_eq_false_iff_not]; rintro ⟨_, _, h, _⟩; rw [HG.out.1] at h; omega)).mono ?_
        rintro e w68_ ⟨rfl, HSn⟩
        replace HS : Hid (St [SL.row (Kd.int .u32) 39 (.slice B4 (s).now.length d4) (s).now, SL.row (Kd.int .u32) 39 (.slice B3 ((PS.setMode fst s 1)).now.length d3) ((PS.setMode fst s 1)).now, SL.row (Kd.int .u32) 39 (.slice B2 (s).now.length d2) (s).now, SL.row (Kd.int .u32) 39 (.slice B1 (s).now.length d1) (s).now, part g11 id name may fst (PS.setMode fst s 1), SL.row (Kd.int .u32) 39 (.slice A2 (s).now.length c2) (s).now, part g5 id name may fst s, SL.blk g6 76 #[.int .i64 id, .string name, .bool may, .slice A fst.length c, .int .i64 (s).mode, .int .i64 (s).starts, .int .i64 (s).cause, .slice A fst.length c, .slice A2 (s).now.length c2, .int .i64 (s).wr], SL.blk g2 63 #[.int .i64 id, .string name, .bool may, .slice A fst.length c]] w w68_) := Go.Lib.hid HSn
        clear HSn
        clear c7_0 c7_1 c7_2 c7_3 c7_4 c7_5 c7_6 c7_7 c7_8 c7_9 c8_0 c8_1 c8_2 c8_3
        obtain ⟨c7_0, c7_1, c7_2, c7_3, c7_4, c7_5, c7_6, c7_7, c7_8, c7_9⟩ := HS.out.c10 7 _ _ _ _ _ _ _ _ _ _ _ _ rfl
        obtain ⟨c8_0, c8_1, c8_2, c8_3⟩ := HS.out.c4 8 _ _ _ _ _ _ rfl
        clear hR3_ hR4_
        go_wp2_with fail
        clear c7_0 c7_1 c7_2 c7_3 c7_4 c7_5 c7_6 c7_7 c7_8 c7_9 c8_0 c8_1 c8_2 c8_3
        replace HS := Go.Lib.hid HS.out.drew
        refine start_ (n := 9) (S := fun w' => w'.cell? ⟨g6, 0, none⟩ = some (.int .i64 id) ∧ w'.cell? ⟨g6, 1, none⟩ = some (.string name) ∧ w'.cell? ⟨g6, 2, none⟩ = some (.bool may) ∧ w'.cell? ⟨g6, 3, none⟩ = some (.slice A fst.length c) ∧ w'.cell? ⟨g6, 4, none⟩ = some (.int .i64 (s).mode) ∧ w'.cell? ⟨g6, 5, none⟩ = some (.int .i64 (s).starts) ∧ w'.cell? ⟨g6, 6, none⟩ = some (.int .i64 (s).cause) ∧ w'.cell? ⟨g6, 7, none⟩ = some (.slice A fst.length c) ∧ w'.cell? ⟨g6, 8, none⟩ = some (.slice A2 (s).now.length c2) ∧ w'.cell? ⟨g6, 9, none⟩ = some (.int .i64 (s).wr)) (ds := []) #[false, false, false, false, false, false, false, false, false] (by kernel_rfl) rfl rfl ⟨HS.out.cell 7 _ _ _ rfl 0, HS.out.cell 7 _ _ _ rfl 1, HS.out.cell 7 _ _ _ rfl 2, HS.out.cell 7 _ _ _ rfl 3, HS.out.cell 7 _ _ _ rfl 4, HS.out.cell 7 _ _ _ rfl 5, HS.out.cell 7 _ _ _ rfl 6, HS.out.cell 7 _ _ _ rfl 7, HS.out.cell 7 _ _ _ rfl 8, HS.out.cell 7 _ _ _ rfl 9⟩ (fun hHeld => ?_)
        generalize w68_.drew = W_ at *
        refine pure_ (i := 0) (N := some 122) (v := ?_) (a' := ?_) #[true, false, false, false, false, false, false, false, false] rfl rfl (by kernel_rfl) (fun _ _ _ h => h) (Or.inl ⟨by rfl, ?_⟩) ?_ ?_
        rotate_left
        · intro w'
          go_simp
          with_reducible rfl
        rotate_left
        · simp only [Act.put, List.setIfInBounds_toArray, List.set_cons_zero, List.set_cons_succ, i64_w, i32_w]
          rfl
        refine take_ (i := 2) (N := some 124) (v := ?_) (a' := ?_) #[true, false, true, false, false, false, false, false, false] rfl rfl (by kernel_rfl) (fun _ _ _ h => h) (Or.inl ⟨by rfl, ?_⟩) hHeld ?_ ?_
        rotate_left
        · rintro w' ⟨s0_, s1_, s2_, s3_, s4_, s5_, s6_, s7_, s8_, s9_⟩
          go_simp
          with_reducible rfl
        rotate_left
        · simp only [Act.put, List.setIfInBounds_toArray, List.set_cons_zero, List.set_cons_succ, i64_w, i32_w]
          rfl
        refine one_ (i := 1) (N := some 123) #[true, true, true, false, false, false, false, false, false] rfl rfl (by kernel_rfl) (by decide) (fun K hK => ?_)
        refine goes_ Try.func47 (by kernel_rfl) rfl #[.pointer (some ⟨g5, 0, none⟩)] (by rfl) rfl rfl (by (try simp only [List.map_toArray, List.map_cons, List.map_nil]); first | done | rfl) ?_
        refine (shot_at HS.out 6 rfl (by rw [HI.out.len]; omega)).mono ?_
        rintro e w91 ⟨A9, c9, rfl, hS91⟩
        have HS91 := Go.Lib.hid hS91
        clear hS91
        refine ⟨_, rfl, ?_⟩
        refine hK.out _ _ ⟨HS91.out.cell 8 _ _ _ rfl 0, HS91.out.cell 8 _ _ _ rfl 1, HS91.out.cell 8 _ _ _ rfl 2, HS91.out.cell 8 _ _ _ rfl 3, HS91.out.cell 8 _ _ _ rfl 4, HS91.out.cell 8 _ _ _ rfl 5, HS91.out.cell 8 _ _ _ rfl 6, HS91.out.cell 8 _ _ _ rfl 7, HS91.out.cell 8 _ _ _ rfl 8, HS91.out.cell 8 _ _ _ rfl 9⟩ (fun hHeld => ?_)
        clear hK K
        refine norm_ (a' := ?_) ?_ ?_
        rotate_left
        · show Act.put _ (some 123) _ = _
          simp only [Act.put, List.setIfInBounds_toArray, List.set_cons_zero, List.set_cons_succ, i64_w, i32_w]
          rfl
        refine one_ (i := 3) (N := some 125) #[true, true, true, true, false, false, false, false, false] rfl rfl (by kernel_rfl) (by decide) (fun K hK => ?_)
        refine goes_ Try.func49 (by kernel_rfl) rfl #[.agg #[.int .i64 id, .int .i64 (s).mode, .int .i64 (s).starts, .int .i64 (s).cause, .slice A9 (s).now.length c9], .agg #[.int .i64 id, .string name, .bool may, .slice A fst.length c, .int .i64 (s).mode, .int .i64 (s).starts, .int .i64 (s).cause, .slice A fst.length c, .slice A2 (s).now.length c2, .int .i64 (s).wr]] (by rfl) rfl rfl (by (try simp only [List.map_toArray, List.map_cons, List.map_nil]); first | done | rfl) ?_
        refine (unlike_eq ((HS91.out.front 6 _ rfl).front 1 _ rfl) (by rw [HI.out.len]; omega)).mono ?_
        rintro e w92 ⟨rfl, hS92⟩
        have HS92 := Go.Lib.hid hS92
        clear hS92
        refine ⟨_, rfl, ?_⟩
        refine hK.out _ _ ⟨HS92.out.cell 8 _ _ _ rfl 0, HS92.out.cell 8 _ _ _ rfl 1, HS92.out.cell 8 _ _ _ rfl 2, HS92.out.cell 8 _ _ _ rfl 3, HS92.out.cell 8 _ _ _ rfl 4, HS92.out.cell 8 _ _ _ rfl 5, HS92.out.cell 8 _ _ _ rfl 6, HS92.out.cell 8 _ _ _ rfl 7, HS92.out.cell 8 _ _ _ rfl 8, HS92.out.cell 8 _ _ _ rfl 9⟩ (fun hHeld => ?_)
        clear hK K
        refine norm_ (a' := ?_) ?_ ?_
        rotate_left
        · show Act.put _ (some 125) _ = _
          simp only [Act.put, List.setIfInBounds_toArray, List.set_cons_zero, List.set_cons_succ, i64_w, i32_w]
          rfl
        refine pure_ (i := 4) (N := some 126) (v := ?_) (a' := ?_) #[true, true, true, true, true, false, false, false, false] rfl rfl (by kernel_rfl) (fun _ _ _ h => h) (Or.inl ⟨by rfl, ?_⟩) ?_ ?_
        rotate_left
        · intro w'
          go_simp
          with_reducible rfl
        rotate_left
        · simp only [Act.put, List.setIfInBounds_toArray, List.set_cons_zero, List.set_cons_succ, i64_w, i32_w]
          rfl
        refine pure_ (i := 5) (N := some 127) (v := ?_) (a' := ?_) #[true, true, true, true, true, true, false, false, false] rfl rfl (by kernel_rfl) (fun _ _ _ h => h) (Or.inl ⟨by rfl, ?_⟩) ?_ ?_
        rotate_left
        · intro w'
          go_simp
          with_reducible rfl
        rotate_left
        · simp only [Act.put, List.setIfInBounds_toArray, List.set_cons_zero, List.set_cons_succ, i64_w, i32_w]
          rfl
        refine one_ (i := 6) (N := some 128) #[true, true, true, true, true, true, true, false, false] rfl rfl (by kernel_rfl) (by decide) (fun K hK => ?_)
        refine goes_ Try.func38 (by kernel_rfl) rfl #[] (by rfl) rfl rfl (by (try simp only [List.map_toArray, List.map_cons, List.map_nil]); first | done | rfl) ?_
        refine (awake_st HS92.out).mono ?_
        rintro e w93 ⟨rfl, hS93⟩
        have HS93 := Go.Lib.hid hS93
        clear hS93
        refine ⟨_, rfl, ?_⟩
        refine hK.out _ _ ⟨HS93.out.cell 8 _ _ _ rfl 0, HS93.out.cell 8 _ _ _ rfl 1, HS93.out.cell 8 _ _ _ rfl 2, HS93.out.cell 8 _ _ _ rfl 3, HS93.out.cell 8 _ _ _ rfl 4, HS93.out.cell 8 _ _ _ rfl 5, HS93.out.cell 8 _ _ _ rfl 6, HS93.out.cell 8 _ _ _ rfl 7, HS93.out.cell 8 _ _ _ rfl 8, HS93.out.cell 8 _ _ _ rfl 9⟩ (fun hHeld => ?_)
        clear hK K
        refine norm_ (a' := ?_) ?_ ?_
        rotate_left
        · show Act.put _ (some 128) _ = _
          simp only [Act.put, List.setIfInBounds_toArray, List.set_cons_zero, List.set_cons_succ, i64_w, i32_w]
          rfl
        refine pure_ (i := 7) (N := some 129) (v := ?_) (a' := ?_) #[true, true, true, true, true, true, true, true, false] rfl rfl (by kernel_rfl) (fun _ _ _ h => h) (Or.inl ⟨by rfl, ?_⟩) ?_ ?_
        rotate_left
        · intro w'
          go_simp
          with_reducible rfl
        rotate_left
        · simp only [Act.put, List.setIfInBounds_toArray, List.set_cons_zero, List.set_cons_succ, i64_w, i32_w]
          rfl
        refine pure_ (i := 8) (N := some 4) (v := ?_) (a' := ?_) #[true, true, true, true, true, true, true, true, true] rfl rfl (by kernel_rfl) (fun _ _ _ h => h) (Or.inl ⟨by rfl, ?_⟩) ?_ ?_
        rotate_left
        · intro w'
          go_simp
          with_reducible rfl
        rotate_left
        · simp only [Act.put, List.setIfInBounds_toArray, List.set_cons_zero, List.set_cons_succ, i64_w, i32_w]
          rfl
        refine done_ (by kernel_rfl) ?_
        go_wp2_with fail
        go_ret
        exact ⟨rfl, HS93.out.below⟩
      · have ez : (c3_ == 0) = false := beq_eq_false_iff_ne.2 hz
        clear hz
        refine (setMode_code HS.out 2 rfl 1 c3_ HK.out HI.out.s0 (by have := HI.out.s1; omega) (by omega)).mono ?_
        rintro e w65_ ⟨rfl, HSn⟩
        replace HS : Hid (St [SL.row (Kd.int .u32) 39 (.slice B2 (s).now.length d2) (s).now, SL.row (Kd.int .u32) 39 (.slice B1 (s).now.length d1) (s).now, part g11 id name may fst (PS.setMode fst s 1), SL.row (Kd.int .u32) 39 (.slice A2 (s).now.length c2) (s).now, part g5 id name may fst s, SL.blk g6 76 #[.int .i64 id, .string name, .bool may, .slice A fst.length c, .int .i64 (s).mode, .int .i64 (s).starts, .int .i64 (s).cause, .slice A fst.length c, .slice A2 (s).now.length c2, .int .i64 (s).wr], SL.blk g2 63 #[.int .i64 id, .string name, .bool may, .slice A fst.length c]] w w65_) := Go.Lib.hid HSn
        clear HSn
        clear c5_0 c5_1 c5_2 c5_3 c5_4 c5_5 c5_6 c5_7 c5_8 c5_9 c6_0 c6_1 c6_2 c6_3
        obtain ⟨c5_0, c5_1, c5_2, c5_3, c5_4, c5_5, c5_6, c5_7, c5_8, c5_9⟩ := HS.out.c10 5 _ _ _ _ _ _ _ _ _ _ _ _ rfl
        obtain ⟨c6_0, c6_1, c6_2, c6_3⟩ := HS.out.c4 6 _ _ _ _ _ _ rfl
        go_wp2_with fail
        clear c5_0 c5_1 c5_2 c5_3 c5_4 c5_5 c5_6 c5_7 c5_8 c5_9 c6_0 c6_1 c6_2 c6_3
        replace HS := Go.Lib.hid HS.out.drew
        refine start_ (n := 9) (S := fun w' => w'.cell? ⟨g6, 0, none⟩ = some (.int .i64 id) ∧ w'.cell? ⟨g6, 1, none⟩ = some (.string name) ∧ w'.cell? ⟨g6, 2, none⟩ = some (.bool may) ∧ w'.cell? ⟨g6, 3, none⟩ = some (.slice A fst.length c) ∧ w'.cell? ⟨g6, 4, none⟩ = some (.int .i64 (s).mode) ∧ w'.cell? ⟨g6, 5, none⟩ = some (.int .i64 (s).starts) ∧ w'.cell? ⟨g6, 6, none⟩ = some (.int .i64 (s).cause) ∧ w'.cell? ⟨g6, 7, none⟩ = some (.slice A fst.length c) ∧ w'.cell? ⟨g6, 8, none⟩ = some (.slice A2 (s).now.length c2) ∧ w'.cell? ⟨g6, 9, none⟩ = some (.int .i64 (s).wr)) (ds := []) #[false, false, false, false, false, false, false, false, false] (by kernel_rfl) rfl rfl ⟨HS.out.cell 5 _ _ _ rfl 0, HS.out.cell 5 _ _ _ rfl 1, HS.out.cell 5 _ _ _ rfl 2, HS.out.cell 5 _ _ _ rfl 3, HS.out.cell 5 _ _ _ rfl 4, HS.out.cell 5 _ _ _ rfl 5, HS.out.cell 5 _ _ _ rfl 6, HS.out.cell 5 _ _ _ rfl 7, HS.out.cell 5 _ _ _ rfl 8, HS.out.cell 5 _ _ _ rfl 9⟩ (fun hHeld => ?_)
        generalize w65_.drew = W_ at *
        refine pure_ (i := 0) (N := some 122) (v := ?_) (a' := ?_) #[true, false, false, false, false, false, false, false, false] rfl rfl (by kernel_rfl) (fun _ _ _ h => h) (Or.inl ⟨by rfl, ?_⟩) ?_ ?_
        rotate_left
        · intro w'
          go_simp
          with_reducible rfl
        rotate_left
        · simp only [Act.put, List.setIfInBounds_toArray, List.set_cons_zero, List.set_cons_succ, i64_w, i32_w]
          rfl
        refine take_ (i := 2) (N := some 124) (v := ?_) (a' := ?_) #[true, false, true, false, false, false, false, false, false] rfl rfl (by kernel_rfl) (fun _ _ _ h => h) (Or.inl ⟨by rfl, ?_⟩) hHeld ?_ ?_
        rotate_left
        · rintro w' ⟨s0_, s1_, s2_, s3_, s4_, s5_, s6_, s7_, s8_, s9_⟩
          go_simp
          with_reducible rfl
        rotate_left
        · simp only [Act.put, List.setIfInBounds_toArray, List.set_cons_zero, List.set_cons_succ, i64_w, i32_w]
          rfl
        refine one_ (i := 1) (N := some 123) #[true, true, true, false, false, false, false, false, false] rfl rfl (by kernel_rfl) (by decide) (fun K hK => ?_)
        refine goes_ Try.func47 (by kernel_rfl) rfl #[.pointer (some ⟨g5, 0, none⟩)] (by rfl) rfl rfl (by (try simp only [List.map_toArray, List.map_cons, List.map_nil]); first | done | rfl) ?_
        refine (shot_at HS.out 4 rfl (by rw [HI.out.len]; omega)).mono ?_
        rintro e w91 ⟨A9, c9, rfl, hS91⟩
        have HS91 := Go.Lib.hid hS91
        clear hS91
        refine ⟨_, rfl, ?_⟩
        refine hK.out _ _ ⟨HS91.out.cell 6 _ _ _ rfl 0, HS91.out.cell 6 _ _ _ rfl 1, HS91.out.cell 6 _ _ _ rfl 2, HS91.out.cell 6 _ _ _ rfl 3, HS91.out.cell 6 _ _ _ rfl 4, HS91.out.cell 6 _ _ _ rfl 5, HS91.out.cell 6 _ _ _ rfl 6, HS91.out.cell 6 _ _ _ rfl 7, HS91.out.cell 6 _ _ _ rfl 8, HS91.out.cell 6 _ _ _ rfl 9⟩ (fun hHeld => ?_)
        clear hK K
        refine norm_ (a' := ?_) ?_ ?_
        rotate_left
        · show Act.put _ (some 123) _ = _
          simp only [Act.put, List.setIfInBounds_toArray, List.set_cons_zero, List.set_cons_succ, i64_w, i32_w]
          rfl
        refine one_ (i := 3) (N := some 125) #[true, true, true, true, false, false, false, false, false] rfl rfl (by kernel_rfl) (by decide) (fun K hK => ?_)
        refine goes_ Try.func49 (by kernel_rfl) rfl #[.agg #[.int .i64 id, .int .i64 (s).mode, .int .i64 (s).starts, .int .i64 (s).cause, .slice A9 (s).now.length c9], .agg #[.int .i64 id, .string name, .bool may, .slice A fst.length c, .int .i64 (s).mode, .int .i64 (s).starts, .int .i64 (s).cause, .slice A fst.length c, .slice A2 (s).now.length c2, .int .i64 (s).wr]] (by rfl) rfl rfl (by (try simp only [List.map_toArray, List.map_cons, List.map_nil]); first | done | rfl) ?_
        refine (unlike_eq ((HS91.out.front 4 _ rfl).front 1 _ rfl) (by rw [HI.out.len]; omega)).mono ?_
        rintro e w92 ⟨rfl, hS92⟩
        have HS92 := Go.Lib.hid hS92
        clear hS92
        refine ⟨_, rfl, ?_⟩
        refine hK.out _ _ ⟨HS92.out.cell 6 _ _ _ rfl 0, HS92.out.cell 6 _ _ _ rfl 1, HS92.out.cell 6 _ _ _ rfl 2, HS92.out.cell 6 _ _ _ rfl 3, HS92.out.cell 6 _ _ _ rfl 4, HS92.out.cell 6 _ _ _ rfl 5, HS92.out.cell 6 _ _ _ rfl 6, HS92.out.cell 6 _ _ _ rfl 7, HS92.out.cell 6 _ _ _ rfl 8, HS92.out.cell 6 _ _ _ rfl 9⟩ (fun hHeld => ?_)
        clear hK K
        refine norm_ (a' := ?_) ?_ ?_
        rotate_left
        · show Act.put _ (some 125) _ = _
          simp only [Act.put, List.setIfInBounds_toArray, List.set_cons_zero, List.set_cons_succ, i64_w, i32_w]
          rfl
        refine pure_ (i := 4) (N := some 126) (v := ?_) (a' := ?_) #[true, true, true, true, true, false, false, false, false] rfl rfl (by kernel_rfl) (fun _ _ _ h => h) (Or.inl ⟨by rfl, ?_⟩) ?_ ?_
        rotate_left
        · intro w'
          go_simp
          with_reducible rfl
        rotate_left
        · simp only [Act.put, List.setIfInBounds_toArray, List.set_cons_zero, List.set_cons_succ, i64_w, i32_w]
          rfl
        refine pure_ (i := 5) (N := some 127) (v := ?_) (a' := ?_) #[true, true, true, true, true, true, false, false, false] rfl rfl (by kernel_rfl) (fun _ _ _ h => h) (Or.inl ⟨by rfl, ?_⟩) ?_ ?_
        rotate_left
        · intro w'
          go_simp
          with_reducible rfl
        rotate_left
        · simp only [Act.put, List.setIfInBounds_toArray, List.set_cons_zero, List.set_cons_succ, i64_w, i32_w]
          rfl
        refine one_ (i := 6) (N := some 128) #[true, true, true, true, true, true, true, false, false] rfl rfl (by kernel_rfl) (by decide) (fun K hK => ?_)
        refine goes_ Try.func38 (by kernel_rfl) rfl #[] (by rfl) rfl rfl (by (try simp only [List.map_toArray, List.map_cons, List.map_nil]); first | done | rfl) ?_
        refine (awake_st HS92.out).mono ?_
        rintro e w93 ⟨rfl, hS93⟩
        have HS93 := Go.Lib.hid hS93
        clear hS93
        refine ⟨_, rfl, ?_⟩
        refine hK.out _ _ ⟨HS93.out.cell 6 _ _ _ rfl 0, HS93.out.cell 6 _ _ _ rfl 1, HS93.out.cell 6 _ _ _ rfl 2, HS93.out.cell 6 _ _ _ rfl 3, HS93.out.cell 6 _ _ _ rfl 4, HS93.out.cell 6 _ _ _ rfl 5, HS93.out.cell 6 _ _ _ rfl 6, HS93.out.cell 6 _ _ _ rfl 7, HS93.out.cell 6 _ _ _ rfl 8, HS93.out.cell 6 _ _ _ rfl 9⟩ (fun hHeld => ?_)
        clear hK K
        refine norm_ (a' := ?_) ?_ ?_
        rotate_left
        · show Act.put _ (some 128) _ = _
          simp only [Act.put, List.setIfInBounds_toArray, List.set_cons_zero, List.set_cons_succ, i64_w, i32_w]
          rfl
        refine pure_ (i := 7) (N := some 129) (v := ?_) (a' := ?_) #[true, true, true, true, true, true, true, true, false] rfl rfl (by kernel_rfl) (fun _ _ _ h => h) (Or.inl ⟨by rfl, ?_⟩) ?_ ?_
        rotate_left
        · intro w'
          go_simp
          with_reducible rfl
        rotate_left
        · simp only [Act.put, List.setIfInBounds_toArray, List.set_cons_zero, List.set_cons_succ, i64_w, i32_w]
          rfl
        refine pure_ (i := 8) (N := some 4) (v := ?_) (a' := ?_) #[true, true, true, true, true, true, true, true, true] rfl rfl (by kernel_rfl) (fun _ _ _ h => h) (Or.inl ⟨by rfl, ?_⟩) ?_ ?_
        rotate_left
        · intro w'
          go_simp
          with_reducible rfl
        rotate_left
        · simp only [Act.put, List.setIfInBounds_toArray, List.set_cons_zero, List.set_cons_succ, i64_w, i32_w]
          rfl
        refine done_ (by kernel_rfl) ?_
        go_wp2_with fail
        go_ret
        exact ⟨rfl, HS93.out.below⟩
end Go.Proofs.Ytkmhgolohppliaa.Prt
