/- PartIdle, walked. -/
import Derived.Test.YtkmhgolohppliaaRp6
import Derived.Deep.DeepCutAuto
namespace Go.Proofs.Ytkmhgolohppliaa.Prt
open Go.RowKit Go.Proofs.Ytkmhgolohppliaa.PCellsPlays Go.Proofs.YtkmhgolohppliaaW.PrintWords Go.Proofs.YtkmhgolohppliaaW.PrintLast Go.Proofs.YtkmhgolohppliaaW.PrintMore Go.Proofs.Ytkmhgolohppliaa.Mine Go.Proofs.Ytkmhgolohppliaa.Cel Go.Proofs.Ytkmhgolohppliaa.Cls
open Go.Proofs.Ytkmhgolohppliaa.Sl (SL Stp St No)
open Go.Proofs.Ytkmhgolohppliaa.Mod (strt actM runs right askd)
set_option linter.unusedVariables false
set_option linter.unusedSimpArgs false
attribute [local go_sem] max2_int min2_int max_two min_two max_three min_three max_four min_four
theorem become_mode_ (fst : List S43) (s : PS) (m st c : Int) : (s.become fst m st c).mode = m := by unfold PS.become; split <;> (try split) <;> rfl
theorem mset_mode (now want : Int) (h0 : 0 ≤ now) (h1 : now ≤ 3) : 0 ≤ (mset now want).1 ∧ (mset now want).1 ≤ 3 := by
  by_cases hr : right want = true
  · have h2 : 0 ≤ want ∧ want ≤ 3 := by simpa [right] using hr
    unfold mset Go.Proofs.Ytkmhgolohppliaa.Mod.setM
    split
    · exact h2
    · exact ⟨h0, h1⟩
  · have h3 : askd now want = 3 := by unfold askd; rw [if_neg hr]
    unfold mset Go.Proofs.Ytkmhgolohppliaa.Mod.setM
    rw [h3]
    exact ⟨h0, h1⟩
theorem setMode_mode (fst : List S43) (s : PS) (want : Int) (h0 : 0 ≤ s.mode) (h1 : s.mode ≤ 3) : 0 ≤ (s.setMode fst want).mode ∧ (s.setMode fst want).mode ≤ 3 := by
  unfold PS.setMode
  split
  · rw [become_mode_]; exact mset_mode _ _ h0 h1
  · exact ⟨h0, h1⟩
theorem act_mode (fst : List S43) (s : PS) (a : Int) (h0 : 0 ≤ s.mode) (h1 : s.mode ≤ 3) : 0 ≤ (s.act fst a).mode ∧ (s.act fst a).mode ≤ 3 := by
  unfold PS.act
  split
  · exact ⟨h0, h1⟩
  · rw [become_mode_]
    unfold actM
    (repeat' split) <;> simp <;> omega
/-- What is kept: the mode's bounds, the starts', the cells' number, the writes'. -/
structure Inv (fst : List S43) (s : PS) (k : Int) : Prop where
  m0 : 0 ≤ s.mode
  m1 : s.mode ≤ 3
  s0 : 0 ≤ s.starts
  s1 : s.starts ≤ 1 + k
  q0 : 0 ≤ s.wr
  q1 : s.wr ≤ k
  len : s.now.length = fst.length
theorem Inv.init (fst : List S43) : Inv fst (PS.init fst) 0 := ⟨(show (0 : Int) ≤ 1 by decide), (show (1 : Int) ≤ 3 by decide), (show (0 : Int) ≤ 1 by decide), (show (1 : Int) ≤ 1 + 0 by decide), (show (0 : Int) ≤ 0 by decide), (show (0 : Int) ≤ 0 by decide), by simp [PS.init]⟩
theorem setMode_starts_le (fst : List S43) (s : PS) (want : Int) (h : 0 ≤ s.starts) : 0 ≤ (s.setMode fst want).starts ∧ (s.setMode fst want).starts ≤ s.starts + 1 := by
  unfold PS.setMode; split
  · rw [become_starts]; split <;> omega
  · omega
theorem act_starts_le (fst : List S43) (s : PS) (a : Int) (h : 0 ≤ s.starts) : 0 ≤ (s.act fst a).starts ∧ (s.act fst a).starts ≤ s.starts + 1 := by
  unfold PS.act; split
  · omega
  · rw [become_starts]; split <;> omega
theorem Inv.setMode {fst : List S43} {s : PS} {k : Int} (h : Inv fst s k) (want : Int) : Inv fst (s.setMode fst want) (k + 1) := by
  have a := setMode_mode fst s want h.m0 h.m1; have b := setMode_starts_le fst s want h.s0; have d := setMode_wr fst s want h.q0
  have h1 := h.s1; have h2 := h.q1
  exact ⟨a.1, a.2, b.1, by omega, d.1, by omega, setMode_len fst s want h.len⟩
theorem Inv.act {fst : List S43} {s : PS} {k : Int} (h : Inv fst s k) (want : Int) : Inv fst (s.act fst want) (k + 1) := by
  have a := act_mode fst s want h.m0 h.m1; have b := act_starts_le fst s want h.s0; have d := act_wr fst s want h.q0
  have h1 := h.s1; have h2 := h.q1
  exact ⟨a.1, a.2, b.1, by omega, d.1, by omega, act_len fst s want h.len⟩
theorem Inv.more {fst : List S43} {s : PS} {k : Int} (h : Inv fst s k) : Inv fst s (k + 1) := ⟨h.m0, h.m1, h.s0, by have := h.s1; omega, h.q0, by have := h.q1; omega, h.len⟩
theorem Inv.write {fst : List S43} {s : PS} {k : Int} (h : Inv fst s k) (i x : Int) : Inv fst (s.write i x) (k + 1) := by
  have a := write_starts s i x; have d := write_wr s i x h.q0
  have h1 := h.s1; have h2 := h.q1; have h3 := h.m0; have h4 := h.m1; have h5 := h.s0
  exact ⟨by rw [a.2.2]; exact h3, by rw [a.2.2]; exact h4, by rw [a.1]; exact h5, by rw [a.1]; omega, d.1, by omega, write_len fst s i x h.len⟩
theorem Inv.step {fst : List S43} {s : PS} {k : Int} (h : Inv fst s k) (x : S67) : Inv fst (stepP fst s x) (k + 1) := by
  unfold stepP
  split
  · exact h.setMode _
  · split
    · exact h.write _ _
    · split
      · exact h.act _
      · exact h.more

theorem mset_idle (want : Int) : (mset 0 want).2.2 ≠ 0 := by
  unfold mset Go.Proofs.Ytkmhgolohppliaa.Mod.setM
  have h : askd 0 want ≠ 0 := by
    unfold askd
    have hr : runs 0 = false := by decide
    rw [hr]
    split <;> simp
  rw [if_neg h]; exact h
theorem act_idle (a : Int) : (actM 0 a).2.1 = 0 := by
  unfold actM
  have hr : runs 0 = false := by decide
  rw [hr]
  (repeat' split) <;> simp_all
theorem step_idle (fst : List S43) (s : PS) (x : S67) (h : s.mode = 0) : stepP fst s x = s := by
  unfold stepP
  split
  · unfold PS.setMode; rw [h, if_neg (mset_idle _)]
  · split
    · have hr : runs 0 = false := by decide
      unfold PS.write PS.cell
      rw [h, hr]; simp
    · split
      · unfold PS.act; rw [h, if_pos (act_idle _)]
      · rfl
theorem to_idle (fst : List S43) (s : PS) (h0 : 0 ≤ s.mode) (h1 : s.mode ≤ 3) : (s.setMode fst 0).mode = 0 := by
  unfold PS.setMode
  have hm : s.mode = 0 ∨ s.mode = 1 ∨ s.mode = 2 ∨ s.mode = 3 := by omega
  rcases hm with h | h | h | h <;> rw [h]
  · rw [if_neg (mset_idle _)]; exact h
  all_goals
    rw [if_pos (by decide), become_mode_]; decide
theorem setMode_to {l : List SL} {w0 w : World} {g : Nat} {id : Int} {name : ByteArray} {may : Bool} {fst : List S43} {s : PS} (h : St l w0 w) (k : Nat) (e : l[k]? = some (part g id name may fst s)) (want : Int) (s' : PS) (hs : s' = s.setMode fst want) (hs0 : 0 ≤ s.starts) (hs1 : s.starts ≤ 1000000) (hn : fst.length ≤ 1000000) : Calls Try.prog 40 #[.pointer (some ⟨g, 0, none⟩), .int .i64 want] w fun e w' => (∃ c3, e = .returned (.int .i64 c3)) ∧ St (l.set k (part g id name may fst s')) w0 w' := by
  rw [hs]; exact (setMode_at h k e want hs0 hs1 hn).mono fun _ _ ⟨he, hS⟩ => ⟨⟨_, he⟩, hS⟩
theorem two_idle {l : List SL} {w0 w : World} {g : Nat} {id : Int} {name : ByteArray} {may : Bool} {fst : List S43} {s t : PS} {A A2 : Option Addr} {c c2 : Nat} (hz : s.mode = 0) (h : St (SL.row (Kd.int .u32) 39 (.slice A2 (t).now.length c2) (t).now :: part g id name may fst s :: l) w0 w) (x : S67) (hC : k43.C w0 A fst.length fst) (hl : t.now.length = fst.length) (hs0 : 0 ≤ s.starts) (hs1 : s.starts ≤ 1000000) (ht0 : 0 ≤ t.starts) (ht1 : t.starts ≤ 1000000) (hn : fst.length ≤ 1000) (hm0 : 0 ≤ t.mode) (hm1 : t.mode ≤ 3) (hq0 : 0 ≤ s.wr) (hq1 : s.wr ≤ 1000000) (hp0 : 0 ≤ t.wr) (hp1 : t.wr ≤ 1000000) :
    Calls Try.prog 46 #[.pointer (some ⟨g, 0, none⟩), .agg #[.int .i64 id, .string name, .bool may, .slice A fst.length c, .int .i64 (t).mode, .int .i64 (t).starts, .int .i64 (t).cause, .slice A fst.length c, .slice A2 (t).now.length c2, .int .i64 (t).wr], .agg #[.int .i64 x.f0, .int .i64 x.f1, .int .u32 x.f2]] w fun e w' => ∃ A3 c3 b, e = .returned (.tuple #[.agg #[.int .i64 id, .string name, .bool may, .slice A fst.length c, .int .i64 (stepP fst t x).mode, .int .i64 (stepP fst t x).starts, .int .i64 (stepP fst t x).cause, .slice A fst.length c, .slice A3 (stepP fst t x).now.length c3, .int .i64 (stepP fst t x).wr], .bool b]) ∧ St (SL.row (Kd.int .u32) 39 (.slice A3 (stepP fst t x).now.length c3) (stepP fst t x).now :: part g id name may fst s :: l) w0 w' := by
  have h1 := two_calls (c := c) h x hC hl hs0 hs1 ht0 ht1 hn hm0 hm1 hq0 hq1 hp0 hp1
  rw [step_idle fst s x hz] at h1
  exact h1

set_option maxHeartbeats 6400000 in
set_option maxRecDepth 100000 in
theorem partIdle_walk (w : World) (v0 : Value) (hv : ∃ id name may A n c fst, v0 = .agg #[.int .i64 id, .string name, .bool may, .slice A n c] ∧ n ≤ c ∧ k43.C w A n fst ∧ name.size ≤ maxLen ∧ (Lit.int .i64 id).wf = true ∧ ∀ z ∈ fst, (Lit.int .u32 z.f0).wf = true)
    (A1 : Option Addr) (n1 c1 : Nat) (pre : List S67) (hP0 : n1 ≤ c1 ∧ k67.C w A1 n1 pre ∧ ∀ z ∈ pre, (Lit.int .i64 z.f0).wf = true ∧ (Lit.int .i64 z.f1).wf = true ∧ (Lit.int .u32 z.f2).wf = true)
    (OA : Option Addr) (n2 oc : Nat) (ops : List S67) (hO0 : n2 ≤ oc ∧ k67.C w OA n2 ops ∧ ∀ z ∈ ops, (Lit.int .i64 z.f0).wf = true ∧ (Lit.int .i64 z.f1).wf = true ∧ (Lit.int .u32 z.f2).wf = true) :
    Calls Try.prog 9 #[v0, .slice A1 n1 c1, .slice OA n2 oc] w fun e w' => e = .returned (.bool true) ∧ Below w.heap.size w w' := by
  obtain ⟨id, name, may, A, n, c, fst, rfl, _, hC0, _, _, _⟩ := hv
  have hC := Go.Lib.hid hC0
  have hA := Go.Lib.hid hP0.2.1
  have hO := Go.Lib.hid hO0.2.1
  clear hC0 hO0 hP0
  obtain rfl : fst.length = n := hC.out.1
  have HS := Go.Lib.hid (St.start w)
  by_cases h1 : (40 : Int) < (fst.length : Int)
  · have h1' : decide ((40 : Int) < (fst.length : Int)) = true := by simpa using h1
    clear hC hO hA h1
    go_enter Try.func9, Try.ntmps9
    go_wp2_with (first | ((with_reducible refine gate_dst (N := 3) rfl ?_); refine Sl.box_st HS.out (by rfl) (cs := #[.int .i64 id, .string name, .bool may, .slice A fst.length c]) (t := 63) ?hr ?_; (case hr => first | (go_simp; done) | (go_simp; rfl)); intro g2 w1_ HSn HBn; clear HBn; replace HS : Hid (St [SL.blk g2 63 #[.int .i64 id, .string name, .bool may, .slice A fst.length c]] w w1_) := Go.Lib.hid HSn; clear HSn; obtain ⟨c0_0, c0_1, c0_2, c0_3⟩ := HS.out.c4 0 _ _ _ _ _ _ rfl) | (go_at_call 38; refine (awake_st HS.out).mono ?_; rintro e w2_ ⟨rfl, HSn⟩; replace HS : Hid (St [SL.blk g2 63 #[.int .i64 id, .string name, .bool may, .slice A fst.length c]] w w2_) := Go.Lib.hid HSn; clear HSn; clear c0_0 c0_1 c0_2 c0_3; obtain ⟨c0_0, c0_1, c0_2, c0_3⟩ := HS.out.c4 0 _ _ _ _ _ _ rfl))
    go_ret
    exact ⟨rfl, HS.out.below⟩
  have h1' : decide ((40 : Int) < (fst.length : Int)) = false := by simpa using h1
  by_cases h2 : (60 : Int) < (n2 : Int)
  · have h2' : decide ((60 : Int) < (n2 : Int)) = true := by simpa using h2
    clear hC hO hA h2
    go_enter Try.func9, Try.ntmps9
    go_wp2_with (first | ((with_reducible refine gate_dst (N := 3) rfl ?_); refine Sl.box_st HS.out (by rfl) (cs := #[.int .i64 id, .string name, .bool may, .slice A fst.length c]) (t := 63) ?hr ?_; (case hr => first | (go_simp; done) | (go_simp; rfl)); intro g2 w1_ HSn HBn; clear HBn; replace HS : Hid (St [SL.blk g2 63 #[.int .i64 id, .string name, .bool may, .slice A fst.length c]] w w1_) := Go.Lib.hid HSn; clear HSn; obtain ⟨c0_0, c0_1, c0_2, c0_3⟩ := HS.out.c4 0 _ _ _ _ _ _ rfl) | (go_at_call 38; refine (awake_st HS.out).mono ?_; rintro e w2_ ⟨rfl, HSn⟩; replace HS : Hid (St [SL.blk g2 63 #[.int .i64 id, .string name, .bool may, .slice A fst.length c]] w w2_) := Go.Lib.hid HSn; clear HSn; clear c0_0 c0_1 c0_2 c0_3; obtain ⟨c0_0, c0_1, c0_2, c0_3⟩ := HS.out.c4 0 _ _ _ _ _ _ rfl))
    go_ret
    exact ⟨rfl, HS.out.below⟩
  have h2' : decide ((60 : Int) < (n2 : Int)) = false := by simpa using h2
  by_cases h3 : (60 : Int) < (n1 : Int)
  · have h3' : decide ((60 : Int) < (n1 : Int)) = true := by simpa using h3
    clear hC hO hA h3
    go_enter Try.func9, Try.ntmps9
    go_wp2_with (first | ((with_reducible refine gate_dst (N := 3) rfl ?_); refine Sl.box_st HS.out (by rfl) (cs := #[.int .i64 id, .string name, .bool may, .slice A fst.length c]) (t := 63) ?hr ?_; (case hr => first | (go_simp; done) | (go_simp; rfl)); intro g2 w1_ HSn HBn; clear HBn; replace HS : Hid (St [SL.blk g2 63 #[.int .i64 id, .string name, .bool may, .slice A fst.length c]] w w1_) := Go.Lib.hid HSn; clear HSn; obtain ⟨c0_0, c0_1, c0_2, c0_3⟩ := HS.out.c4 0 _ _ _ _ _ _ rfl) | (go_at_call 38; refine (awake_st HS.out).mono ?_; rintro e w2_ ⟨rfl, HSn⟩; replace HS : Hid (St [SL.blk g2 63 #[.int .i64 id, .string name, .bool may, .slice A fst.length c]] w w2_) := Go.Lib.hid HSn; clear HSn; clear c0_0 c0_1 c0_2 c0_3; obtain ⟨c0_0, c0_1, c0_2, c0_3⟩ := HS.out.c4 0 _ _ _ _ _ _ rfl))
    go_ret
    exact ⟨rfl, HS.out.below⟩
  have h3' : decide ((60 : Int) < (n1 : Int)) = false := by simpa using h3
  have hn : fst.length ≤ 40 := by omega
  have hn1 : n1 ≤ 60 := by omega
  have hn2 : n2 ≤ 60 := by omega
  clear h1 h2 h3
  go_enter Try.func9, Try.ntmps9
  go_wp2_with (first | ((with_reducible refine gate_dst (N := 3) rfl ?_); refine Sl.box_st HS.out (by rfl) (cs := #[.int .i64 id, .string name, .bool may, .slice A fst.length c]) (t := 63) ?hr ?_; (case hr => first | (go_simp; done) | (go_simp; rfl)); intro g2 w1_ HSn HBn; clear HBn; replace HS : Hid (St [SL.blk g2 63 #[.int .i64 id, .string name, .bool may, .slice A fst.length c]] w w1_) := Go.Lib.hid HSn; clear HSn; obtain ⟨c0_0, c0_1, c0_2, c0_3⟩ := HS.out.c4 0 _ _ _ _ _ _ rfl) | (go_at_call 39; refine (new_hd HS.out A c (HS.out.C hC.out) (by omega)).mono ?_; rintro e w2_ ⟨g5, rfl, HSn⟩; replace HS : Hid (St [part g5 id name may fst (PS.init fst), SL.blk g2 63 #[.int .i64 id, .string name, .bool may, .slice A fst.length c]] w w2_) := Go.Lib.hid HSn; clear HSn; clear c0_0 c0_1 c0_2 c0_3; obtain ⟨c1_0, c1_1, c1_2, c1_3⟩ := HS.out.c4 1 _ _ _ _ _ _ rfl) | (go_at_call 45; refine (rnew21 HS.out hC.out (by omega)).mono ?_; rintro e w3_ ⟨A2, c2, rfl, HSn⟩; replace HS : Hid (St [SL.row (Kd.int .u32) 39 (.slice A2 ((PS.init fst)).now.length c2) ((PS.init fst)).now, part g5 id name may fst (PS.init fst), SL.blk g2 63 #[.int .i64 id, .string name, .bool may, .slice A fst.length c]] w w3_) := Go.Lib.hid HSn; clear HSn; clear c1_0 c1_1 c1_2 c1_3; obtain ⟨c2_0, c2_1, c2_2, c2_3⟩ := HS.out.c4 2 _ _ _ _ _ _ rfl) | ((with_reducible refine gate_dst (N := 8) rfl ?_); refine Sl.box_st HS.out (by rfl) (cs := #[.int .i64 0, .string ⟨#[]⟩, .bool false, .slice none 0 0, .int .i64 0, .int .i64 0, .int .i64 0, .slice none 0 0, .slice none 0 0, .int .i64 0]) (t := 76) ?hr ?_; (case hr => first | (go_simp; done) | (go_simp; rfl)); intro g8 w4_ HSn HBn; clear HBn; replace HS : Hid (St [SL.blk g8 76 #[.int .i64 0, .string ⟨#[]⟩, .bool false, .slice none 0 0, .int .i64 0, .int .i64 0, .int .i64 0, .slice none 0 0, .slice none 0 0, .int .i64 0], SL.row (Kd.int .u32) 39 (.slice A2 ((PS.init fst)).now.length c2) ((PS.init fst)).now, part g5 id name may fst (PS.init fst), SL.blk g2 63 #[.int .i64 id, .string name, .bool may, .slice A fst.length c]] w w4_) := Go.Lib.hid HSn; clear HSn; clear c2_0 c2_1 c2_2 c2_3; obtain ⟨c0_0, c0_1, c0_2, c0_3, c0_4, c0_5, c0_6, c0_7, c0_8, c0_9⟩ := HS.out.c10 0 _ _ _ _ _ _ _ _ _ _ _ _ rfl; obtain ⟨c3_0, c3_1, c3_2, c3_3⟩ := HS.out.c4 3 _ _ _ _ _ _ rfl) | ((with_reducible refine gate_store (p := 8) rfl ?_); refine Sl.storeAll_st HS.out 0 g8 76 _ rfl [.int .i64 id, .string name, .bool may, .slice A fst.length c, .int .i64 ((PS.init fst)).mode, .int .i64 ((PS.init fst)).starts, .int .i64 ((PS.init fst)).cause, .slice A fst.length c, .slice A2 ((PS.init fst)).now.length c2, .int .i64 ((PS.init fst)).wr] rfl (by rfl) (by rfl) ?hr ?_; (case hr => have f_ := HS.out.f10 0 _ _ _ _ _ _ _ _ _ _ _ _ rfl; (try obtain ⟨f0, f1, f2, f3, f4, f5, f6, f7, f8, f9⟩ := f_); first | (go_simp; done) | (go_simp; rfl)); intro w5_ HSn; replace HS : Hid (St [SL.blk g8 76 #[.int .i64 id, .string name, .bool may, .slice A fst.length c, .int .i64 ((PS.init fst)).mode, .int .i64 ((PS.init fst)).starts, .int .i64 ((PS.init fst)).cause, .slice A fst.length c, .slice A2 ((PS.init fst)).now.length c2, .int .i64 ((PS.init fst)).wr], SL.row (Kd.int .u32) 39 (.slice A2 ((PS.init fst)).now.length c2) ((PS.init fst)).now, part g5 id name may fst (PS.init fst), SL.blk g2 63 #[.int .i64 id, .string name, .bool may, .slice A fst.length c]] w w5_) := Go.Lib.hid HSn; clear HSn; clear c0_0 c0_1 c0_2 c0_3 c0_4 c0_5 c0_6 c0_7 c0_8 c0_9 c3_0 c3_1 c3_2 c3_3; obtain ⟨c0_0, c0_1, c0_2, c0_3, c0_4, c0_5, c0_6, c0_7, c0_8, c0_9⟩ := HS.out.c10 0 _ _ _ _ _ _ _ _ _ _ _ _ rfl; obtain ⟨c3_0, c3_1, c3_2, c3_3⟩ := HS.out.c4 3 _ _ _ _ _ _ rfl))
  go_loopw [37] (fun i wr => ∃ (k : Nat) (s : PS) (A2 : Option Addr) (c2 : Nat), k ≤ n1 ∧ i = .int .i64 k ∧ Inv fst s k ∧ St [SL.row (Kd.int .u32) 39 (.slice A2 (s).now.length c2) (s).now, part g5 id name may fst s, SL.blk g8 76 #[.int .i64 id, .string name, .bool may, .slice A fst.length c, .int .i64 (s).mode, .int .i64 (s).starts, .int .i64 (s).cause, .slice A fst.length c, .slice A2 (s).now.length c2, .int .i64 (s).wr], SL.blk g2 63 #[.int .i64 id, .string name, .bool may, .slice A fst.length c]] w wr) (fun i _ => n1 - (intOf i).toNat)
  case atStart => exact ⟨0, PS.init fst, _, _, Nat.zero_le _, rfl, Inv.init fst, HS.out.down⟩
  case round =>
    clear HS c0_0 c0_1 c0_2 c0_3 c0_4 c0_5 c0_6 c0_7 c0_8 c0_9 c3_0 c3_1 c3_2 c3_3
    obtain ⟨k, s, A2, c2, hk, rfl, hI, hS⟩ := hrel
    have HS := Go.Lib.hid hS
    have HI := Go.Lib.hid hI
    clear hS hI
    by_cases hlt : k < n1
    · obtain ⟨ad, rfl, gg0, gg1, gg2⟩ := at_T67 (HS.out.C hA.out) (k : Int) (by omega) (by omega)
      rw [Int.toNat_natCast] at gg0 gg1 gg2
      generalize rd_T67 pre (k : Int) = x at *
      obtain ⟨c2_0, c2_1, c2_2, c2_3, c2_4, c2_5, c2_6, c2_7, c2_8, c2_9⟩ := HS.out.c10 2 _ _ _ _ _ _ _ _ _ _ _ _ rfl
      obtain ⟨c3_0, c3_1, c3_2, c3_3⟩ := HS.out.c4 3 _ _ _ _ _ _ rfl
      go_wp2_with (first | ((with_reducible refine gate_dst (N := 10) rfl ?_); refine Sl.box_st HS.out (by rfl) (cs := #[.int .i64 0, .int .i64 0, .int .u32 0]) (t := 67) ?hr ?_; (case hr => first | (go_simp; done) | (go_simp; rfl)); intro g10 w31_ HSn HBn; clear HBn; replace HS : Hid (St [SL.blk g10 67 #[.int .i64 0, .int .i64 0, .int .u32 0], SL.row (Kd.int .u32) 39 (.slice A2 (s).now.length c2) (s).now, part g5 id name may fst s, SL.blk g8 76 #[.int .i64 id, .string name, .bool may, .slice A fst.length c, .int .i64 (s).mode, .int .i64 (s).starts, .int .i64 (s).cause, .slice A fst.length c, .slice A2 (s).now.length c2, .int .i64 (s).wr], SL.blk g2 63 #[.int .i64 id, .string name, .bool may, .slice A fst.length c]] w w31_) := Go.Lib.hid HSn; clear HSn; clear c2_0 c2_1 c2_2 c2_3 c2_4 c2_5 c2_6 c2_7 c2_8 c2_9 c3_0 c3_1 c3_2 c3_3; obtain ⟨c0_0, c0_1, c0_2⟩ := HS.out.c3 0 _ _ _ _ _ rfl; obtain ⟨c3_0, c3_1, c3_2, c3_3, c3_4, c3_5, c3_6, c3_7, c3_8, c3_9⟩ := HS.out.c10 3 _ _ _ _ _ _ _ _ _ _ _ _ rfl; obtain ⟨c4_0, c4_1, c4_2, c4_3⟩ := HS.out.c4 4 _ _ _ _ _ _ rfl) | ((with_reducible refine gate_store (p := 10) rfl ?_); refine Sl.storeAll_st HS.out 0 g10 67 _ rfl [.int .i64 x.f0, .int .i64 x.f1, .int .u32 x.f2] rfl (by rfl) (by rfl) ?hr ?_; (case hr => have f_ := HS.out.f3 0 _ _ _ _ _ rfl; (try obtain ⟨f0, f1, f2⟩ := f_); first | (go_simp; done) | (go_simp; rfl)); intro w32_ HSn; replace HS : Hid (St [SL.blk g10 67 #[.int .i64 x.f0, .int .i64 x.f1, .int .u32 x.f2], SL.row (Kd.int .u32) 39 (.slice A2 (s).now.length c2) (s).now, part g5 id name may fst s, SL.blk g8 76 #[.int .i64 id, .string name, .bool may, .slice A fst.length c, .int .i64 (s).mode, .int .i64 (s).starts, .int .i64 (s).cause, .slice A fst.length c, .slice A2 (s).now.length c2, .int .i64 (s).wr], SL.blk g2 63 #[.int .i64 id, .string name, .bool may, .slice A fst.length c]] w w32_) := Go.Lib.hid HSn; clear HSn; clear c0_0 c0_1 c0_2 c3_0 c3_1 c3_2 c3_3 c3_4 c3_5 c3_6 c3_7 c3_8 c3_9 c4_0 c4_1 c4_2 c4_3; obtain ⟨c0_0, c0_1, c0_2⟩ := HS.out.c3 0 _ _ _ _ _ rfl; obtain ⟨c3_0, c3_1, c3_2, c3_3, c3_4, c3_5, c3_6, c3_7, c3_8, c3_9⟩ := HS.out.c10 3 _ _ _ _ _ _ _ _ _ _ _ _ rfl; obtain ⟨c4_0, c4_1, c4_2, c4_3⟩ := HS.out.c4 4 _ _ _ _ _ _ rfl) | (go_at_call 46; refine (one_calls ((HS.out.front 2 _ rfl).front 2 _ rfl) x hC.out HI.out.len HI.out.s0 (by have := HI.out.s1; omega) (by omega) HI.out.m0 HI.out.m1 HI.out.q0 (by have := HI.out.q1; omega)).mono ?_; rintro e w33_ ⟨A3, c3, rfl, HSn⟩; replace HS : Hid (St [SL.row (Kd.int .u32) 39 (.slice A3 ((stepP fst s x)).now.length c3) ((stepP fst s x)).now, part g5 id name may fst (stepP fst s x), SL.blk g10 67 #[.int .i64 x.f0, .int .i64 x.f1, .int .u32 x.f2], SL.blk g8 76 #[.int .i64 id, .string name, .bool may, .slice A fst.length c, .int .i64 (s).mode, .int .i64 (s).starts, .int .i64 (s).cause, .slice A fst.length c, .slice A2 (s).now.length c2, .int .i64 (s).wr], SL.blk g2 63 #[.int .i64 id, .string name, .bool may, .slice A fst.length c]] w w33_) := Go.Lib.hid HSn; clear HSn; clear c0_0 c0_1 c0_2 c3_0 c3_1 c3_2 c3_3 c3_4 c3_5 c3_6 c3_7 c3_8 c3_9 c4_0 c4_1 c4_2 c4_3; obtain ⟨c2_0, c2_1, c2_2⟩ := HS.out.c3 2 _ _ _ _ _ rfl; obtain ⟨c3_0, c3_1, c3_2, c3_3, c3_4, c3_5, c3_6, c3_7, c3_8, c3_9⟩ := HS.out.c10 3 _ _ _ _ _ _ _ _ _ _ _ _ rfl; obtain ⟨c4_0, c4_1, c4_2, c4_3⟩ := HS.out.c4 4 _ _ _ _ _ _ rfl) | ((with_reducible refine gate_store (p := 8) rfl ?_); refine Sl.storeAll_st HS.out 3 g8 76 _ rfl [.int .i64 id, .string name, .bool may, .slice A fst.length c, .int .i64 ((stepP fst s x)).mode, .int .i64 ((stepP fst s x)).starts, .int .i64 ((stepP fst s x)).cause, .slice A fst.length c, .slice A3 ((stepP fst s x)).now.length c3, .int .i64 ((stepP fst s x)).wr] rfl (by rfl) (by rfl) ?hr ?_; (case hr => have f_ := HS.out.f10 3 _ _ _ _ _ _ _ _ _ _ _ _ rfl; (try obtain ⟨f0, f1, f2, f3, f4, f5, f6, f7, f8, f9⟩ := f_); first | (go_simp; done) | (go_simp; rfl)); intro w34_ HSn; replace HS : Hid (St [SL.row (Kd.int .u32) 39 (.slice A3 ((stepP fst s x)).now.length c3) ((stepP fst s x)).now, part g5 id name may fst (stepP fst s x), SL.blk g10 67 #[.int .i64 x.f0, .int .i64 x.f1, .int .u32 x.f2], SL.blk g8 76 #[.int .i64 id, .string name, .bool may, .slice A fst.length c, .int .i64 ((stepP fst s x)).mode, .int .i64 ((stepP fst s x)).starts, .int .i64 ((stepP fst s x)).cause, .slice A fst.length c, .slice A3 ((stepP fst s x)).now.length c3, .int .i64 ((stepP fst s x)).wr], SL.blk g2 63 #[.int .i64 id, .string name, .bool may, .slice A fst.length c]] w w34_) := Go.Lib.hid HSn; clear HSn; clear c2_0 c2_1 c2_2 c3_0 c3_1 c3_2 c3_3 c3_4 c3_5 c3_6 c3_7 c3_8 c3_9 c4_0 c4_1 c4_2 c4_3; obtain ⟨c2_0, c2_1, c2_2⟩ := HS.out.c3 2 _ _ _ _ _ rfl; obtain ⟨c3_0, c3_1, c3_2, c3_3, c3_4, c3_5, c3_6, c3_7, c3_8, c3_9⟩ := HS.out.c10 3 _ _ _ _ _ _ _ _ _ _ _ _ rfl; obtain ⟨c4_0, c4_1, c4_2, c4_3⟩ := HS.out.c4 4 _ _ _ _ _ _ rfl))
      have HI2 := Go.Lib.hid (HI.out.step x)
      go_roundw
      case rel => exact ⟨k + 1, stepP fst s x, _, _, by omega, by go_num, by have := HI2.out; simpa using this, HS.out.erase 2⟩
      case measure => simp [intOf]; omega
    · obtain rfl : k = n1 := by omega
      obtain ⟨s1, hs1⟩ : ∃ s1, s1 = s.setMode fst 0 := ⟨_, rfl⟩
      have HQ := Go.Lib.hid hs1
      have HZ : Hid (s1.mode = 0) := Go.Lib.hid (by rw [hs1]; exact to_idle fst s HI.out.m0 HI.out.m1)
      have HI1 : Hid (Inv fst s1 (k + 1)) := Go.Lib.hid (by rw [hs1]; exact HI.out.setMode 0)
      clear hs1
      obtain ⟨c2_0, c2_1, c2_2, c2_3, c2_4, c2_5, c2_6, c2_7, c2_8, c2_9⟩ := HS.out.c10 2 _ _ _ _ _ _ _ _ _ _ _ _ rfl
      obtain ⟨c3_0, c3_1, c3_2, c3_3⟩ := HS.out.c4 3 _ _ _ _ _ _ rfl
      go_wp2_with (first | (go_at_call 40; refine (setMode_to HS.out 1 rfl 0 s1 HQ.out HI.out.s0 (by have := HI.out.s1; omega) (by omega)).mono ?_; rintro e w61_ ⟨⟨c9_, rfl⟩, HSn⟩; replace HS : Hid (St [SL.row (Kd.int .u32) 39 (.slice A2 (s).now.length c2) (s).now, part g5 id name may fst s1, SL.blk g8 76 #[.int .i64 id, .string name, .bool may, .slice A fst.length c, .int .i64 (s).mode, .int .i64 (s).starts, .int .i64 (s).cause, .slice A fst.length c, .slice A2 (s).now.length c2, .int .i64 (s).wr], SL.blk g2 63 #[.int .i64 id, .string name, .bool may, .slice A fst.length c]] w w61_) := Go.Lib.hid HSn; clear HSn; clear c2_0 c2_1 c2_2 c2_3 c2_4 c2_5 c2_6 c2_7 c2_8 c2_9 c3_0 c3_1 c3_2 c3_3; obtain ⟨c2_0, c2_1, c2_2, c2_3, c2_4, c2_5, c2_6, c2_7, c2_8, c2_9⟩ := HS.out.c10 2 _ _ _ _ _ _ _ _ _ _ _ _ rfl; obtain ⟨c3_0, c3_1, c3_2, c3_3⟩ := HS.out.c4 3 _ _ _ _ _ _ rfl) | (go_at_call 47; refine (shot_at HS.out 1 rfl (by rw [HI1.out.len]; omega)).mono ?_; rintro e w62_ ⟨B1, d1, rfl, HSn⟩; replace HS : Hid (St [SL.row (Kd.int .u32) 39 (.slice B1 (s1).now.length d1) (s1).now, SL.row (Kd.int .u32) 39 (.slice A2 (s).now.length c2) (s).now, part g5 id name may fst s1, SL.blk g8 76 #[.int .i64 id, .string name, .bool may, .slice A fst.length c, .int .i64 (s).mode, .int .i64 (s).starts, .int .i64 (s).cause, .slice A fst.length c, .slice A2 (s).now.length c2, .int .i64 (s).wr], SL.blk g2 63 #[.int .i64 id, .string name, .bool may, .slice A fst.length c]] w w62_) := Go.Lib.hid HSn; clear HSn; clear c2_0 c2_1 c2_2 c2_3 c2_4 c2_5 c2_6 c2_7 c2_8 c2_9 c3_0 c3_1 c3_2 c3_3; obtain ⟨c3_0, c3_1, c3_2, c3_3, c3_4, c3_5, c3_6, c3_7, c3_8, c3_9⟩ := HS.out.c10 3 _ _ _ _ _ _ _ _ _ _ _ _ rfl; obtain ⟨c4_0, c4_1, c4_2, c4_3⟩ := HS.out.c4 4 _ _ _ _ _ _ rfl) | ((with_reducible refine gate_dst (N := 11) rfl ?_); refine Sl.box_st HS.out (by rfl) (cs := #[.int .i64 0, .int .i64 0, .int .i64 0, .int .i64 0, .slice none 0 0]) (t := 81) ?hr ?_; (case hr => first | (go_simp; done) | (go_simp; rfl)); intro g11 w63_ HSn HBn; clear HBn; replace HS : Hid (St [SL.blk g11 81 #[.int .i64 0, .int .i64 0, .int .i64 0, .int .i64 0, .slice none 0 0], SL.row (Kd.int .u32) 39 (.slice B1 (s1).now.length d1) (s1).now, SL.row (Kd.int .u32) 39 (.slice A2 (s).now.length c2) (s).now, part g5 id name may fst s1, SL.blk g8 76 #[.int .i64 id, .string name, .bool may, .slice A fst.length c, .int .i64 (s).mode, .int .i64 (s).starts, .int .i64 (s).cause, .slice A fst.length c, .slice A2 (s).now.length c2, .int .i64 (s).wr], SL.blk g2 63 #[.int .i64 id, .string name, .bool may, .slice A fst.length c]] w w63_) := Go.Lib.hid HSn; clear HSn; clear c3_0 c3_1 c3_2 c3_3 c3_4 c3_5 c3_6 c3_7 c3_8 c3_9 c4_0 c4_1 c4_2 c4_3; obtain ⟨c0_0, c0_1, c0_2, c0_3, c0_4⟩ := HS.out.c5 0 _ _ _ _ _ _ _ rfl; obtain ⟨c4_0, c4_1, c4_2, c4_3, c4_4, c4_5, c4_6, c4_7, c4_8, c4_9⟩ := HS.out.c10 4 _ _ _ _ _ _ _ _ _ _ _ _ rfl; obtain ⟨c5_0, c5_1, c5_2, c5_3⟩ := HS.out.c4 5 _ _ _ _ _ _ rfl) | ((with_reducible refine gate_store (p := 11) rfl ?_); refine Sl.storeAll_st HS.out 0 g11 81 _ rfl [.int .i64 id, .int .i64 (s1).mode, .int .i64 (s1).starts, .int .i64 (s1).cause, .slice B1 (s1).now.length d1] rfl (by rfl) (by rfl) ?hr ?_; (case hr => have f_ := HS.out.f5 0 _ _ _ _ _ _ _ rfl; (try obtain ⟨f0, f1, f2, f3, f4⟩ := f_); first | (go_simp; done) | (go_simp; rfl)); intro w64_ HSn; replace HS : Hid (St [SL.blk g11 81 #[.int .i64 id, .int .i64 (s1).mode, .int .i64 (s1).starts, .int .i64 (s1).cause, .slice B1 (s1).now.length d1], SL.row (Kd.int .u32) 39 (.slice B1 (s1).now.length d1) (s1).now, SL.row (Kd.int .u32) 39 (.slice A2 (s).now.length c2) (s).now, part g5 id name may fst s1, SL.blk g8 76 #[.int .i64 id, .string name, .bool may, .slice A fst.length c, .int .i64 (s).mode, .int .i64 (s).starts, .int .i64 (s).cause, .slice A fst.length c, .slice A2 (s).now.length c2, .int .i64 (s).wr], SL.blk g2 63 #[.int .i64 id, .string name, .bool may, .slice A fst.length c]] w w64_) := Go.Lib.hid HSn; clear HSn; clear c0_0 c0_1 c0_2 c0_3 c0_4 c4_0 c4_1 c4_2 c4_3 c4_4 c4_5 c4_6 c4_7 c4_8 c4_9 c5_0 c5_1 c5_2 c5_3; obtain ⟨c0_0, c0_1, c0_2, c0_3, c0_4⟩ := HS.out.c5 0 _ _ _ _ _ _ _ rfl; obtain ⟨c4_0, c4_1, c4_2, c4_3, c4_4, c4_5, c4_6, c4_7, c4_8, c4_9⟩ := HS.out.c10 4 _ _ _ _ _ _ _ _ _ _ _ _ rfl; obtain ⟨c5_0, c5_1, c5_2, c5_3⟩ := HS.out.c4 5 _ _ _ _ _ _ rfl))
      go_loopw [55] (fun i wr => ∃ (j : Nat) (t : PS) (A2 : Option Addr) (c2 : Nat), j ≤ n2 ∧ i = .int .i64 j ∧ Inv fst t (k + j) ∧ St [SL.blk g11 81 #[.int .i64 id, .int .i64 (s1).mode, .int .i64 (s1).starts, .int .i64 (s1).cause, .slice B1 (s1).now.length d1], SL.row (Kd.int .u32) 39 (.slice B1 (s1).now.length d1) (s1).now, SL.row (Kd.int .u32) 39 (.slice A2 (t).now.length c2) (t).now, part g5 id name may fst s1, SL.blk g8 76 #[.int .i64 id, .string name, .bool may, .slice A fst.length c, .int .i64 (t).mode, .int .i64 (t).starts, .int .i64 (t).cause, .slice A fst.length c, .slice A2 (t).now.length c2, .int .i64 (t).wr], SL.blk g2 63 #[.int .i64 id, .string name, .bool may, .slice A fst.length c]] w wr) (fun i _ => n2 - (intOf i).toNat)
      case atStart => exact ⟨0, s, _, _, Nat.zero_le _, rfl, by have := HI.out; simpa using this, HS.out⟩
      case round =>
        clear HS c0_0 c0_1 c0_2 c0_3 c0_4 c4_0 c4_1 c4_2 c4_3 c4_4 c4_5 c4_6 c4_7 c4_8 c4_9 c5_0 c5_1 c5_2 c5_3
        obtain ⟨j, t, A2, c2, hj, rfl, hT, hS⟩ := hrel
        have HS := Go.Lib.hid hS
        have HT := Go.Lib.hid hT
        clear hS hT
        by_cases hjlt : j < n2
        · obtain ⟨ad2, rfl, gg0, gg1, gg2⟩ := at_T67 (HS.out.C hO.out) (j : Int) (by omega) (by omega)
          rw [Int.toNat_natCast] at gg0 gg1 gg2
          generalize rd_T67 ops (j : Int) = x at *
          obtain ⟨c0_0, c0_1, c0_2, c0_3, c0_4⟩ := HS.out.c5 0 _ _ _ _ _ _ _ rfl
          obtain ⟨c4_0, c4_1, c4_2, c4_3, c4_4, c4_5, c4_6, c4_7, c4_8, c4_9⟩ := HS.out.c10 4 _ _ _ _ _ _ _ _ _ _ _ _ rfl
          obtain ⟨c5_0, c5_1, c5_2, c5_3⟩ := HS.out.c4 5 _ _ _ _ _ _ rfl
          go_wp2_with (first | ((with_reducible refine gate_dst (N := 13) rfl ?_); refine Sl.box_st HS.out (by rfl) (cs := #[.int .i64 0, .int .i64 0, .int .u32 0]) (t := 67) ?hr ?_; (case hr => first | (go_simp; done) | (go_simp; rfl)); intro g13 w91_ HSn HBn; clear HBn; replace HS : Hid (St [SL.blk g13 67 #[.int .i64 0, .int .i64 0, .int .u32 0], SL.blk g11 81 #[.int .i64 id, .int .i64 (s1).mode, .int .i64 (s1).starts, .int .i64 (s1).cause, .slice B1 (s1).now.length d1], SL.row (Kd.int .u32) 39 (.slice B1 (s1).now.length d1) (s1).now, SL.row (Kd.int .u32) 39 (.slice A2 (t).now.length c2) (t).now, part g5 id name may fst s1, SL.blk g8 76 #[.int .i64 id, .string name, .bool may, .slice A fst.length c, .int .i64 (t).mode, .int .i64 (t).starts, .int .i64 (t).cause, .slice A fst.length c, .slice A2 (t).now.length c2, .int .i64 (t).wr], SL.blk g2 63 #[.int .i64 id, .string name, .bool may, .slice A fst.length c]] w w91_) := Go.Lib.hid HSn; clear HSn; clear c0_0 c0_1 c0_2 c0_3 c0_4 c4_0 c4_1 c4_2 c4_3 c4_4 c4_5 c4_6 c4_7 c4_8 c4_9 c5_0 c5_1 c5_2 c5_3; obtain ⟨c0_0, c0_1, c0_2⟩ := HS.out.c3 0 _ _ _ _ _ rfl; obtain ⟨c1_0, c1_1, c1_2, c1_3, c1_4⟩ := HS.out.c5 1 _ _ _ _ _ _ _ rfl; obtain ⟨c5_0, c5_1, c5_2, c5_3, c5_4, c5_5, c5_6, c5_7, c5_8, c5_9⟩ := HS.out.c10 5 _ _ _ _ _ _ _ _ _ _ _ _ rfl; obtain ⟨c6_0, c6_1, c6_2, c6_3⟩ := HS.out.c4 6 _ _ _ _ _ _ rfl) | ((with_reducible refine gate_store (p := 13) rfl ?_); refine Sl.storeAll_st HS.out 0 g13 67 _ rfl [.int .i64 x.f0, .int .i64 x.f1, .int .u32 x.f2] rfl (by rfl) (by rfl) ?hr ?_; (case hr => have f_ := HS.out.f3 0 _ _ _ _ _ rfl; (try obtain ⟨f0, f1, f2⟩ := f_); first | (go_simp; done) | (go_simp; rfl)); intro w92_ HSn; replace HS : Hid (St [SL.blk g13 67 #[.int .i64 x.f0, .int .i64 x.f1, .int .u32 x.f2], SL.blk g11 81 #[.int .i64 id, .int .i64 (s1).mode, .int .i64 (s1).starts, .int .i64 (s1).cause, .slice B1 (s1).now.length d1], SL.row (Kd.int .u32) 39 (.slice B1 (s1).now.length d1) (s1).now, SL.row (Kd.int .u32) 39 (.slice A2 (t).now.length c2) (t).now, part g5 id name may fst s1, SL.blk g8 76 #[.int .i64 id, .string name, .bool may, .slice A fst.length c, .int .i64 (t).mode, .int .i64 (t).starts, .int .i64 (t).cause, .slice A fst.length c, .slice A2 (t).now.length c2, .int .i64 (t).wr], SL.blk g2 63 #[.int .i64 id, .string name, .bool may, .slice A fst.length c]] w w92_) := Go.Lib.hid HSn; clear HSn; clear c0_0 c0_1 c0_2 c1_0 c1_1 c1_2 c1_3 c1_4 c5_0 c5_1 c5_2 c5_3 c5_4 c5_5 c5_6 c5_7 c5_8 c5_9 c6_0 c6_1 c6_2 c6_3; obtain ⟨c0_0, c0_1, c0_2⟩ := HS.out.c3 0 _ _ _ _ _ rfl; obtain ⟨c1_0, c1_1, c1_2, c1_3, c1_4⟩ := HS.out.c5 1 _ _ _ _ _ _ _ rfl; obtain ⟨c5_0, c5_1, c5_2, c5_3, c5_4, c5_5, c5_6, c5_7, c5_8, c5_9⟩ := HS.out.c10 5 _ _ _ _ _ _ _ _ _ _ _ _ rfl; obtain ⟨c6_0, c6_1, c6_2, c6_3⟩ := HS.out.c4 6 _ _ _ _ _ _ rfl) | (go_at_call 46; refine (two_idle HZ.out ((HS.out.front 4 _ rfl).front 4 _ rfl) x hC.out HT.out.len HI1.out.s0 (by have := HI1.out.s1; omega) HT.out.s0 (by have := HT.out.s1; omega) (by omega) HT.out.m0 HT.out.m1 HI1.out.q0 (by have := HI1.out.q1; omega) HT.out.q0 (by have := HT.out.q1; omega)).mono ?_; rintro e w93_ ⟨A3, c3, b3, rfl, HSn⟩; replace HS : Hid (St [SL.row (Kd.int .u32) 39 (.slice A3 ((stepP fst t x)).now.length c3) ((stepP fst t x)).now, part g5 id name may fst s1, SL.blk g13 67 #[.int .i64 x.f0, .int .i64 x.f1, .int .u32 x.f2], SL.blk g11 81 #[.int .i64 id, .int .i64 (s1).mode, .int .i64 (s1).starts, .int .i64 (s1).cause, .slice B1 (s1).now.length d1], SL.row (Kd.int .u32) 39 (.slice B1 (s1).now.length d1) (s1).now, SL.blk g8 76 #[.int .i64 id, .string name, .bool may, .slice A fst.length c, .int .i64 (t).mode, .int .i64 (t).starts, .int .i64 (t).cause, .slice A fst.length c, .slice A2 (t).now.length c2, .int .i64 (t).wr], SL.blk g2 63 #[.int .i64 id, .string name, .bool may, .slice A fst.length c]] w w93_) := Go.Lib.hid HSn; clear HSn; clear c0_0 c0_1 c0_2 c1_0 c1_1 c1_2 c1_3 c1_4 c5_0 c5_1 c5_2 c5_3 c5_4 c5_5 c5_6 c5_7 c5_8 c5_9 c6_0 c6_1 c6_2 c6_3; obtain ⟨c2_0, c2_1, c2_2⟩ := HS.out.c3 2 _ _ _ _ _ rfl; obtain ⟨c3_0, c3_1, c3_2, c3_3, c3_4⟩ := HS.out.c5 3 _ _ _ _ _ _ _ rfl; obtain ⟨c5_0, c5_1, c5_2, c5_3, c5_4, c5_5, c5_6, c5_7, c5_8, c5_9⟩ := HS.out.c10 5 _ _ _ _ _ _ _ _ _ _ _ _ rfl; obtain ⟨c6_0, c6_1, c6_2, c6_3⟩ := HS.out.c4 6 _ _ _ _ _ _ rfl) | ((with_reducible refine gate_store (p := 8) rfl ?_); refine Sl.storeAll_st HS.out 5 g8 76 _ rfl [.int .i64 id, .string name, .bool may, .slice A fst.length c, .int .i64 ((stepP fst t x)).mode, .int .i64 ((stepP fst t x)).starts, .int .i64 ((stepP fst t x)).cause, .slice A fst.length c, .slice A3 ((stepP fst t x)).now.length c3, .int .i64 ((stepP fst t x)).wr] rfl (by rfl) (by rfl) ?hr ?_; (case hr => have f_ := HS.out.f10 5 _ _ _ _ _ _ _ _ _ _ _ _ rfl; (try obtain ⟨f0, f1, f2, f3, f4, f5, f6, f7, f8, f9⟩ := f_); first | (go_simp; done) | (go_simp; rfl)); intro w94_ HSn; replace HS : Hid (St [SL.row (Kd.int .u32) 39 (.slice A3 ((stepP fst t x)).now.length c3) ((stepP fst t x)).now, part g5 id name may fst s1, SL.blk g13 67 #[.int .i64 x.f0, .int .i64 x.f1, .int .u32 x.f2], SL.blk g11 81 #[.int .i64 id, .int .i64 (s1).mode, .int .i64 (s1).starts, .int .i64 (s1).cause, .slice B1 (s1).now.length d1], SL.row (Kd.int .u32) 39 (.slice B1 (s1).now.length d1) (s1).now, SL.blk g8 76 #[.int .i64 id, .string name, .bool may, .slice A fst.length c, .int .i64 ((stepP fst t x)).mode, .int .i64 ((stepP fst t x)).starts, .int .i64 ((stepP fst t x)).cause, .slice A fst.length c, .slice A3 ((stepP fst t x)).now.length c3, .int .i64 ((stepP fst t x)).wr], SL.blk g2 63 #[.int .i64 id, .string name, .bool may, .slice A fst.length c]] w w94_) := Go.Lib.hid HSn; clear HSn; clear c2_0 c2_1 c2_2 c3_0 c3_1 c3_2 c3_3 c3_4 c5_0 c5_1 c5_2 c5_3 c5_4 c5_5 c5_6 c5_7 c5_8 c5_9 c6_0 c6_1 c6_2 c6_3; obtain ⟨c2_0, c2_1, c2_2⟩ := HS.out.c3 2 _ _ _ _ _ rfl; obtain ⟨c3_0, c3_1, c3_2, c3_3, c3_4⟩ := HS.out.c5 3 _ _ _ _ _ _ _ rfl; obtain ⟨c5_0, c5_1, c5_2, c5_3, c5_4, c5_5, c5_6, c5_7, c5_8, c5_9⟩ := HS.out.c10 5 _ _ _ _ _ _ _ _ _ _ _ _ rfl; obtain ⟨c6_0, c6_1, c6_2, c6_3⟩ := HS.out.c4 6 _ _ _ _ _ _ rfl))
          have HT2 := Go.Lib.hid (HT.out.step x)
          go_roundw
          case rel => exact ⟨j + 1, stepP fst t x, _, _, by omega, by go_num, by have := HT2.out; rw [Int.add_assoc] at this; simpa using this, ((HS.out.erase 2).front 3 _ rfl).front 3 _ rfl⟩
          case measure => simp [intOf]; omega
        · obtain rfl : j = n2 := by omega
          have hz : (s1.mode == 0) = true := beq_iff_eq.2 HZ.out
          go_wp2_with fail
          replace HS := Go.Lib.hid HS.out.drew
          refine start_ (n := 13) (S := fun w' => w'.cell? ⟨g11, 0, none⟩ = some (.int .i64 id) ∧ w'.cell? ⟨g11, 1, none⟩ = some (.int .i64 (s1).mode) ∧ w'.cell? ⟨g11, 2, none⟩ = some (.int .i64 (s1).starts) ∧ w'.cell? ⟨g11, 3, none⟩ = some (.int .i64 (s1).cause) ∧ w'.cell? ⟨g11, 4, none⟩ = some (.slice B1 (s1).now.length d1)) (ds := []) #[false, false, false, false, false, false, false, false, false, false, false, false, false] (by kernel_rfl) rfl rfl ⟨HS.out.cell 0 _ _ _ rfl 0, HS.out.cell 0 _ _ _ rfl 1, HS.out.cell 0 _ _ _ rfl 2, HS.out.cell 0 _ _ _ rfl 3, HS.out.cell 0 _ _ _ rfl 4⟩ (fun hHeld => ?_)
          generalize wr.drew = W_ at *
          refine pure_ (i := 0) (N := some 67) (v := ?_) (a' := ?_) #[true, false, false, false, false, false, false, false, false, false, false, false, false] rfl rfl (by kernel_rfl) (fun _ _ _ h => h) (Or.inl ⟨by rfl, ?_⟩) ?_ ?_
          rotate_left
          · intro w'
            go_simp
            with_reducible rfl
          rotate_left
          · simp only [Act.put, List.setIfInBounds_toArray, List.set_cons_zero, List.set_cons_succ, i64_w, i32_w]
            rfl
          refine take_ (i := 1) (N := some 68) (v := ?_) (a' := ?_) #[true, true, false, false, false, false, false, false, false, false, false, false, false] rfl rfl (by kernel_rfl) (fun _ _ _ h => h) (Or.inl ⟨by rfl, ?_⟩) hHeld ?_ ?_
          rotate_left
          · rintro w' ⟨s0, s1_, s2, s3, s4⟩
            go_simp
            with_reducible rfl
          rotate_left
          · simp only [Act.put, List.setIfInBounds_toArray, List.set_cons_zero, List.set_cons_succ, i64_w, i32_w]
            rfl
          refine pure_ (i := 2) (N := some 69) (v := ?_) (a' := ?_) #[true, true, true, false, false, false, false, false, false, false, false, false, false] rfl rfl (by kernel_rfl) (fun _ _ _ h => h) (Or.inl ⟨by rfl, ?_⟩) ?_ ?_
          rotate_left
          · intro w'
            go_simp
            with_reducible rfl
          rotate_left
          · simp only [Act.put, List.setIfInBounds_toArray, List.set_cons_zero, List.set_cons_succ, i64_w, i32_w]
            rfl
          refine pure_ (i := 3) (N := some 70) (v := ?_) (a' := ?_) #[true, true, true, true, false, false, false, false, false, false, false, false, false] rfl rfl (by kernel_rfl) (fun _ _ _ h => h) (Or.inl ⟨by rfl, ?_⟩) ?_ ?_
          rotate_left
          · intro w'
            go_simp
            with_reducible rfl
          rotate_left
          · simp only [Act.put, List.setIfInBounds_toArray, List.set_cons_zero, List.set_cons_succ, i64_w, i32_w]
            rfl
          refine pure_ (i := 4) (N := some 71) (v := ?_) (a' := ?_) #[true, true, true, true, true, false, false, false, false, false, false, false, false] rfl rfl (by kernel_rfl) (fun _ _ _ h => h) (Or.inl ⟨by rfl, ?_⟩) ?_ ?_
          rotate_left
          · intro w'
            go_simp
            with_reducible rfl
          rotate_left
          · simp only [Act.put, List.setIfInBounds_toArray, List.set_cons_zero, List.set_cons_succ, i64_w, i32_w]
            rfl
          refine take_ (i := 6) (N := some 73) (v := ?_) (a' := ?_) #[true, true, true, true, true, false, true, false, false, false, false, false, false] rfl rfl (by kernel_rfl) (fun _ _ _ h => h) (Or.inl ⟨by rfl, ?_⟩) hHeld ?_ ?_
          rotate_left
          · rintro w' ⟨s0, s1_, s2, s3, s4⟩
            go_simp
            with_reducible rfl
          rotate_left
          · simp only [Act.put, List.setIfInBounds_toArray, List.set_cons_zero, List.set_cons_succ, i64_w, i32_w]
            rfl
          refine one_ (i := 5) (N := some 72) #[true, true, true, true, true, true, true, false, false, false, false, false, false] rfl rfl (by kernel_rfl) (by decide) (fun K hK => ?_)
          refine goes_ Try.func47 (by kernel_rfl) rfl #[.pointer (some ⟨g5, 0, none⟩)] (by rfl) rfl rfl (by (try simp only [List.map_toArray, List.map_cons, List.map_nil]); first | done | rfl) ?_
          refine (shot_at HS.out 3 rfl (by rw [HI1.out.len]; omega)).mono ?_
          rintro e w91 ⟨B9, d9, rfl, hS91⟩
          have HS91 := Go.Lib.hid hS91
          clear hS91
          refine ⟨_, rfl, ?_⟩
          refine hK.out _ _ ⟨HS91.out.cell 1 _ _ _ rfl 0, HS91.out.cell 1 _ _ _ rfl 1, HS91.out.cell 1 _ _ _ rfl 2, HS91.out.cell 1 _ _ _ rfl 3, HS91.out.cell 1 _ _ _ rfl 4⟩ (fun hHeld => ?_)
          clear hK K
          refine norm_ (a' := ?_) ?_ ?_
          rotate_left
          · show Act.put _ (some 72) _ = _
            simp only [Act.put, List.setIfInBounds_toArray, List.set_cons_zero, List.set_cons_succ, i64_w, i32_w]
            rfl
          refine one_ (i := 7) (N := some 74) #[true, true, true, true, true, true, true, true, false, false, false, false, false] rfl rfl (by kernel_rfl) (by decide) (fun K hK => ?_)
          obtain ⟨_, _, hq_, hd1_, hR1_⟩ := HS91.out.rowC 0 rfl
          injection hq_ with q1_ _ q2_
          subst q1_ q2_
          obtain ⟨_, _, hq_, hd2_, hR2_⟩ := HS91.out.rowC 2 rfl
          injection hq_ with q1_ _ q2_
          subst q1_ q2_
          refine goes_ Try.func48 (by kernel_rfl) rfl #[.agg #[.int .i64 id, .int .i64 (s1).mode, .int .i64 (s1).starts, .int .i64 (s1).cause, .slice B9 (s1).now.length d9], .agg #[.int .i64 id, .int .i64 (s1).mode, .int .i64 (s1).starts, .int .i64 (s1).cause, .slice B1 (s1).now.length d1]] (by rfl) rfl rfl (by (try simp only [List.map_toArray, List.map_cons, List.map_nil]); first | done | rfl) ?_
          refine (sameShot HS91.out _ _ _ _ _ _ _ _ B9 d9 s1.now B1 d1 s1.now hR1_ hd1_ hR2_ hd2_ (by rw [HI1.out.len]; omega) true (by simp)).mono ?_
          rintro e w92 ⟨rfl, hS92⟩
          have HS92 := Go.Lib.hid hS92
          clear hS92 hR1_ hR2_
          refine ⟨_, rfl, ?_⟩
          refine hK.out _ _ ⟨HS92.out.cell 1 _ _ _ rfl 0, HS92.out.cell 1 _ _ _ rfl 1, HS92.out.cell 1 _ _ _ rfl 2, HS92.out.cell 1 _ _ _ rfl 3, HS92.out.cell 1 _ _ _ rfl 4⟩ (fun hHeld => ?_)
          clear hK K
          refine norm_ (a' := ?_) ?_ ?_
          rotate_left
          · show Act.put _ (some 74) _ = _
            simp only [Act.put, List.setIfInBounds_toArray, List.set_cons_zero, List.set_cons_succ, i64_w, i32_w]
            rfl
          refine pure_ (i := 8) (N := some 75) (v := ?_) (a' := ?_) #[true, true, true, true, true, true, true, true, true, false, false, false, false] rfl rfl (by kernel_rfl) (fun _ _ _ h => h) (Or.inl ⟨by rfl, ?_⟩) ?_ ?_
          rotate_left
          · intro w'
            go_simp
            with_reducible rfl
          rotate_left
          · simp only [Act.put, List.setIfInBounds_toArray, List.set_cons_zero, List.set_cons_succ, i64_w, i32_w]
            rfl
          refine pure_ (i := 9) (N := some 76) (v := ?_) (a' := ?_) #[true, true, true, true, true, true, true, true, true, true, false, false, false] rfl rfl (by kernel_rfl) (fun _ _ _ h => h) (Or.inl ⟨by rfl, ?_⟩) ?_ ?_
          rotate_left
          · intro w'
            go_simp
            with_reducible rfl
          rotate_left
          · simp only [Act.put, List.setIfInBounds_toArray, List.set_cons_zero, List.set_cons_succ, i64_w, i32_w]
            rfl
          refine one_ (i := 10) (N := some 77) #[true, true, true, true, true, true, true, true, true, true, true, false, false] rfl rfl (by kernel_rfl) (by decide) (fun K hK => ?_)
          refine goes_ Try.func38 (by kernel_rfl) rfl #[] (by rfl) rfl rfl (by (try simp only [List.map_toArray, List.map_cons, List.map_nil]); first | done | rfl) ?_
          refine (awake_st HS92.out).mono ?_
          rintro e w93 ⟨rfl, hS93⟩
          have HS93 := Go.Lib.hid hS93
          clear hS93
          refine ⟨_, rfl, ?_⟩
          refine hK.out _ _ ⟨HS93.out.cell 1 _ _ _ rfl 0, HS93.out.cell 1 _ _ _ rfl 1, HS93.out.cell 1 _ _ _ rfl 2, HS93.out.cell 1 _ _ _ rfl 3, HS93.out.cell 1 _ _ _ rfl 4⟩ (fun hHeld => ?_)
          clear hK K
          refine norm_ (a' := ?_) ?_ ?_
          rotate_left
          · show Act.put _ (some 77) _ = _
            simp only [Act.put, List.setIfInBounds_toArray, List.set_cons_zero, List.set_cons_succ, i64_w, i32_w]
            rfl
          refine pure_ (i := 11) (N := some 78) (v := ?_) (a' := ?_) #[true, true, true, true, true, true, true, true, true, true, true, true, false] rfl rfl (by kernel_rfl) (fun _ _ _ h => h) (Or.inl ⟨by rfl, ?_⟩) ?_ ?_
          rotate_left
          · intro w'
            go_simp
            with_reducible rfl
          rotate_left
          · simp only [Act.put, List.setIfInBounds_toArray, List.set_cons_zero, List.set_cons_succ, i64_w, i32_w]
            rfl
          refine pure_ (i := 12) (N := some 6) (v := ?_) (a' := ?_) #[true, true, true, true, true, true, true, true, true, true, true, true, true] rfl rfl (by kernel_rfl) (fun _ _ _ h => h) (Or.inl ⟨by rfl, ?_⟩) ?_ ?_
          rotate_left
          · intro w'
            go_simp
            with_reducible rfl
          rotate_left
          · simp only [Act.put, List.setIfInBounds_toArray, List.set_cons_zero, List.set_cons_succ, i64_w, i32_w]
            rfl
          refine done_ (by kernel_rfl) ?_
          go_wp2_with fail
          go_ret
          exact ⟨rfl, HS93.out.below⟩
end Go.Proofs.Ytkmhgolohppliaa.Prt
