/- CellsPlays, walked. -/
import Derived.Test.YtkmhgolohppliaaCl2
import Derived.Test.YtkmhgolohppliaaCel9
import Derived.Deep.DeepCutAuto
import Derived.Deep.CutBlock
namespace Go.Proofs.Ytkmhgolohppliaa.Cls
open Go.RowKit Go.Proofs.Ytkmhgolohppliaa.PCellsPlays Go.Proofs.YtkmhgolohppliaaW.PrintWords Go.Proofs.YtkmhgolohppliaaW.PrintLast Go.Proofs.YtkmhgolohppliaaW.PrintMore Go.Proofs.Ytkmhgolohppliaa.Mine Go.Proofs.Ytkmhgolohppliaa.Cel
open Go.Proofs.Ytkmhgolohppliaa.Sl (SL Stp St No)
set_option linter.unusedVariables false
set_option linter.unusedSimpArgs false
attribute [local go_sem] max2_int min2_int max_two min_two max_three min_three max_four min_four
variable {l : List SL} {w0 w : World} {g : Nat} {fst : List S43} {now : List Int}

theorem rsame_eq (h : St l w0 w) (n m : Nat) {a : List Int} {A : Option Addr} {c : Nat} {B : Option Addr} {d : Nat} (e : l[n]? = some (SL.row (Kd.int .u32) 39 (.slice A a.length c) a)) (e2 : l[m]? = some (SL.row (Kd.int .u32) 39 (.slice B a.length d) a)) (hm : a.length ≤ 1000000) :
    Calls Try.prog 36 #[.slice A a.length c, .slice B a.length d] w fun e w' => e = .returned (.bool true) ∧ St l w0 w' := by
  have h1 := rsame_st h n m e e2 hm
  rw [decide_eq_true rfl] at h1
  exact h1
theorem all_row (h : St l w0 w) (n : Nat) {m : Int} (e : l[n]? = some (cells g fst now m)) (hn : now.length ≤ 1000000) :
    Calls Try.prog 26 #[.pointer (some ⟨g, 0, none⟩)] w fun e w' => ∃ A c, e = .returned (.slice A now.length c) ∧ St (SL.row (Kd.int .u32) 39 (.slice A now.length c) now :: l) w0 w' := by
  refine (all_st h n e hn).mono ?_
  rintro e w1 ⟨v, rfl, hS⟩
  obtain ⟨A, c, rfl, _, _⟩ := hS.rowC 0 rfl
  exact ⟨A, c, rfl, hS⟩
theorem len_eq_st (h : St l w0 w) (n : Nat) {m : Int} (e : l[n]? = some (cells g fst now m)) :
    Calls Try.prog 31 #[.pointer (some ⟨g, 0, none⟩)] w fun e w' => e = .returned (.int .i64 (fst.length : Int)) ∧ w = w' := by
  have h1 := len_st h n e
  rw [len_eq h n e] at h1
  exact h1
theorem setN_len (now : List Int) (i x : Int) : (setN now i x).length = now.length := by unfold setN; split <;> simp
/-- Are the first k what they were at first? -/
def freshTo (fst : List S43) (now : List Int) (k : Nat) : Bool := decide (∀ i : Nat, i < k → rd now i = (rd_T43 fst i).f0)
theorem freshTo_all (fst : List S43) (now : List Int) : freshTo fst now fst.length = fresh fst now := by
  unfold freshTo fresh
  congr 1
  exact propext ⟨fun h i hi => (h i hi).symm, fun h i hi => (h i hi).symm⟩
theorem fresh_to (h : St l w0 w) (n : Nat) {m : Int} (e : l[n]? = some (cells g fst now m)) :
    Calls Try.prog 24 #[.pointer (some ⟨g, 0, none⟩)] w fun e w' => e = .returned (.bool (freshTo fst now fst.length)) ∧ St l w0 w' := by
  have h1 := fresh_st h n e
  rw [← freshTo_all] at h1
  exact h1
theorem get_in (h : St l w0 w) (n : Nat) {m : Int} (e : l[n]? = some (cells g fst now m)) (i : Int) (h0 : 0 ≤ i) (h1 : i < now.length) :
    Calls Try.prog 35 #[.pointer (some ⟨g, 0, none⟩), .int .i64 i] w fun e w' => e = .returned (.tuple #[.int .u32 (rd now i), .bool true]) ∧ w = w' := by
  have h2 := get_st h n e i
  have hb : inB i now.length = true := by unfold inB; simp; omega
  unfold getN at h2
  rw [hb, if_pos rfl] at h2
  exact h2
theorem get_out (h : St l w0 w) (n : Nat) {m : Int} (e : l[n]? = some (cells g fst now m)) (i : Int) (h0 : i < 0 ∨ now.length ≤ i) :
    Calls Try.prog 35 #[.pointer (some ⟨g, 0, none⟩), .int .i64 i] w fun e w' => e = .returned (.tuple #[.int .u32 0, .bool false]) ∧ w = w' := by
  have h2 := get_st h n e i
  have hb : inB i now.length = false := by unfold inB; simp; omega
  unfold getN at h2
  rw [hb, if_neg (by simp)] at h2
  exact h2
theorem same_eq (h : St l w0 w) (n m : Nat) {q : Int} (e : l[n]? = some (cells g fst now q)) {g2 : Nat} {fst2 : List S43} {q2 : Int} (e2 : l[m]? = some (cells g2 fst2 now q2)) (hn : now.length ≤ 1000000) :
    Calls Try.prog 30 #[.pointer (some ⟨g, 0, none⟩), .pointer (some ⟨g2, 0, none⟩)] w fun e w' => e = .returned (.bool true) ∧ St l w0 w' := by
  have h1 := same_st h n m e e2 hn
  rw [decide_eq_true rfl] at h1
  exact h1
theorem same_set (h : St l w0 w) (n m : Nat) {q : Int} (e : l[n]? = some (cells g fst now q)) {g2 : Nat} {fst2 : List S43} {q2 : Int} (e2 : l[m]? = some (cells g2 fst2 (setN now 0 12345) q2)) (hn : now.length ≤ 1000000) (h0 : 0 < now.length) :
    Calls Try.prog 30 #[.pointer (some ⟨g, 0, none⟩), .pointer (some ⟨g2, 0, none⟩)] w fun e w' => e = .returned (.bool (rd now 0 == 12345)) ∧ St l w0 w' := by
  have h1 := same_st h n m e e2 hn
  have e3 : decide (now = setN now 0 12345) = (rd now 0 == 12345) := by
    rw [Bool.eq_iff_iff, decide_eq_true_eq, beq_iff_eq]
    cases now with
    | nil => simp at h0
    | cons a t => simp [setN, inB, rd]
  rw [e3] at h1
  exact h1
theorem set_in (h : St l w0 w) (n : Nat) {q : Int} (e : l[n]? = some (cells g fst now q)) (x : Int) (hw0 : 0 ≤ q) (hw1 : q ≤ 1000000) (b : Bool) (hb : inB 0 now.length = b) :
    Calls Try.prog 25 #[.pointer (some ⟨g, 0, none⟩), .int .i64 0, .int .u32 x] w fun e w' => e = .returned (.bool b) ∧ St (l.set n (cells g fst (setN now 0 x) (setM now 0 q))) w0 w' := by
  have h1 := set_st h n e 0 x hw0 hw1
  rw [hb] at h1
  exact h1
theorem freshTo_succ (fst : List S43) (now : List Int) (k : Nat) : freshTo fst now (k + 1) = (freshTo fst now k && (rd now k == (rd_T43 fst k).f0)) := by
  unfold freshTo
  rw [Bool.eq_iff_iff]
  simp only [decide_eq_true_eq, Bool.and_eq_true, beq_iff_eq]
  exact ⟨fun h => ⟨fun i hi => h i (by omega), h k (by omega)⟩, fun h i hi => by
    by_cases e : i = k
    · subst e; exact h.2
    · exact h.1 i (by omega)⟩

set_option maxHeartbeats 6400000 in
set_option maxRecDepth 100000 in
theorem cellsPlays_walk (w : World) (A : Option Addr) (n c : Nat) (fst : List S43) (hC0 : n ≤ c ∧ k43.C w A n fst ∧ ∀ z ∈ fst, (Lit.int .u32 z.f0).wf = true)
    (A1 : Option Addr) (n1 c1 : Nat) (ops : List S48) (hO0 : n1 ≤ c1 ∧ k48.C w A1 n1 ops ∧ ∀ z ∈ ops, (Lit.int .i64 z.f0).wf = true ∧ (Lit.int .i64 z.f1).wf = true ∧ (Lit.int .u32 z.f2).wf = true) (at_ : Int) (wat : (Lit.int .i64 at_).wf = true) :
    Calls Try.prog 7 #[.slice A n c, .slice A1 n1 c1, .int .i64 at_] w fun e w' => e = .returned (.bool true) ∧ Below w.heap.size w w' := by
  have hC := Go.Lib.hid hC0.2.1
  have hO := Go.Lib.hid hO0.2.1
  clear hC0 hO0 wat
  obtain rfl : fst.length = n := hC.out.1
  by_cases h1 : (40 : Int) < (fst.length : Int)
  · have h1' : decide ((40 : Int) < (fst.length : Int)) = true := by simpa using h1
    clear hC hO h1
    go_enter Try.func7, Try.ntmps7
    go_wp2_with (first | (go_at_call 22; refine (awake_calls _).mono ?_; rintro e w5 ⟨rfl, hB5⟩; have HB5 := Go.Lib.hid hB5; clear hB5))
    go_ret
    exact ⟨rfl, HB5.out⟩
  have h1' : decide ((40 : Int) < (fst.length : Int)) = false := by simpa using h1
  by_cases h2 : (60 : Int) < (n1 : Int)
  · have h2' : decide ((60 : Int) < (n1 : Int)) = true := by simpa using h2
    clear hC hO h2
    go_enter Try.func7, Try.ntmps7
    go_wp2_with (first | (go_at_call 22; refine (awake_calls _).mono ?_; rintro e w5 ⟨rfl, hB5⟩; have HB5 := Go.Lib.hid hB5; clear hB5))
    go_ret
    exact ⟨rfl, HB5.out⟩
  have h2' : decide ((60 : Int) < (n1 : Int)) = false := by simpa using h2
  have hn : fst.length ≤ 40 := by omega
  have hn1 : n1 ≤ 60 := by omega
  clear h1 h2
  have HS := Go.Lib.hid (St.start w)
  go_enter Try.func7, Try.ntmps7
  go_wp2_with (first | (go_at_call 23; refine (new_st HS.out A c hC.out (by omega)).mono ?_; rintro e w1_ ⟨g7, rfl, HSn⟩; replace HS : Hid (St [cells g7 fst (fst.map (·.f0)) 0] w w1_) := Go.Lib.hid HSn; clear HSn) | (go_at_call 32; refine (rnew_st HS.out A c (HS.out.C hC.out) (by omega)).mono ?_; rintro e w2_ ⟨v8, rfl, HSn⟩; obtain ⟨A8, c8, hv8, _⟩ := HSn.rowC 0 rfl; subst hv8; replace HS : Hid (St [SL.row (Kd.int .u32) 39 (.slice A8 (fst.map (·.f0)).length c8) (fst.map (·.f0)), cells g7 fst (fst.map (·.f0)) 0] w w2_) := Go.Lib.hid HSn; clear HSn) | ((with_reducible refine gate_dst (N := 8) rfl ?_); refine Sl.box_st HS.out (by rfl) (cs := #[.slice none 0 0, .slice none 0 0, .int .i64 0]) (t := 52) ?hr ?_; (case hr => first | (go_simp; done) | (go_simp; rfl)); intro g8 w3_ HSn HBn; clear HBn; replace HS : Hid (St [SL.blk g8 52 #[.slice none 0 0, .slice none 0 0, .int .i64 0], SL.row (Kd.int .u32) 39 (.slice A8 (fst.map (·.f0)).length c8) (fst.map (·.f0)), cells g7 fst (fst.map (·.f0)) 0] w w3_) := Go.Lib.hid HSn; clear HSn; have c0_0 : w3_.cell? ⟨g8, 0, none⟩ = some (.slice none 0 0) := HS.out.cell 0 _ _ _ rfl 0; have f0_0 : w3_.frozen? ⟨g8, 0, none⟩ = false := HS.out.free 0 _ _ _ rfl 0; have c0_1 : w3_.cell? ⟨g8, 1, none⟩ = some (.slice none 0 0) := HS.out.cell 0 _ _ _ rfl 1; have f0_1 : w3_.frozen? ⟨g8, 1, none⟩ = false := HS.out.free 0 _ _ _ rfl 1; have c0_2 : w3_.cell? ⟨g8, 2, none⟩ = some (.int .i64 0) := HS.out.cell 0 _ _ _ rfl 2; have f0_2 : w3_.frozen? ⟨g8, 2, none⟩ = false := HS.out.free 0 _ _ _ rfl 2) | ((with_reducible refine gate_store (p := 8) rfl ?_); refine Sl.storeAll_st HS.out 0 g8 52 _ rfl [.slice A fst.length c, .slice A8 (fst.map (·.f0)).length c8, .int .i64 0] rfl (by rfl) (by rfl) ?hr ?_; (case hr => first | (go_simp; done) | (go_simp; rfl)); intro w4_ HSn; replace HS : Hid (St [SL.blk g8 52 #[.slice A fst.length c, .slice A8 (fst.map (·.f0)).length c8, .int .i64 0], SL.row (Kd.int .u32) 39 (.slice A8 (fst.map (·.f0)).length c8) (fst.map (·.f0)), cells g7 fst (fst.map (·.f0)) 0] w w4_) := Go.Lib.hid HSn; clear HSn; clear c0_0 f0_0 c0_1 f0_1 c0_2 f0_2; have c0_0 : w4_.cell? ⟨g8, 0, none⟩ = some (.slice A fst.length c) := HS.out.cell 0 _ _ _ rfl 0; have f0_0 : w4_.frozen? ⟨g8, 0, none⟩ = false := HS.out.free 0 _ _ _ rfl 0; have c0_1 : w4_.cell? ⟨g8, 1, none⟩ = some (.slice A8 (fst.map (·.f0)).length c8) := HS.out.cell 0 _ _ _ rfl 1; have f0_1 : w4_.frozen? ⟨g8, 1, none⟩ = false := HS.out.free 0 _ _ _ rfl 1; have c0_2 : w4_.cell? ⟨g8, 2, none⟩ = some (.int .i64 0) := HS.out.cell 0 _ _ _ rfl 2; have f0_2 : w4_.frozen? ⟨g8, 2, none⟩ = false := HS.out.free 0 _ _ _ rfl 2))
  go_loopw [39] (fun i wr => ∃ (k : Nat) (now : List Int) (m : Int) (A2 : Option Addr) (c2 : Nat), k ≤ n1 ∧ i = .int .i64 k ∧ 0 ≤ m ∧ m ≤ k ∧ now.length = fst.length ∧ St [SL.blk g8 52 #[.slice A fst.length c, .slice A2 now.length c2, .int .i64 m], SL.row (Kd.int .u32) 39 (.slice A2 now.length c2) now, cells g7 fst now m] w wr) (fun i _ => n1 - (intOf i).toNat)
  case atStart => exact ⟨0, _, 0, _, _, Nat.zero_le _, rfl, by omega, by omega, by simp, HS.out⟩
  case round =>
    clear HS c0_0 f0_0 c0_1 f0_1 c0_2 f0_2
    obtain ⟨k, now, m, A2, c2, hk, rfl, hm0, hm1, hl, hS⟩ := hrel
    have HS := Go.Lib.hid hS
    have HL := Go.Lib.hid hl
    have hln : now.length ≤ 1000 := by omega
    clear hS hl
    by_cases hlt : k < n1
    · obtain ⟨ad, rfl, gg0, gg1, gg2⟩ := at_T48 (HS.out.C hO.out) (k : Int) (by omega) (by omega)
      rw [Int.toNat_natCast] at gg0 gg1 gg2
      generalize rd_T48 ops (k : Int) = x at *
      obtain ⟨x0, x1, x2⟩ := x
      have c0_0 : wr.cell? ⟨g8, 0, none⟩ = some (.slice A fst.length c) := HS.out.cell 0 _ _ _ rfl 0
      have f0_0 : wr.frozen? ⟨g8, 0, none⟩ = false := HS.out.free 0 _ _ _ rfl 0
      have c0_1 : wr.cell? ⟨g8, 1, none⟩ = some (.slice A2 now.length c2) := HS.out.cell 0 _ _ _ rfl 1
      have f0_1 : wr.frozen? ⟨g8, 1, none⟩ = false := HS.out.free 0 _ _ _ rfl 1
      have c0_2 : wr.cell? ⟨g8, 2, none⟩ = some (.int .i64 m) := HS.out.cell 0 _ _ _ rfl 2
      have f0_2 : wr.frozen? ⟨g8, 2, none⟩ = false := HS.out.free 0 _ _ _ rfl 2
      go_upto_block 2 with (first | ((with_reducible refine gate_dst (N := 10) rfl ?_); refine Sl.box_st HS.out (by rfl) (cs := #[.int .i64 0, .int .i64 0, .int .u32 0]) (t := 48) ?hr ?_; (case hr => first | (go_simp; done) | (go_simp; rfl)); intro g10 w31_ HSn HBn; clear HBn; replace HS : Hid (St [SL.blk g10 48 #[.int .i64 0, .int .i64 0, .int .u32 0], SL.blk g8 52 #[.slice A fst.length c, .slice A2 now.length c2, .int .i64 m], SL.row (Kd.int .u32) 39 (.slice A2 now.length c2) now, cells g7 fst now m] w w31_) := Go.Lib.hid HSn; clear HSn; clear c0_0 f0_0 c0_1 f0_1 c0_2 f0_2; have c0_0 : w31_.cell? ⟨g10, 0, none⟩ = some (.int .i64 0) := HS.out.cell 0 _ _ _ rfl 0; have f0_0 : w31_.frozen? ⟨g10, 0, none⟩ = false := HS.out.free 0 _ _ _ rfl 0; have c0_1 : w31_.cell? ⟨g10, 1, none⟩ = some (.int .i64 0) := HS.out.cell 0 _ _ _ rfl 1; have f0_1 : w31_.frozen? ⟨g10, 1, none⟩ = false := HS.out.free 0 _ _ _ rfl 1; have c0_2 : w31_.cell? ⟨g10, 2, none⟩ = some (.int .u32 0) := HS.out.cell 0 _ _ _ rfl 2; have f0_2 : w31_.frozen? ⟨g10, 2, none⟩ = false := HS.out.free 0 _ _ _ rfl 2; have c1_0 : w31_.cell? ⟨g8, 0, none⟩ = some (.slice A fst.length c) := HS.out.cell 1 _ _ _ rfl 0; have f1_0 : w31_.frozen? ⟨g8, 0, none⟩ = false := HS.out.free 1 _ _ _ rfl 0; have c1_1 : w31_.cell? ⟨g8, 1, none⟩ = some (.slice A2 now.length c2) := HS.out.cell 1 _ _ _ rfl 1; have f1_1 : w31_.frozen? ⟨g8, 1, none⟩ = false := HS.out.free 1 _ _ _ rfl 1; have c1_2 : w31_.cell? ⟨g8, 2, none⟩ = some (.int .i64 m) := HS.out.cell 1 _ _ _ rfl 2; have f1_2 : w31_.frozen? ⟨g8, 2, none⟩ = false := HS.out.free 1 _ _ _ rfl 2; have ne0_1 := HS.out.ne_blk 0 1 _ _ _ _ _ _ rfl rfl (by omega)) | ((with_reducible refine gate_store (p := 10) rfl ?_); refine Sl.storeAll_st HS.out 0 g10 48 _ rfl [.int .i64 x0, .int .i64 x1, .int .u32 x2] rfl (by rfl) (by rfl) ?hr ?_; (case hr => first | (go_simp; done) | (go_simp; rfl)); intro w32_ HSn; replace HS : Hid (St [SL.blk g10 48 #[.int .i64 x0, .int .i64 x1, .int .u32 x2], SL.blk g8 52 #[.slice A fst.length c, .slice A2 now.length c2, .int .i64 m], SL.row (Kd.int .u32) 39 (.slice A2 now.length c2) now, cells g7 fst now m] w w32_) := Go.Lib.hid HSn; clear HSn; clear c0_0 f0_0 c0_1 f0_1 c0_2 f0_2 c1_0 f1_0 c1_1 f1_1 c1_2 f1_2 ne0_1; have c0_0 : w32_.cell? ⟨g10, 0, none⟩ = some (.int .i64 x0) := HS.out.cell 0 _ _ _ rfl 0; have f0_0 : w32_.frozen? ⟨g10, 0, none⟩ = false := HS.out.free 0 _ _ _ rfl 0; have c0_1 : w32_.cell? ⟨g10, 1, none⟩ = some (.int .i64 x1) := HS.out.cell 0 _ _ _ rfl 1; have f0_1 : w32_.frozen? ⟨g10, 1, none⟩ = false := HS.out.free 0 _ _ _ rfl 1; have c0_2 : w32_.cell? ⟨g10, 2, none⟩ = some (.int .u32 x2) := HS.out.cell 0 _ _ _ rfl 2; have f0_2 : w32_.frozen? ⟨g10, 2, none⟩ = false := HS.out.free 0 _ _ _ rfl 2; have c1_0 : w32_.cell? ⟨g8, 0, none⟩ = some (.slice A fst.length c) := HS.out.cell 1 _ _ _ rfl 0; have f1_0 : w32_.frozen? ⟨g8, 0, none⟩ = false := HS.out.free 1 _ _ _ rfl 0; have c1_1 : w32_.cell? ⟨g8, 1, none⟩ = some (.slice A2 now.length c2) := HS.out.cell 1 _ _ _ rfl 1; have f1_1 : w32_.frozen? ⟨g8, 1, none⟩ = false := HS.out.free 1 _ _ _ rfl 1; have c1_2 : w32_.cell? ⟨g8, 2, none⟩ = some (.int .i64 m) := HS.out.cell 1 _ _ _ rfl 2; have f1_2 : w32_.frozen? ⟨g8, 2, none⟩ = false := HS.out.free 1 _ _ _ rfl 2; have ne0_1 := HS.out.ne_blk 0 1 _ _ _ _ _ _ rfl rfl (by omega)))
      go_cut [] (fun wx => ∃ (now : List Int) (m : Int) (A2 : Option Addr) (c2 : Nat), 0 ≤ m ∧ m ≤ k + 1 ∧ now.length = fst.length ∧ St [SL.blk g8 52 #[.slice A fst.length c, .slice A2 now.length c2, .int .i64 m], SL.row (Kd.int .u32) 39 (.slice A2 now.length c2) now, cells g7 fst now m] w wx)
      case first =>
        by_cases hk1 : x0 = 1
        · have e1 : (x0 == 1) = true := beq_iff_eq.2 hk1
          clear hk1
          go_wp2_with (first | (go_at_call 33; refine (rset_st HS.out 2 A fst.length c A2 c2 rfl x1 x2 (by omega) hm0 (by omega)).mono ?_; rintro e w41_ ⟨A3, c3, rfl, HSn⟩; replace HS : Hid (St [SL.blk g10 48 #[.int .i64 x0, .int .i64 x1, .int .u32 x2], SL.blk g8 52 #[.slice A fst.length c, .slice A2 now.length c2, .int .i64 m], SL.row (Kd.int .u32) 39 (.slice A3 (setN now x1 x2).length c3) (setN now x1 x2), cells g7 fst now m] w w41_) := Go.Lib.hid HSn; clear HSn; clear c0_0 f0_0 c0_1 f0_1 c0_2 f0_2 c1_0 f1_0 c1_1 f1_1 c1_2 f1_2 ne0_1; have c0_0 : w41_.cell? ⟨g10, 0, none⟩ = some (.int .i64 x0) := HS.out.cell 0 _ _ _ rfl 0; have f0_0 : w41_.frozen? ⟨g10, 0, none⟩ = false := HS.out.free 0 _ _ _ rfl 0; have c0_1 : w41_.cell? ⟨g10, 1, none⟩ = some (.int .i64 x1) := HS.out.cell 0 _ _ _ rfl 1; have f0_1 : w41_.frozen? ⟨g10, 1, none⟩ = false := HS.out.free 0 _ _ _ rfl 1; have c0_2 : w41_.cell? ⟨g10, 2, none⟩ = some (.int .u32 x2) := HS.out.cell 0 _ _ _ rfl 2; have f0_2 : w41_.frozen? ⟨g10, 2, none⟩ = false := HS.out.free 0 _ _ _ rfl 2; have c1_0 : w41_.cell? ⟨g8, 0, none⟩ = some (.slice A fst.length c) := HS.out.cell 1 _ _ _ rfl 0; have f1_0 : w41_.frozen? ⟨g8, 0, none⟩ = false := HS.out.free 1 _ _ _ rfl 0; have c1_1 : w41_.cell? ⟨g8, 1, none⟩ = some (.slice A2 now.length c2) := HS.out.cell 1 _ _ _ rfl 1; have f1_1 : w41_.frozen? ⟨g8, 1, none⟩ = false := HS.out.free 1 _ _ _ rfl 1; have c1_2 : w41_.cell? ⟨g8, 2, none⟩ = some (.int .i64 m) := HS.out.cell 1 _ _ _ rfl 2; have f1_2 : w41_.frozen? ⟨g8, 2, none⟩ = false := HS.out.free 1 _ _ _ rfl 2; have ne0_1 := HS.out.ne_blk 0 1 _ _ _ _ _ _ rfl rfl (by omega)) | ((with_reducible refine gate_dst (N := 11) rfl ?_); refine Sl.box_st HS.out (by rfl) (cs := #[.slice none 0 0, .slice none 0 0, .int .i64 0]) (t := 52) ?hr ?_; (case hr => first | (go_simp; done) | (go_simp; rfl)); intro g11 w42_ HSn HBn; clear HBn; replace HS : Hid (St [SL.blk g11 52 #[.slice none 0 0, .slice none 0 0, .int .i64 0], SL.blk g10 48 #[.int .i64 x0, .int .i64 x1, .int .u32 x2], SL.blk g8 52 #[.slice A fst.length c, .slice A2 now.length c2, .int .i64 m], SL.row (Kd.int .u32) 39 (.slice A3 (setN now x1 x2).length c3) (setN now x1 x2), cells g7 fst now m] w w42_) := Go.Lib.hid HSn; clear HSn; clear c0_0 f0_0 c0_1 f0_1 c0_2 f0_2 c1_0 f1_0 c1_1 f1_1 c1_2 f1_2 ne0_1; have c0_0 : w42_.cell? ⟨g11, 0, none⟩ = some (.slice none 0 0) := HS.out.cell 0 _ _ _ rfl 0; have f0_0 : w42_.frozen? ⟨g11, 0, none⟩ = false := HS.out.free 0 _ _ _ rfl 0; have c0_1 : w42_.cell? ⟨g11, 1, none⟩ = some (.slice none 0 0) := HS.out.cell 0 _ _ _ rfl 1; have f0_1 : w42_.frozen? ⟨g11, 1, none⟩ = false := HS.out.free 0 _ _ _ rfl 1; have c0_2 : w42_.cell? ⟨g11, 2, none⟩ = some (.int .i64 0) := HS.out.cell 0 _ _ _ rfl 2; have f0_2 : w42_.frozen? ⟨g11, 2, none⟩ = false := HS.out.free 0 _ _ _ rfl 2; have c1_0 : w42_.cell? ⟨g10, 0, none⟩ = some (.int .i64 x0) := HS.out.cell 1 _ _ _ rfl 0; have f1_0 : w42_.frozen? ⟨g10, 0, none⟩ = false := HS.out.free 1 _ _ _ rfl 0; have c1_1 : w42_.cell? ⟨g10, 1, none⟩ = some (.int .i64 x1) := HS.out.cell 1 _ _ _ rfl 1; have f1_1 : w42_.frozen? ⟨g10, 1, none⟩ = false := HS.out.free 1 _ _ _ rfl 1; have c1_2 : w42_.cell? ⟨g10, 2, none⟩ = some (.int .u32 x2) := HS.out.cell 1 _ _ _ rfl 2; have f1_2 : w42_.frozen? ⟨g10, 2, none⟩ = false := HS.out.free 1 _ _ _ rfl 2; have c2_0 : w42_.cell? ⟨g8, 0, none⟩ = some (.slice A fst.length c) := HS.out.cell 2 _ _ _ rfl 0; have f2_0 : w42_.frozen? ⟨g8, 0, none⟩ = false := HS.out.free 2 _ _ _ rfl 0; have c2_1 : w42_.cell? ⟨g8, 1, none⟩ = some (.slice A2 now.length c2) := HS.out.cell 2 _ _ _ rfl 1; have f2_1 : w42_.frozen? ⟨g8, 1, none⟩ = false := HS.out.free 2 _ _ _ rfl 1; have c2_2 : w42_.cell? ⟨g8, 2, none⟩ = some (.int .i64 m) := HS.out.cell 2 _ _ _ rfl 2; have f2_2 : w42_.frozen? ⟨g8, 2, none⟩ = false := HS.out.free 2 _ _ _ rfl 2; have ne0_1 := HS.out.ne_blk 0 1 _ _ _ _ _ _ rfl rfl (by omega); have ne0_2 := HS.out.ne_blk 0 2 _ _ _ _ _ _ rfl rfl (by omega); have ne1_2 := HS.out.ne_blk 1 2 _ _ _ _ _ _ rfl rfl (by omega)) | ((with_reducible refine gate_store (p := 11) rfl ?_); refine Sl.storeAll_st HS.out 0 g11 52 _ rfl [.slice A fst.length c, .slice A3 (setN now x1 x2).length c3, .int .i64 (setM now x1 m)] rfl (by rfl) (by rfl) ?hr ?_; (case hr => first | (go_simp; done) | (go_simp; rfl)); intro w43_ HSn; replace HS : Hid (St [SL.blk g11 52 #[.slice A fst.length c, .slice A3 (setN now x1 x2).length c3, .int .i64 (setM now x1 m)], SL.blk g10 48 #[.int .i64 x0, .int .i64 x1, .int .u32 x2], SL.blk g8 52 #[.slice A fst.length c, .slice A2 now.length c2, .int .i64 m], SL.row (Kd.int .u32) 39 (.slice A3 (setN now x1 x2).length c3) (setN now x1 x2), cells g7 fst now m] w w43_) := Go.Lib.hid HSn; clear HSn; clear c0_0 f0_0 c0_1 f0_1 c0_2 f0_2 c1_0 f1_0 c1_1 f1_1 c1_2 f1_2 c2_0 f2_0 c2_1 f2_1 c2_2 f2_2 ne0_1 ne0_2 ne1_2; have c0_0 : w43_.cell? ⟨g11, 0, none⟩ = some (.slice A fst.length c) := HS.out.cell 0 _ _ _ rfl 0; have f0_0 : w43_.frozen? ⟨g11, 0, none⟩ = false := HS.out.free 0 _ _ _ rfl 0; have c0_1 : w43_.cell? ⟨g11, 1, none⟩ = some (.slice A3 (setN now x1 x2).length c3) := HS.out.cell 0 _ _ _ rfl 1; have f0_1 : w43_.frozen? ⟨g11, 1, none⟩ = false := HS.out.free 0 _ _ _ rfl 1; have c0_2 : w43_.cell? ⟨g11, 2, none⟩ = some (.int .i64 (setM now x1 m)) := HS.out.cell 0 _ _ _ rfl 2; have f0_2 : w43_.frozen? ⟨g11, 2, none⟩ = false := HS.out.free 0 _ _ _ rfl 2; have c1_0 : w43_.cell? ⟨g10, 0, none⟩ = some (.int .i64 x0) := HS.out.cell 1 _ _ _ rfl 0; have f1_0 : w43_.frozen? ⟨g10, 0, none⟩ = false := HS.out.free 1 _ _ _ rfl 0; have c1_1 : w43_.cell? ⟨g10, 1, none⟩ = some (.int .i64 x1) := HS.out.cell 1 _ _ _ rfl 1; have f1_1 : w43_.frozen? ⟨g10, 1, none⟩ = false := HS.out.free 1 _ _ _ rfl 1; have c1_2 : w43_.cell? ⟨g10, 2, none⟩ = some (.int .u32 x2) := HS.out.cell 1 _ _ _ rfl 2; have f1_2 : w43_.frozen? ⟨g10, 2, none⟩ = false := HS.out.free 1 _ _ _ rfl 2; have c2_0 : w43_.cell? ⟨g8, 0, none⟩ = some (.slice A fst.length c) := HS.out.cell 2 _ _ _ rfl 0; have f2_0 : w43_.frozen? ⟨g8, 0, none⟩ = false := HS.out.free 2 _ _ _ rfl 0; have c2_1 : w43_.cell? ⟨g8, 1, none⟩ = some (.slice A2 now.length c2) := HS.out.cell 2 _ _ _ rfl 1; have f2_1 : w43_.frozen? ⟨g8, 1, none⟩ = false := HS.out.free 2 _ _ _ rfl 1; have c2_2 : w43_.cell? ⟨g8, 2, none⟩ = some (.int .i64 m) := HS.out.cell 2 _ _ _ rfl 2; have f2_2 : w43_.frozen? ⟨g8, 2, none⟩ = false := HS.out.free 2 _ _ _ rfl 2; have ne0_1 := HS.out.ne_blk 0 1 _ _ _ _ _ _ rfl rfl (by omega); have ne0_2 := HS.out.ne_blk 0 2 _ _ _ _ _ _ rfl rfl (by omega); have ne1_2 := HS.out.ne_blk 1 2 _ _ _ _ _ _ rfl rfl (by omega)) | ((with_reducible refine gate_store (p := 8) rfl ?_); refine Sl.storeAll_st HS.out 2 g8 52 _ rfl [.slice A fst.length c, .slice A3 (setN now x1 x2).length c3, .int .i64 (setM now x1 m)] rfl (by rfl) (by rfl) ?hr ?_; (case hr => first | (go_simp; done) | (go_simp; rfl)); intro w44_ HSn; replace HS : Hid (St [SL.blk g11 52 #[.slice A fst.length c, .slice A3 (setN now x1 x2).length c3, .int .i64 (setM now x1 m)], SL.blk g10 48 #[.int .i64 x0, .int .i64 x1, .int .u32 x2], SL.blk g8 52 #[.slice A fst.length c, .slice A3 (setN now x1 x2).length c3, .int .i64 (setM now x1 m)], SL.row (Kd.int .u32) 39 (.slice A3 (setN now x1 x2).length c3) (setN now x1 x2), cells g7 fst now m] w w44_) := Go.Lib.hid HSn; clear HSn; clear c0_0 f0_0 c0_1 f0_1 c0_2 f0_2 c1_0 f1_0 c1_1 f1_1 c1_2 f1_2 c2_0 f2_0 c2_1 f2_1 c2_2 f2_2 ne0_1 ne0_2 ne1_2; have c0_0 : w44_.cell? ⟨g11, 0, none⟩ = some (.slice A fst.length c) := HS.out.cell 0 _ _ _ rfl 0; have f0_0 : w44_.frozen? ⟨g11, 0, none⟩ = false := HS.out.free 0 _ _ _ rfl 0; have c0_1 : w44_.cell? ⟨g11, 1, none⟩ = some (.slice A3 (setN now x1 x2).length c3) := HS.out.cell 0 _ _ _ rfl 1; have f0_1 : w44_.frozen? ⟨g11, 1, none⟩ = false := HS.out.free 0 _ _ _ rfl 1; have c0_2 : w44_.cell? ⟨g11, 2, none⟩ = some (.int .i64 (setM now x1 m)) := HS.out.cell 0 _ _ _ rfl 2; have f0_2 : w44_.frozen? ⟨g11, 2, none⟩ = false := HS.out.free 0 _ _ _ rfl 2; have c1_0 : w44_.cell? ⟨g10, 0, none⟩ = some (.int .i64 x0) := HS.out.cell 1 _ _ _ rfl 0; have f1_0 : w44_.frozen? ⟨g10, 0, none⟩ = false := HS.out.free 1 _ _ _ rfl 0; have c1_1 : w44_.cell? ⟨g10, 1, none⟩ = some (.int .i64 x1) := HS.out.cell 1 _ _ _ rfl 1; have f1_1 : w44_.frozen? ⟨g10, 1, none⟩ = false := HS.out.free 1 _ _ _ rfl 1; have c1_2 : w44_.cell? ⟨g10, 2, none⟩ = some (.int .u32 x2) := HS.out.cell 1 _ _ _ rfl 2; have f1_2 : w44_.frozen? ⟨g10, 2, none⟩ = false := HS.out.free 1 _ _ _ rfl 2; have c2_0 : w44_.cell? ⟨g8, 0, none⟩ = some (.slice A fst.length c) := HS.out.cell 2 _ _ _ rfl 0; have f2_0 : w44_.frozen? ⟨g8, 0, none⟩ = false := HS.out.free 2 _ _ _ rfl 0; have c2_1 : w44_.cell? ⟨g8, 1, none⟩ = some (.slice A3 (setN now x1 x2).length c3) := HS.out.cell 2 _ _ _ rfl 1; have f2_1 : w44_.frozen? ⟨g8, 1, none⟩ = false := HS.out.free 2 _ _ _ rfl 1; have c2_2 : w44_.cell? ⟨g8, 2, none⟩ = some (.int .i64 (setM now x1 m)) := HS.out.cell 2 _ _ _ rfl 2; have f2_2 : w44_.frozen? ⟨g8, 2, none⟩ = false := HS.out.free 2 _ _ _ rfl 2; have ne0_1 := HS.out.ne_blk 0 1 _ _ _ _ _ _ rfl rfl (by omega); have ne0_2 := HS.out.ne_blk 0 2 _ _ _ _ _ _ rfl rfl (by omega); have ne1_2 := HS.out.ne_blk 1 2 _ _ _ _ _ _ rfl rfl (by omega)) | (go_at_call 25; refine (set_st HS.out 4 rfl x1 x2 hm0 (by omega)).mono ?_; rintro e w45_ ⟨rfl, HSn⟩; replace HS : Hid (St [SL.blk g11 52 #[.slice A fst.length c, .slice A3 (setN now x1 x2).length c3, .int .i64 (setM now x1 m)], SL.blk g10 48 #[.int .i64 x0, .int .i64 x1, .int .u32 x2], SL.blk g8 52 #[.slice A fst.length c, .slice A3 (setN now x1 x2).length c3, .int .i64 (setM now x1 m)], SL.row (Kd.int .u32) 39 (.slice A3 (setN now x1 x2).length c3) (setN now x1 x2), cells g7 fst (setN now x1 x2) (setM now x1 m)] w w45_) := Go.Lib.hid HSn; clear HSn; clear c0_0 f0_0 c0_1 f0_1 c0_2 f0_2 c1_0 f1_0 c1_1 f1_1 c1_2 f1_2 c2_0 f2_0 c2_1 f2_1 c2_2 f2_2 ne0_1 ne0_2 ne1_2; have c0_0 : w45_.cell? ⟨g11, 0, none⟩ = some (.slice A fst.length c) := HS.out.cell 0 _ _ _ rfl 0; have f0_0 : w45_.frozen? ⟨g11, 0, none⟩ = false := HS.out.free 0 _ _ _ rfl 0; have c0_1 : w45_.cell? ⟨g11, 1, none⟩ = some (.slice A3 (setN now x1 x2).length c3) := HS.out.cell 0 _ _ _ rfl 1; have f0_1 : w45_.frozen? ⟨g11, 1, none⟩ = false := HS.out.free 0 _ _ _ rfl 1; have c0_2 : w45_.cell? ⟨g11, 2, none⟩ = some (.int .i64 (setM now x1 m)) := HS.out.cell 0 _ _ _ rfl 2; have f0_2 : w45_.frozen? ⟨g11, 2, none⟩ = false := HS.out.free 0 _ _ _ rfl 2; have c1_0 : w45_.cell? ⟨g10, 0, none⟩ = some (.int .i64 x0) := HS.out.cell 1 _ _ _ rfl 0; have f1_0 : w45_.frozen? ⟨g10, 0, none⟩ = false := HS.out.free 1 _ _ _ rfl 0; have c1_1 : w45_.cell? ⟨g10, 1, none⟩ = some (.int .i64 x1) := HS.out.cell 1 _ _ _ rfl 1; have f1_1 : w45_.frozen? ⟨g10, 1, none⟩ = false := HS.out.free 1 _ _ _ rfl 1; have c1_2 : w45_.cell? ⟨g10, 2, none⟩ = some (.int .u32 x2) := HS.out.cell 1 _ _ _ rfl 2; have f1_2 : w45_.frozen? ⟨g10, 2, none⟩ = false := HS.out.free 1 _ _ _ rfl 2; have c2_0 : w45_.cell? ⟨g8, 0, none⟩ = some (.slice A fst.length c) := HS.out.cell 2 _ _ _ rfl 0; have f2_0 : w45_.frozen? ⟨g8, 0, none⟩ = false := HS.out.free 2 _ _ _ rfl 0; have c2_1 : w45_.cell? ⟨g8, 1, none⟩ = some (.slice A3 (setN now x1 x2).length c3) := HS.out.cell 2 _ _ _ rfl 1; have f2_1 : w45_.frozen? ⟨g8, 1, none⟩ = false := HS.out.free 2 _ _ _ rfl 1; have c2_2 : w45_.cell? ⟨g8, 2, none⟩ = some (.int .i64 (setM now x1 m)) := HS.out.cell 2 _ _ _ rfl 2; have f2_2 : w45_.frozen? ⟨g8, 2, none⟩ = false := HS.out.free 2 _ _ _ rfl 2; have ne0_1 := HS.out.ne_blk 0 1 _ _ _ _ _ _ rfl rfl (by omega); have ne0_2 := HS.out.ne_blk 0 2 _ _ _ _ _ _ rfl rfl (by omega); have ne1_2 := HS.out.ne_blk 1 2 _ _ _ _ _ _ rfl rfl (by omega)))
          go_meet
          exact ⟨setN now x1 x2, setM now x1 m, A3, c3, setM_lo _ _ _ hm0, setM_hi _ _ _ _ hm1, (setN_len _ _ _).trans HL.out, (HS.out.erase 0).erase 0⟩
        have e1 : (x0 == 1) = false := beq_eq_false_iff_ne.2 hk1
        by_cases hk2 : x0 = 2
        · have e2 : (x0 == 2) = true := beq_iff_eq.2 hk2
          clear hk1
          clear hk2
          go_wp2_with (first | (go_at_call 28; refine (cold_st HS.out 3 rfl (by omega)).mono ?_; rintro e w41_ ⟨rfl, HSn⟩; replace HS : Hid (St [SL.blk g10 48 #[.int .i64 x0, .int .i64 x1, .int .u32 x2], SL.blk g8 52 #[.slice A fst.length c, .slice A2 now.length c2, .int .i64 m], SL.row (Kd.int .u32) 39 (.slice A2 now.length c2) now, cells g7 fst (fst.map (·.f0)) 0] w w41_) := Go.Lib.hid HSn; clear HSn; clear c0_0 f0_0 c0_1 f0_1 c0_2 f0_2 c1_0 f1_0 c1_1 f1_1 c1_2 f1_2 ne0_1; have c0_0 : w41_.cell? ⟨g10, 0, none⟩ = some (.int .i64 x0) := HS.out.cell 0 _ _ _ rfl 0; have f0_0 : w41_.frozen? ⟨g10, 0, none⟩ = false := HS.out.free 0 _ _ _ rfl 0; have c0_1 : w41_.cell? ⟨g10, 1, none⟩ = some (.int .i64 x1) := HS.out.cell 0 _ _ _ rfl 1; have f0_1 : w41_.frozen? ⟨g10, 1, none⟩ = false := HS.out.free 0 _ _ _ rfl 1; have c0_2 : w41_.cell? ⟨g10, 2, none⟩ = some (.int .u32 x2) := HS.out.cell 0 _ _ _ rfl 2; have f0_2 : w41_.frozen? ⟨g10, 2, none⟩ = false := HS.out.free 0 _ _ _ rfl 2; have c1_0 : w41_.cell? ⟨g8, 0, none⟩ = some (.slice A fst.length c) := HS.out.cell 1 _ _ _ rfl 0; have f1_0 : w41_.frozen? ⟨g8, 0, none⟩ = false := HS.out.free 1 _ _ _ rfl 0; have c1_1 : w41_.cell? ⟨g8, 1, none⟩ = some (.slice A2 now.length c2) := HS.out.cell 1 _ _ _ rfl 1; have f1_1 : w41_.frozen? ⟨g8, 1, none⟩ = false := HS.out.free 1 _ _ _ rfl 1; have c1_2 : w41_.cell? ⟨g8, 2, none⟩ = some (.int .i64 m) := HS.out.cell 1 _ _ _ rfl 2; have f1_2 : w41_.frozen? ⟨g8, 2, none⟩ = false := HS.out.free 1 _ _ _ rfl 2; have ne0_1 := HS.out.ne_blk 0 1 _ _ _ _ _ _ rfl rfl (by omega)) | (go_at_call 34; refine (rstart_st HS.out 2 A c A2 c2 (HS.out.C hC.out) rfl HL.out (by omega) m true).mono ?_; rintro e w42_ ⟨A3, c3, rfl, HSn⟩; replace HS : Hid (St [SL.blk g10 48 #[.int .i64 x0, .int .i64 x1, .int .u32 x2], SL.blk g8 52 #[.slice A fst.length c, .slice A2 now.length c2, .int .i64 m], SL.row (Kd.int .u32) 39 (.slice A3 (back true fst now fst.length).length c3) (back true fst now fst.length), cells g7 fst (fst.map (·.f0)) 0] w w42_) := Go.Lib.hid HSn; clear HSn; clear c0_0 f0_0 c0_1 f0_1 c0_2 f0_2 c1_0 f1_0 c1_1 f1_1 c1_2 f1_2 ne0_1; have c0_0 : w42_.cell? ⟨g10, 0, none⟩ = some (.int .i64 x0) := HS.out.cell 0 _ _ _ rfl 0; have f0_0 : w42_.frozen? ⟨g10, 0, none⟩ = false := HS.out.free 0 _ _ _ rfl 0; have c0_1 : w42_.cell? ⟨g10, 1, none⟩ = some (.int .i64 x1) := HS.out.cell 0 _ _ _ rfl 1; have f0_1 : w42_.frozen? ⟨g10, 1, none⟩ = false := HS.out.free 0 _ _ _ rfl 1; have c0_2 : w42_.cell? ⟨g10, 2, none⟩ = some (.int .u32 x2) := HS.out.cell 0 _ _ _ rfl 2; have f0_2 : w42_.frozen? ⟨g10, 2, none⟩ = false := HS.out.free 0 _ _ _ rfl 2; have c1_0 : w42_.cell? ⟨g8, 0, none⟩ = some (.slice A fst.length c) := HS.out.cell 1 _ _ _ rfl 0; have f1_0 : w42_.frozen? ⟨g8, 0, none⟩ = false := HS.out.free 1 _ _ _ rfl 0; have c1_1 : w42_.cell? ⟨g8, 1, none⟩ = some (.slice A2 now.length c2) := HS.out.cell 1 _ _ _ rfl 1; have f1_1 : w42_.frozen? ⟨g8, 1, none⟩ = false := HS.out.free 1 _ _ _ rfl 1; have c1_2 : w42_.cell? ⟨g8, 2, none⟩ = some (.int .i64 m) := HS.out.cell 1 _ _ _ rfl 2; have f1_2 : w42_.frozen? ⟨g8, 2, none⟩ = false := HS.out.free 1 _ _ _ rfl 2; have ne0_1 := HS.out.ne_blk 0 1 _ _ _ _ _ _ rfl rfl (by omega)) | ((with_reducible refine gate_store (p := 8) rfl ?_); refine Sl.storeAll_st HS.out 1 g8 52 _ rfl [.slice A fst.length c, .slice A3 (back true fst now fst.length).length c3, .int .i64 0] rfl (by rfl) (by rfl) ?hr ?_; (case hr => first | (go_simp; done) | (go_simp; rfl)); intro w43_ HSn; replace HS : Hid (St [SL.blk g10 48 #[.int .i64 x0, .int .i64 x1, .int .u32 x2], SL.blk g8 52 #[.slice A fst.length c, .slice A3 (back true fst now fst.length).length c3, .int .i64 0], SL.row (Kd.int .u32) 39 (.slice A3 (back true fst now fst.length).length c3) (back true fst now fst.length), cells g7 fst (fst.map (·.f0)) 0] w w43_) := Go.Lib.hid HSn; clear HSn; clear c0_0 f0_0 c0_1 f0_1 c0_2 f0_2 c1_0 f1_0 c1_1 f1_1 c1_2 f1_2 ne0_1; have c0_0 : w43_.cell? ⟨g10, 0, none⟩ = some (.int .i64 x0) := HS.out.cell 0 _ _ _ rfl 0; have f0_0 : w43_.frozen? ⟨g10, 0, none⟩ = false := HS.out.free 0 _ _ _ rfl 0; have c0_1 : w43_.cell? ⟨g10, 1, none⟩ = some (.int .i64 x1) := HS.out.cell 0 _ _ _ rfl 1; have f0_1 : w43_.frozen? ⟨g10, 1, none⟩ = false := HS.out.free 0 _ _ _ rfl 1; have c0_2 : w43_.cell? ⟨g10, 2, none⟩ = some (.int .u32 x2) := HS.out.cell 0 _ _ _ rfl 2; have f0_2 : w43_.frozen? ⟨g10, 2, none⟩ = false := HS.out.free 0 _ _ _ rfl 2; have c1_0 : w43_.cell? ⟨g8, 0, none⟩ = some (.slice A fst.length c) := HS.out.cell 1 _ _ _ rfl 0; have f1_0 : w43_.frozen? ⟨g8, 0, none⟩ = false := HS.out.free 1 _ _ _ rfl 0; have c1_1 : w43_.cell? ⟨g8, 1, none⟩ = some (.slice A3 (back true fst now fst.length).length c3) := HS.out.cell 1 _ _ _ rfl 1; have f1_1 : w43_.frozen? ⟨g8, 1, none⟩ = false := HS.out.free 1 _ _ _ rfl 1; have c1_2 : w43_.cell? ⟨g8, 2, none⟩ = some (.int .i64 0) := HS.out.cell 1 _ _ _ rfl 2; have f1_2 : w43_.frozen? ⟨g8, 2, none⟩ = false := HS.out.free 1 _ _ _ rfl 2; have ne0_1 := HS.out.ne_blk 0 1 _ _ _ _ _ _ rfl rfl (by omega)))
          go_meet
          exact ⟨fst.map (·.f0), 0, A3, c3, by omega, by omega, by simp, by rw [← back_all fst now HL.out]; have h9 := HS.out.erase 0; rw [back_all fst now HL.out] at h9 ⊢; exact h9⟩
        have e2 : (x0 == 2) = false := beq_eq_false_iff_ne.2 hk2
        by_cases hk3 : x0 = 3
        · have e3 : (x0 == 3) = true := beq_iff_eq.2 hk3
          clear hk1 hk2
          clear hk3
          go_wp2_with (first | (go_at_call 27; refine (warm_st HS.out 3 rfl (by omega)).mono ?_; rintro e w41_ ⟨rfl, HSn⟩; replace HS : Hid (St [SL.blk g10 48 #[.int .i64 x0, .int .i64 x1, .int .u32 x2], SL.blk g8 52 #[.slice A fst.length c, .slice A2 now.length c2, .int .i64 m], SL.row (Kd.int .u32) 39 (.slice A2 now.length c2) now, cells g7 fst (back false fst now fst.length) m] w w41_) := Go.Lib.hid HSn; clear HSn; clear c0_0 f0_0 c0_1 f0_1 c0_2 f0_2 c1_0 f1_0 c1_1 f1_1 c1_2 f1_2 ne0_1; have c0_0 : w41_.cell? ⟨g10, 0, none⟩ = some (.int .i64 x0) := HS.out.cell 0 _ _ _ rfl 0; have f0_0 : w41_.frozen? ⟨g10, 0, none⟩ = false := HS.out.free 0 _ _ _ rfl 0; have c0_1 : w41_.cell? ⟨g10, 1, none⟩ = some (.int .i64 x1) := HS.out.cell 0 _ _ _ rfl 1; have f0_1 : w41_.frozen? ⟨g10, 1, none⟩ = false := HS.out.free 0 _ _ _ rfl 1; have c0_2 : w41_.cell? ⟨g10, 2, none⟩ = some (.int .u32 x2) := HS.out.cell 0 _ _ _ rfl 2; have f0_2 : w41_.frozen? ⟨g10, 2, none⟩ = false := HS.out.free 0 _ _ _ rfl 2; have c1_0 : w41_.cell? ⟨g8, 0, none⟩ = some (.slice A fst.length c) := HS.out.cell 1 _ _ _ rfl 0; have f1_0 : w41_.frozen? ⟨g8, 0, none⟩ = false := HS.out.free 1 _ _ _ rfl 0; have c1_1 : w41_.cell? ⟨g8, 1, none⟩ = some (.slice A2 now.length c2) := HS.out.cell 1 _ _ _ rfl 1; have f1_1 : w41_.frozen? ⟨g8, 1, none⟩ = false := HS.out.free 1 _ _ _ rfl 1; have c1_2 : w41_.cell? ⟨g8, 2, none⟩ = some (.int .i64 m) := HS.out.cell 1 _ _ _ rfl 2; have f1_2 : w41_.frozen? ⟨g8, 2, none⟩ = false := HS.out.free 1 _ _ _ rfl 2; have ne0_1 := HS.out.ne_blk 0 1 _ _ _ _ _ _ rfl rfl (by omega)) | (go_at_call 34; refine (rstart_st HS.out 2 A c A2 c2 (HS.out.C hC.out) rfl HL.out (by omega) m false).mono ?_; rintro e w42_ ⟨A3, c3, rfl, HSn⟩; replace HS : Hid (St [SL.blk g10 48 #[.int .i64 x0, .int .i64 x1, .int .u32 x2], SL.blk g8 52 #[.slice A fst.length c, .slice A2 now.length c2, .int .i64 m], SL.row (Kd.int .u32) 39 (.slice A3 (back false fst now fst.length).length c3) (back false fst now fst.length), cells g7 fst (back false fst now fst.length) m] w w42_) := Go.Lib.hid HSn; clear HSn; clear c0_0 f0_0 c0_1 f0_1 c0_2 f0_2 c1_0 f1_0 c1_1 f1_1 c1_2 f1_2 ne0_1; have c0_0 : w42_.cell? ⟨g10, 0, none⟩ = some (.int .i64 x0) := HS.out.cell 0 _ _ _ rfl 0; have f0_0 : w42_.frozen? ⟨g10, 0, none⟩ = false := HS.out.free 0 _ _ _ rfl 0; have c0_1 : w42_.cell? ⟨g10, 1, none⟩ = some (.int .i64 x1) := HS.out.cell 0 _ _ _ rfl 1; have f0_1 : w42_.frozen? ⟨g10, 1, none⟩ = false := HS.out.free 0 _ _ _ rfl 1; have c0_2 : w42_.cell? ⟨g10, 2, none⟩ = some (.int .u32 x2) := HS.out.cell 0 _ _ _ rfl 2; have f0_2 : w42_.frozen? ⟨g10, 2, none⟩ = false := HS.out.free 0 _ _ _ rfl 2; have c1_0 : w42_.cell? ⟨g8, 0, none⟩ = some (.slice A fst.length c) := HS.out.cell 1 _ _ _ rfl 0; have f1_0 : w42_.frozen? ⟨g8, 0, none⟩ = false := HS.out.free 1 _ _ _ rfl 0; have c1_1 : w42_.cell? ⟨g8, 1, none⟩ = some (.slice A2 now.length c2) := HS.out.cell 1 _ _ _ rfl 1; have f1_1 : w42_.frozen? ⟨g8, 1, none⟩ = false := HS.out.free 1 _ _ _ rfl 1; have c1_2 : w42_.cell? ⟨g8, 2, none⟩ = some (.int .i64 m) := HS.out.cell 1 _ _ _ rfl 2; have f1_2 : w42_.frozen? ⟨g8, 2, none⟩ = false := HS.out.free 1 _ _ _ rfl 2; have ne0_1 := HS.out.ne_blk 0 1 _ _ _ _ _ _ rfl rfl (by omega)) | ((with_reducible refine gate_store (p := 8) rfl ?_); refine Sl.storeAll_st HS.out 1 g8 52 _ rfl [.slice A fst.length c, .slice A3 (back false fst now fst.length).length c3, .int .i64 m] rfl (by rfl) (by rfl) ?hr ?_; (case hr => first | (go_simp; done) | (go_simp; rfl)); intro w43_ HSn; replace HS : Hid (St [SL.blk g10 48 #[.int .i64 x0, .int .i64 x1, .int .u32 x2], SL.blk g8 52 #[.slice A fst.length c, .slice A3 (back false fst now fst.length).length c3, .int .i64 m], SL.row (Kd.int .u32) 39 (.slice A3 (back false fst now fst.length).length c3) (back false fst now fst.length), cells g7 fst (back false fst now fst.length) m] w w43_) := Go.Lib.hid HSn; clear HSn; clear c0_0 f0_0 c0_1 f0_1 c0_2 f0_2 c1_0 f1_0 c1_1 f1_1 c1_2 f1_2 ne0_1; have c0_0 : w43_.cell? ⟨g10, 0, none⟩ = some (.int .i64 x0) := HS.out.cell 0 _ _ _ rfl 0; have f0_0 : w43_.frozen? ⟨g10, 0, none⟩ = false := HS.out.free 0 _ _ _ rfl 0; have c0_1 : w43_.cell? ⟨g10, 1, none⟩ = some (.int .i64 x1) := HS.out.cell 0 _ _ _ rfl 1; have f0_1 : w43_.frozen? ⟨g10, 1, none⟩ = false := HS.out.free 0 _ _ _ rfl 1; have c0_2 : w43_.cell? ⟨g10, 2, none⟩ = some (.int .u32 x2) := HS.out.cell 0 _ _ _ rfl 2; have f0_2 : w43_.frozen? ⟨g10, 2, none⟩ = false := HS.out.free 0 _ _ _ rfl 2; have c1_0 : w43_.cell? ⟨g8, 0, none⟩ = some (.slice A fst.length c) := HS.out.cell 1 _ _ _ rfl 0; have f1_0 : w43_.frozen? ⟨g8, 0, none⟩ = false := HS.out.free 1 _ _ _ rfl 0; have c1_1 : w43_.cell? ⟨g8, 1, none⟩ = some (.slice A3 (back false fst now fst.length).length c3) := HS.out.cell 1 _ _ _ rfl 1; have f1_1 : w43_.frozen? ⟨g8, 1, none⟩ = false := HS.out.free 1 _ _ _ rfl 1; have c1_2 : w43_.cell? ⟨g8, 2, none⟩ = some (.int .i64 m) := HS.out.cell 1 _ _ _ rfl 2; have f1_2 : w43_.frozen? ⟨g8, 2, none⟩ = false := HS.out.free 1 _ _ _ rfl 2; have ne0_1 := HS.out.ne_blk 0 1 _ _ _ _ _ _ rfl rfl (by omega)))
          go_meet
          exact ⟨back false fst now fst.length, m, A3, c3, hm0, by omega, (back_len _ _ _ _).trans HL.out, HS.out.erase 0⟩
        have e3 : (x0 == 3) = false := beq_eq_false_iff_ne.2 hk3
        clear hk1 hk2 hk3
        go_wp2_with fail
        go_meet
        exact ⟨now, m, A2, c2, hm0, by omega, HL.out, HS.out.erase 0⟩
      case rest =>
        obtain ⟨wo, rfl⟩ : ∃ wo : World, wo = wr := ⟨_, rfl⟩
        clear HS gg0 gg1 gg2 c0_0 f0_0 c0_1 f0_1 c0_2 f0_2 c1_0 f1_0 c1_1 f1_1 c1_2 f1_2 ne0_1
        obtain ⟨now, m, A2, c2, hm0, hm1, hl, hS⟩ := hcut
        have HS := Go.Lib.hid hS
        have HL := Go.Lib.hid hl
        have hln : now.length ≤ 1000 := by omega
        clear hS hl
        go_wp2_with fail
        go_loopw [13, 79] (fun b i wr => ∃ (j : Nat), j ≤ fst.length ∧ i = .int .i64 j ∧ b = .bool (freshTo fst now j) ∧ St [SL.blk g8 52 #[.slice A fst.length c, .slice A2 now.length c2, .int .i64 m], SL.row (Kd.int .u32) 39 (.slice A2 now.length c2) now, cells g7 fst now m] w wr) (fun _ i _ => fst.length - (intOf i).toNat)
        case atStart => exact ⟨0, Nat.zero_le _, rfl, by simp [freshTo], HS.out⟩
        case round =>
          clear HS
          obtain ⟨j, hj, rfl, rfl, hS⟩ := hrel
          by_cases hjlt : j < fst.length
          · obtain ⟨ad3, rfl, d2, _⟩ := at_T43 (hS.drew.C hC.out) (j : Int) (by omega) (by omega)
            obtain ⟨A', c', hv, hR⟩ := hS.drew.rowC 1 rfl
            injection hv with q1 _ q2
            subst q1 q2
            have hjn : j < now.length := by rw [HL.out]; exact hjlt
            obtain ⟨ad4, rfl, d1⟩ := Kd.at_int hR.2 (j : Int) (by omega) (by omega)
            rw [Int.toNat_natCast] at d1 d2
            have hjf : (j : Int) < (fst.length : Int) := by omega
            have hjn' : (j : Int) < (now.length : Int) := by omega
            have HS := Go.Lib.hid hS.drew
            have HFS := Go.Lib.hid (freshTo_succ fst now j)
            clear hS hR
            by_cases hfr : freshTo fst now j = true
            · have HFR := Go.Lib.hid hfr
              rw [hfr]
              clear hfr
              go_wp2_with fail
              refine start_ (n := 15) (S := fun w' => w'.cell? ⟨g8, 1, none⟩ = some (.slice (some ad4) now.length c2) ∧ w'.cell? (ad4.add j) = some (.int .u32 (rd now (j : Int))) ∧ w'.cell? (ad3.add (j * 2)) = some (.int .u32 (rd_T43 fst (j : Int)).f0)) (ds := []) #[false, false, false, false, false, false, false, false, false, false, false, false, false, false, false] (by kernel_rfl) rfl rfl ⟨HS.out.cell 0 _ _ _ rfl 1, d1, d2⟩ (fun hHeld => ?_)
              generalize wr.drew = W_ at *
              refine pure_ (i := 0) (N := some 82) (v := ?_) (a' := ?_) #[true, false, false, false, false, false, false, false, false, false, false, false, false, false, false] rfl rfl (by kernel_rfl) (fun _ _ _ h => h) (Or.inl ⟨by rfl, ?_⟩) ?_ ?_
              rotate_left
              · intro w'
                go_simp
                with_reducible rfl
              rotate_left
              · simp only [Act.put, List.setIfInBounds_toArray, List.set_cons_zero, List.set_cons_succ, i64_w, i32_w]
                rfl
              refine pure_ (i := 1) (N := some 83) (v := ?_) (a' := ?_) #[true, true, false, false, false, false, false, false, false, false, false, false, false, false, false] rfl rfl (by kernel_rfl) (fun _ _ _ h => h) (Or.inl ⟨by rfl, ?_⟩) ?_ ?_
              rotate_left
              · intro w'
                go_simp
                with_reducible rfl
              rotate_left
              · simp only [Act.put, List.setIfInBounds_toArray, List.set_cons_zero, List.set_cons_succ, i64_w, i32_w]
                rfl
              refine pure_ (i := 2) (N := some 84) (v := ?_) (a' := ?_) #[true, true, true, false, false, false, false, false, false, false, false, false, false, false, false] rfl rfl (by kernel_rfl) (fun _ _ _ h => h) (Or.inl ⟨by rfl, ?_⟩) ?_ ?_
              rotate_left
              · intro w'
                go_simp
                with_reducible rfl
              rotate_left
              · simp only [Act.put, List.setIfInBounds_toArray, List.set_cons_zero, List.set_cons_succ, i64_w, i32_w]
                rfl
              refine pure_ (i := 4) (N := some 86) (v := ?_) (a' := ?_) #[true, true, true, false, true, false, false, false, false, false, false, false, false, false, false] rfl rfl (by kernel_rfl) (fun _ _ _ h => h) (Or.inl ⟨by rfl, ?_⟩) ?_ ?_
              rotate_left
              · intro w'
                go_simp
                with_reducible rfl
              rotate_left
              · simp only [Act.put, List.setIfInBounds_toArray, List.set_cons_zero, List.set_cons_succ, i64_w, i32_w]
                rfl
              refine pure_ (i := 7) (N := some 89) (v := ?_) (a' := ?_) #[true, true, true, false, true, false, false, true, false, false, false, false, false, false, false] rfl rfl (by kernel_rfl) (fun _ _ _ h => h) (Or.inl ⟨by rfl, ?_⟩) ?_ ?_
              rotate_left
              · intro w'
                go_simp
                with_reducible rfl
              rotate_left
              · simp only [Act.put, List.setIfInBounds_toArray, List.set_cons_zero, List.set_cons_succ, i64_w, i32_w]
                rfl
              refine pure_ (i := 8) (N := some 90) (v := ?_) (a' := ?_) #[true, true, true, false, true, false, false, true, true, false, false, false, false, false, false] rfl rfl (by kernel_rfl) (fun _ _ _ h => h) (Or.inl ⟨by rfl, ?_⟩) ?_ ?_
              rotate_left
              · intro w'
                go_simp
                with_reducible rfl
              rotate_left
              · simp only [Act.put, List.setIfInBounds_toArray, List.set_cons_zero, List.set_cons_succ, i64_w, i32_w]
                rfl
              refine pure_ (i := 9) (N := some 91) (v := ?_) (a' := ?_) #[true, true, true, false, true, false, false, true, true, true, false, false, false, false, false] rfl rfl (by kernel_rfl) (fun _ _ _ h => h) (Or.inl ⟨by rfl, ?_⟩) ?_ ?_
              rotate_left
              · intro w'
                go_simp
                with_reducible rfl
              rotate_left
              · simp only [Act.put, List.setIfInBounds_toArray, List.set_cons_zero, List.set_cons_succ, i64_w, i32_w]
                rfl
              refine pure_ (i := 10) (N := some 92) (v := ?_) (a' := ?_) #[true, true, true, false, true, false, false, true, true, true, true, false, false, false, false] rfl rfl (by kernel_rfl) (fun _ _ _ h => h) (Or.inl ⟨by rfl, ?_⟩) ?_ ?_
              rotate_left
              · intro w'
                go_simp
                with_reducible rfl
              rotate_left
              · simp only [Act.put, List.setIfInBounds_toArray, List.set_cons_zero, List.set_cons_succ, i64_w, i32_w]
                rfl
              refine take_ (i := 3) (N := some 85) (v := ?_) (a' := ?_) #[true, true, true, true, true, false, false, true, true, true, true, false, false, false, false] rfl rfl (by kernel_rfl) (fun _ _ _ h => h) (Or.inl ⟨by rfl, ?_⟩) hHeld ?_ ?_
              rotate_left
              · rintro w' ⟨s0, s1, s2⟩
                go_simp
                with_reducible rfl
              rotate_left
              · simp only [Act.put, List.setIfInBounds_toArray, List.set_cons_zero, List.set_cons_succ, i64_w, i32_w]
                rfl
              refine pure_ (i := 5) (N := some 87) (v := ?_) (a' := ?_) #[true, true, true, true, true, true, false, true, true, true, true, false, false, false, false] rfl rfl (by kernel_rfl) (fun _ _ _ h => h) (Or.inl ⟨by rfl, ?_⟩) ?_ ?_
              rotate_left
              · intro w'
                go_simp
                with_reducible rfl
              rotate_left
              · simp only [Act.put, List.setIfInBounds_toArray, List.set_cons_zero, List.set_cons_succ, i64_w, i32_w]
                rfl
              refine take_ (i := 6) (N := some 88) (v := ?_) (a' := ?_) #[true, true, true, true, true, true, true, true, true, true, true, false, false, false, false] rfl rfl (by kernel_rfl) (fun _ _ _ h => h) (Or.inl ⟨by rfl, ?_⟩) hHeld ?_ ?_
              rotate_left
              · rintro w' ⟨s0, s1, s2⟩
                go_simp
                with_reducible rfl
              rotate_left
              · simp only [Act.put, List.setIfInBounds_toArray, List.set_cons_zero, List.set_cons_succ, i64_w, i32_w]
                rfl
              refine take_ (i := 11) (N := some 93) (v := ?_) (a' := ?_) #[true, true, true, true, true, true, true, true, true, true, true, true, false, false, false] rfl rfl (by kernel_rfl) (fun _ _ _ h => h) (Or.inl ⟨by rfl, ?_⟩) hHeld ?_ ?_
              rotate_left
              · rintro w' ⟨s0, s1, s2⟩
                go_simp
                with_reducible rfl
              rotate_left
              · simp only [Act.put, List.setIfInBounds_toArray, List.set_cons_zero, List.set_cons_succ, i64_w, i32_w]
                rfl
              refine pure_ (i := 12) (N := some 94) (v := ?_) (a' := ?_) #[true, true, true, true, true, true, true, true, true, true, true, true, true, false, false] rfl rfl (by kernel_rfl) (fun _ _ _ h => h) (Or.inl ⟨by rfl, ?_⟩) ?_ ?_
              rotate_left
              · intro w'
                go_simp
                with_reducible rfl
              rotate_left
              · simp only [Act.put, List.setIfInBounds_toArray, List.set_cons_zero, List.set_cons_succ, i64_w, i32_w]
                rfl
              refine pure_ (i := 13) (N := some 95) (v := ?_) (a' := ?_) #[true, true, true, true, true, true, true, true, true, true, true, true, true, true, false] rfl rfl (by kernel_rfl) (fun _ _ _ h => h) (Or.inl ⟨by rfl, ?_⟩) ?_ ?_
              rotate_left
              · intro w'
                go_simp
                with_reducible rfl
              rotate_left
              · simp only [Act.put, List.setIfInBounds_toArray, List.set_cons_zero, List.set_cons_succ, i64_w, i32_w]
                rfl
              refine pure_ (i := 14) (N := some 13) (v := ?_) (a' := ?_) #[true, true, true, true, true, true, true, true, true, true, true, true, true, true, true] rfl rfl (by kernel_rfl) (fun _ _ _ h => h) (Or.inl ⟨by rfl, ?_⟩) ?_ ?_
              rotate_left
              · intro w'
                go_simp
                with_reducible rfl
              rotate_left
              · simp only [Act.put, List.setIfInBounds_toArray, List.set_cons_zero, List.set_cons_succ, i64_w, i32_w]
                rfl
              refine done_ (by kernel_rfl) ?_
              go_wp2_with fail
              go_roundw
              case rel => exact ⟨j + 1, by omega, by go_num, by rw [HFS.out, HFR.out]; rfl, HS.out⟩
              case measure => simp [intOf]; omega
            · have hfr' : freshTo fst now j = false := by simpa using hfr
              have HFR := Go.Lib.hid hfr'
              rw [hfr']
              clear hfr hfr'
              go_wp2_with fail
              refine start_ (n := 15) (S := fun _ => True) (ds := []) #[false, false, false, false, false, false, false, false, false, false, false, false, false, false, false] (by kernel_rfl) rfl rfl trivial (fun hHeld => ?_)
              generalize wr.drew = W_ at *
              refine pure_ (i := 0) (N := some 82) (v := ?_) (a' := ?_) #[true, false, false, false, false, false, false, false, false, false, false, false, false, false, false] rfl rfl (by kernel_rfl) (fun _ _ _ h => h) (Or.inl ⟨by rfl, ?_⟩) ?_ ?_
              rotate_left
              · intro w'
                go_simp
                with_reducible rfl
              rotate_left
              · simp only [Act.put, List.setIfInBounds_toArray, List.set_cons_zero, List.set_cons_succ, i64_w, i32_w]
                rfl
              refine pure_ (i := 1) (N := some 83) (v := ?_) (a' := ?_) #[true, true, false, false, false, false, false, false, false, false, false, false, false, false, false] rfl rfl (by kernel_rfl) (fun _ _ _ h => h) (Or.inl ⟨by rfl, ?_⟩) ?_ ?_
              rotate_left
              · intro w'
                go_simp
                with_reducible rfl
              rotate_left
              · simp only [Act.put, List.setIfInBounds_toArray, List.set_cons_zero, List.set_cons_succ, i64_w, i32_w]
                rfl
              refine pure_ (i := 2) (N := some 84) (v := undef) (a' := ?_) #[true, true, true, false, false, false, false, false, false, false, false, false, false, false, false] rfl rfl (by kernel_rfl) (fun _ _ _ h => h) (Or.inr ⟨by rfl, rfl⟩) ?_ ?_
              rotate_left
              · show _ = _
                simp only [Act.put, List.setIfInBounds_toArray, List.set_cons_zero, List.set_cons_succ, i64_w, i32_w]
                rfl
              refine pure_ (i := 3) (N := some 85) (v := undef) (a' := ?_) #[true, true, true, true, false, false, false, false, false, false, false, false, false, false, false] rfl rfl (by kernel_rfl) (fun _ _ _ h => h) (Or.inr ⟨by rfl, rfl⟩) ?_ ?_
              rotate_left
              · show _ = _
                simp only [Act.put, List.setIfInBounds_toArray, List.set_cons_zero, List.set_cons_succ, i64_w, i32_w]
                rfl
              refine pure_ (i := 4) (N := some 86) (v := undef) (a' := ?_) #[true, true, true, true, true, false, false, false, false, false, false, false, false, false, false] rfl rfl (by kernel_rfl) (fun _ _ _ h => h) (Or.inr ⟨by rfl, rfl⟩) ?_ ?_
              rotate_left
              · show _ = _
                simp only [Act.put, List.setIfInBounds_toArray, List.set_cons_zero, List.set_cons_succ, i64_w, i32_w]
                rfl
              refine pure_ (i := 5) (N := some 87) (v := undef) (a' := ?_) #[true, true, true, true, true, true, false, false, false, false, false, false, false, false, false] rfl rfl (by kernel_rfl) (fun _ _ _ h => h) (Or.inr ⟨by rfl, rfl⟩) ?_ ?_
              rotate_left
              · show _ = _
                simp only [Act.put, List.setIfInBounds_toArray, List.set_cons_zero, List.set_cons_succ, i64_w, i32_w]
                rfl
              refine pure_ (i := 6) (N := some 88) (v := undef) (a' := ?_) #[true, true, true, true, true, true, true, false, false, false, false, false, false, false, false] rfl rfl (by kernel_rfl) (fun _ _ _ h => h) (Or.inr ⟨by rfl, rfl⟩) ?_ ?_
              rotate_left
              · show _ = _
                simp only [Act.put, List.setIfInBounds_toArray, List.set_cons_zero, List.set_cons_succ, i64_w, i32_w]
                rfl
              refine pure_ (i := 7) (N := some 89) (v := undef) (a' := ?_) #[true, true, true, true, true, true, true, true, false, false, false, false, false, false, false] rfl rfl (by kernel_rfl) (fun _ _ _ h => h) (Or.inr ⟨by rfl, rfl⟩) ?_ ?_
              rotate_left
              · show _ = _
                simp only [Act.put, List.setIfInBounds_toArray, List.set_cons_zero, List.set_cons_succ, i64_w, i32_w]
                rfl
              refine pure_ (i := 8) (N := some 90) (v := undef) (a' := ?_) #[true, true, true, true, true, true, true, true, true, false, false, false, false, false, false] rfl rfl (by kernel_rfl) (fun _ _ _ h => h) (Or.inr ⟨by rfl, rfl⟩) ?_ ?_
              rotate_left
              · show _ = _
                simp only [Act.put, List.setIfInBounds_toArray, List.set_cons_zero, List.set_cons_succ, i64_w, i32_w]
                rfl
              refine pure_ (i := 9) (N := some 91) (v := undef) (a' := ?_) #[true, true, true, true, true, true, true, true, true, true, false, false, false, false, false] rfl rfl (by kernel_rfl) (fun _ _ _ h => h) (Or.inr ⟨by rfl, rfl⟩) ?_ ?_
              rotate_left
              · show _ = _
                simp only [Act.put, List.setIfInBounds_toArray, List.set_cons_zero, List.set_cons_succ, i64_w, i32_w]
                rfl
              refine pure_ (i := 10) (N := some 92) (v := undef) (a' := ?_) #[true, true, true, true, true, true, true, true, true, true, true, false, false, false, false] rfl rfl (by kernel_rfl) (fun _ _ _ h => h) (Or.inr ⟨by rfl, rfl⟩) ?_ ?_
              rotate_left
              · show _ = _
                simp only [Act.put, List.setIfInBounds_toArray, List.set_cons_zero, List.set_cons_succ, i64_w, i32_w]
                rfl
              refine pure_ (i := 11) (N := some 93) (v := undef) (a' := ?_) #[true, true, true, true, true, true, true, true, true, true, true, true, false, false, false] rfl rfl (by kernel_rfl) (fun _ _ _ h => h) (Or.inr ⟨by rfl, rfl⟩) ?_ ?_
              rotate_left
              · show _ = _
                simp only [Act.put, List.setIfInBounds_toArray, List.set_cons_zero, List.set_cons_succ, i64_w, i32_w]
                rfl
              refine pure_ (i := 12) (N := some 94) (v := undef) (a' := ?_) #[true, true, true, true, true, true, true, true, true, true, true, true, true, false, false] rfl rfl (by kernel_rfl) (fun _ _ _ h => h) (Or.inr ⟨by rfl, rfl⟩) ?_ ?_
              rotate_left
              · show _ = _
                simp only [Act.put, List.setIfInBounds_toArray, List.set_cons_zero, List.set_cons_succ, i64_w, i32_w]
                rfl
              refine pure_ (i := 13) (N := some 95) (v := ?_) (a' := ?_) #[true, true, true, true, true, true, true, true, true, true, true, true, true, true, false] rfl rfl (by kernel_rfl) (fun _ _ _ h => h) (Or.inl ⟨by rfl, ?_⟩) ?_ ?_
              rotate_left
              · intro w'
                go_simp
                with_reducible rfl
              rotate_left
              · simp only [Act.put, List.setIfInBounds_toArray, List.set_cons_zero, List.set_cons_succ, i64_w, i32_w]
                rfl
              refine pure_ (i := 14) (N := some 13) (v := ?_) (a' := ?_) #[true, true, true, true, true, true, true, true, true, true, true, true, true, true, true] rfl rfl (by kernel_rfl) (fun _ _ _ h => h) (Or.inl ⟨by rfl, ?_⟩) ?_ ?_
              rotate_left
              · intro w'
                go_simp
                with_reducible rfl
              rotate_left
              · simp only [Act.put, List.setIfInBounds_toArray, List.set_cons_zero, List.set_cons_succ, i64_w, i32_w]
                rfl
              refine done_ (by kernel_rfl) ?_
              go_wp2_with fail
              go_roundw
              case rel => exact ⟨j + 1, by omega, by go_num, by rw [HFS.out, HFR.out]; rfl, HS.out⟩
              case measure => simp [intOf]; omega
          · obtain rfl : j = fst.length := by omega
            obtain ⟨A', c', hv, hR⟩ := hS.rowC 1 rfl
            injection hv with q1 _ q2
            subst q1 q2
            have HS := Go.Lib.hid hS
            clear hS hj hjlt
            by_cases hi0 : 0 ≤ at_
            · have t1 : decide (0 ≤ at_) = true := by simpa using hi0
              by_cases hi1 : at_ < (fst.length : Int)
              · have t2 : decide (at_ < (fst.length : Int)) = true := by simpa using hi1
                have hi2 : at_ < (now.length : Int) := by rw [HL.out]; exact hi1
                have HG := Go.Lib.hid (get_in HS.out 2 rfl at_ hi0 hi2)
                obtain ⟨adn, hadn, d3⟩ := Kd.at_int hR.2 at_ hi0 (by omega)
                subst hadn
                have q0 := HS.out.cell 0 _ _ _ rfl 1
                go_wp2_with (first | (go_at_call 35; refine (HG.out).mono ?_; rintro e w' ⟨rfl, rfl⟩))
                clear q0 d3
                replace HS := Go.Lib.hid HS.out.drew
                refine start_ (n := 36) (S := fun w' => w'.cell? ⟨g8, 1, none⟩ = some (.slice (some adn) now.length c2) ∧ w'.cell? ⟨g8, 2, none⟩ = some (.int .i64 m)) (ds := []) #[false, false, false, false, false, false, false, false, false, false, false, false, false, false, false, false, false, false, false, false, false, false, false, false, false, false, false, false, false, false, false, false, false, false, false, false] (by kernel_rfl) rfl rfl ⟨HS.out.cell 0 _ _ _ rfl 1, HS.out.cell 0 _ _ _ rfl 2⟩ (fun hHeld => ?_)
                generalize wr.drew = W_ at *
                refine pure_ (i := 0) (N := some 117) (v := ?_) (a' := ?_) #[true, false, false, false, false, false, false, false, false, false, false, false, false, false, false, false, false, false, false, false, false, false, false, false, false, false, false, false, false, false, false, false, false, false, false, false] rfl rfl (by kernel_rfl) (fun _ _ _ h => h) (Or.inl ⟨by rfl, ?_⟩) ?_ ?_
                rotate_left
                · intro w'
                  go_simp
                  with_reducible rfl
                rotate_left
                · simp only [Act.put, List.setIfInBounds_toArray, List.set_cons_zero, List.set_cons_succ, i64_w, i32_w]
                  rfl
                refine pure_ (i := 2) (N := some 119) (v := ?_) (a' := ?_) #[true, false, true, false, false, false, false, false, false, false, false, false, false, false, false, false, false, false, false, false, false, false, false, false, false, false, false, false, false, false, false, false, false, false, false, false] rfl rfl (by kernel_rfl) (fun _ _ _ h => h) (Or.inl ⟨by rfl, ?_⟩) ?_ ?_
                rotate_left
                · intro w'
                  go_simp
                  with_reducible rfl
                rotate_left
                · simp only [Act.put, List.setIfInBounds_toArray, List.set_cons_zero, List.set_cons_succ, i64_w, i32_w]
                  rfl
                refine take_ (i := 3) (N := some 120) (v := ?_) (a' := ?_) #[true, false, true, true, false, false, false, false, false, false, false, false, false, false, false, false, false, false, false, false, false, false, false, false, false, false, false, false, false, false, false, false, false, false, false, false] rfl rfl (by kernel_rfl) (fun _ _ _ h => h) (Or.inl ⟨by rfl, ?_⟩) hHeld ?_ ?_
                rotate_left
                · rintro w' ⟨s0, s1⟩
                  go_simp
                  with_reducible rfl
                rotate_left
                · simp only [Act.put, List.setIfInBounds_toArray, List.set_cons_zero, List.set_cons_succ, i64_w, i32_w]
                  rfl
                refine one_ (i := 1) (N := some 118) #[true, true, true, true, false, false, false, false, false, false, false, false, false, false, false, false, false, false, false, false, false, false, false, false, false, false, false, false, false, false, false, false, false, false, false, false] rfl rfl (by kernel_rfl) (by decide) (fun K hK => ?_)
                refine goes_ Try.func26 (by kernel_rfl) rfl #[.pointer (some ⟨g7, 0, none⟩)] (by rfl) rfl rfl (by (try simp only [List.map_toArray, List.map_cons, List.map_nil]); first | done | rfl) ?_
                refine (all_row HS.out 2 rfl (by omega)).mono ?_
                rintro e w91 ⟨A9, c9, rfl, hS91⟩
                have HS91 := Go.Lib.hid hS91
                clear hS91
                refine ⟨_, rfl, ?_⟩
                refine hK.out _ _ ⟨HS91.out.cell 1 _ _ _ rfl 1, HS91.out.cell 1 _ _ _ rfl 2⟩ (fun hHeld => ?_)
                clear hK K
                refine norm_ (a' := ?_) ?_ ?_
                rotate_left
                · show Act.put _ (some 118) _ = _
                  simp only [Act.put, List.setIfInBounds_toArray, List.set_cons_zero, List.set_cons_succ, i64_w, i32_w]
                  rfl
                refine one_ (i := 4) (N := some 121) #[true, true, true, true, true, false, false, false, false, false, false, false, false, false, false, false, false, false, false, false, false, false, false, false, false, false, false, false, false, false, false, false, false, false, false, false] rfl rfl (by kernel_rfl) (by decide) (fun K hK => ?_)
                refine goes_ Try.func36 (by kernel_rfl) rfl #[.slice A9 now.length c9, .slice (some adn) now.length c2] (by rfl) rfl rfl (by (try simp only [List.map_toArray, List.map_cons, List.map_nil]); first | done | rfl) ?_
                refine (rsame_eq HS91.out 0 2 rfl rfl (by omega)).mono ?_
                rintro e w92 ⟨rfl, hS92⟩
                have HS92 := Go.Lib.hid hS92
                clear hS92
                refine ⟨_, rfl, ?_⟩
                refine hK.out _ _ ⟨HS92.out.cell 1 _ _ _ rfl 1, HS92.out.cell 1 _ _ _ rfl 2⟩ (fun hHeld => ?_)
                clear hK K
                refine norm_ (a' := ?_) ?_ ?_
                rotate_left
                · show Act.put _ (some 121) _ = _
                  simp only [Act.put, List.setIfInBounds_toArray, List.set_cons_zero, List.set_cons_succ, i64_w, i32_w]
                  rfl
                refine pure_ (i := 5) (N := some 122) (v := ?_) (a' := ?_) #[true, true, true, true, true, true, false, false, false, false, false, false, false, false, false, false, false, false, false, false, false, false, false, false, false, false, false, false, false, false, false, false, false, false, false, false] rfl rfl (by kernel_rfl) (fun _ _ _ h => h) (Or.inl ⟨by rfl, ?_⟩) ?_ ?_
                rotate_left
                · intro w'
                  go_simp
                  with_reducible rfl
                rotate_left
                · simp only [Act.put, List.setIfInBounds_toArray, List.set_cons_zero, List.set_cons_succ, i64_w, i32_w]
                  rfl
                refine pure_ (i := 6) (N := some 123) (v := ?_) (a' := ?_) #[true, true, true, true, true, true, true, false, false, false, false, false, false, false, false, false, false, false, false, false, false, false, false, false, false, false, false, false, false, false, false, false, false, false, false, false] rfl rfl (by kernel_rfl) (fun _ _ _ h => h) (Or.inl ⟨by rfl, ?_⟩) ?_ ?_
                rotate_left
                · intro w'
                  go_simp
                  with_reducible rfl
                rotate_left
                · simp only [Act.put, List.setIfInBounds_toArray, List.set_cons_zero, List.set_cons_succ, i64_w, i32_w]
                  rfl
                refine pure_ (i := 7) (N := some 124) (v := ?_) (a' := ?_) #[true, true, true, true, true, true, true, true, false, false, false, false, false, false, false, false, false, false, false, false, false, false, false, false, false, false, false, false, false, false, false, false, false, false, false, false] rfl rfl (by kernel_rfl) (fun _ _ _ h => h) (Or.inl ⟨by rfl, ?_⟩) ?_ ?_
                rotate_left
                · intro w'
                  go_simp
                  with_reducible rfl
                rotate_left
                · simp only [Act.put, List.setIfInBounds_toArray, List.set_cons_zero, List.set_cons_succ, i64_w, i32_w]
                  rfl
                refine pure_ (i := 9) (N := some 126) (v := ?_) (a' := ?_) #[true, true, true, true, true, true, true, true, false, true, false, false, false, false, false, false, false, false, false, false, false, false, false, false, false, false, false, false, false, false, false, false, false, false, false, false] rfl rfl (by kernel_rfl) (fun _ _ _ h => h) (Or.inl ⟨by rfl, ?_⟩) ?_ ?_
                rotate_left
                · intro w'
                  go_simp
                  with_reducible rfl
                rotate_left
                · simp only [Act.put, List.setIfInBounds_toArray, List.set_cons_zero, List.set_cons_succ, i64_w, i32_w]
                  rfl
                refine pure_ (i := 10) (N := some 127) (v := ?_) (a' := ?_) #[true, true, true, true, true, true, true, true, false, true, true, false, false, false, false, false, false, false, false, false, false, false, false, false, false, false, false, false, false, false, false, false, false, false, false, false] rfl rfl (by kernel_rfl) (fun _ _ _ h => h) (Or.inl ⟨by rfl, ?_⟩) ?_ ?_
                rotate_left
                · intro w'
                  go_simp
                  with_reducible rfl
                rotate_left
                · simp only [Act.put, List.setIfInBounds_toArray, List.set_cons_zero, List.set_cons_succ, i64_w, i32_w]
                  rfl
                refine one_ (i := 8) (N := some 125) #[true, true, true, true, true, true, true, true, true, true, true, false, false, false, false, false, false, false, false, false, false, false, false, false, false, false, false, false, false, false, false, false, false, false, false, false] rfl rfl (by kernel_rfl) (by decide) (fun K hK => ?_)
                refine goes_ Try.func31 (by kernel_rfl) rfl #[.pointer (some ⟨g7, 0, none⟩)] (by rfl) rfl rfl (by (try simp only [List.map_toArray, List.map_cons, List.map_nil]); first | done | rfl) ?_
                refine (len_eq_st HS92.out 3 rfl).mono ?_
                rintro e w' ⟨rfl, rfl⟩
                refine ⟨_, rfl, ?_⟩
                refine hK.out _ _ ⟨HS92.out.cell 1 _ _ _ rfl 1, HS92.out.cell 1 _ _ _ rfl 2⟩ (fun hHeld => ?_)
                clear hK K
                refine norm_ (a' := ?_) ?_ ?_
                rotate_left
                · show Act.put _ (some 125) _ = _
                  simp only [Act.put, List.setIfInBounds_toArray, List.set_cons_zero, List.set_cons_succ, i64_w, i32_w]
                  rfl
                refine pure_ (i := 11) (N := some 128) (v := ?_) (a' := ?_) #[true, true, true, true, true, true, true, true, true, true, true, true, false, false, false, false, false, false, false, false, false, false, false, false, false, false, false, false, false, false, false, false, false, false, false, false] rfl rfl (by kernel_rfl) (fun _ _ _ h => h) (Or.inl ⟨by rfl, ?_⟩) ?_ ?_
                rotate_left
                · intro w'
                  go_simp
                  with_reducible rfl
                rotate_left
                · simp only [Act.put, List.setIfInBounds_toArray, List.set_cons_zero, List.set_cons_succ, i64_w, i32_w]
                  rfl
                refine pure_ (i := 12) (N := some 129) (v := ?_) (a' := ?_) #[true, true, true, true, true, true, true, true, true, true, true, true, true, false, false, false, false, false, false, false, false, false, false, false, false, false, false, false, false, false, false, false, false, false, false, false] rfl rfl (by kernel_rfl) (fun _ _ _ h => h) (Or.inl ⟨by rfl, ?_⟩) ?_ ?_
                rotate_left
                · intro w'
                  go_simp
                  with_reducible rfl
                rotate_left
                · simp only [Act.put, List.setIfInBounds_toArray, List.set_cons_zero, List.set_cons_succ, i64_w, i32_w]
                  rfl
                refine pure_ (i := 13) (N := some 130) (v := ?_) (a' := ?_) #[true, true, true, true, true, true, true, true, true, true, true, true, true, true, false, false, false, false, false, false, false, false, false, false, false, false, false, false, false, false, false, false, false, false, false, false] rfl rfl (by kernel_rfl) (fun _ _ _ h => h) (Or.inl ⟨by rfl, ?_⟩) ?_ ?_
                rotate_left
                · intro w'
                  go_simp
                  with_reducible rfl
                rotate_left
                · simp only [Act.put, List.setIfInBounds_toArray, List.set_cons_zero, List.set_cons_succ, i64_w, i32_w]
                  rfl
                refine pure_ (i := 14) (N := some 131) (v := ?_) (a' := ?_) #[true, true, true, true, true, true, true, true, true, true, true, true, true, true, true, false, false, false, false, false, false, false, false, false, false, false, false, false, false, false, false, false, false, false, false, false] rfl rfl (by kernel_rfl) (fun _ _ _ h => h) (Or.inl ⟨by rfl, ?_⟩) ?_ ?_
                rotate_left
                · intro w'
                  go_simp
                  with_reducible rfl
                rotate_left
                · simp only [Act.put, List.setIfInBounds_toArray, List.set_cons_zero, List.set_cons_succ, i64_w, i32_w]
                  rfl
                refine pure_ (i := 16) (N := some 133) (v := ?_) (a' := ?_) #[true, true, true, true, true, true, true, true, true, true, true, true, true, true, true, false, true, false, false, false, false, false, false, false, false, false, false, false, false, false, false, false, false, false, false, false] rfl rfl (by kernel_rfl) (fun _ _ _ h => h) (Or.inl ⟨by rfl, ?_⟩) ?_ ?_
                rotate_left
                · intro w'
                  go_simp
                  with_reducible rfl
                rotate_left
                · simp only [Act.put, List.setIfInBounds_toArray, List.set_cons_zero, List.set_cons_succ, i64_w, i32_w]
                  rfl
                refine take_ (i := 17) (N := some 134) (v := ?_) (a' := ?_) #[true, true, true, true, true, true, true, true, true, true, true, true, true, true, true, false, true, true, false, false, false, false, false, false, false, false, false, false, false, false, false, false, false, false, false, false] rfl rfl (by kernel_rfl) (fun _ _ _ h => h) (Or.inl ⟨by rfl, ?_⟩) hHeld ?_ ?_
                rotate_left
                · rintro w' ⟨s0, s1⟩
                  go_simp
                  with_reducible rfl
                rotate_left
                · simp only [Act.put, List.setIfInBounds_toArray, List.set_cons_zero, List.set_cons_succ, i64_w, i32_w]
                  rfl
                refine one_ (i := 15) (N := some 132) #[true, true, true, true, true, true, true, true, true, true, true, true, true, true, true, true, true, true, false, false, false, false, false, false, false, false, false, false, false, false, false, false, false, false, false, false] rfl rfl (by kernel_rfl) (by decide) (fun K hK => ?_)
                refine goes_ Try.func29 (by kernel_rfl) rfl #[.pointer (some ⟨g7, 0, none⟩)] (by rfl) rfl rfl (by (try simp only [List.map_toArray, List.map_cons, List.map_nil]); first | done | rfl) ?_
                refine (writes_st HS92.out 3 rfl).mono ?_
                rintro e w' ⟨rfl, rfl⟩
                refine ⟨_, rfl, ?_⟩
                refine hK.out _ _ ⟨HS92.out.cell 1 _ _ _ rfl 1, HS92.out.cell 1 _ _ _ rfl 2⟩ (fun hHeld => ?_)
                clear hK K
                refine norm_ (a' := ?_) ?_ ?_
                rotate_left
                · show Act.put _ (some 132) _ = _
                  simp only [Act.put, List.setIfInBounds_toArray, List.set_cons_zero, List.set_cons_succ, i64_w, i32_w]
                  rfl
                refine pure_ (i := 18) (N := some 135) (v := ?_) (a' := ?_) #[true, true, true, true, true, true, true, true, true, true, true, true, true, true, true, true, true, true, true, false, false, false, false, false, false, false, false, false, false, false, false, false, false, false, false, false] rfl rfl (by kernel_rfl) (fun _ _ _ h => h) (Or.inl ⟨by rfl, ?_⟩) ?_ ?_
                rotate_left
                · intro w'
                  go_simp
                  with_reducible rfl
                rotate_left
                · simp only [Act.put, List.setIfInBounds_toArray, List.set_cons_zero, List.set_cons_succ, i64_w, i32_w]
                  rfl
                refine pure_ (i := 19) (N := some 136) (v := ?_) (a' := ?_) #[true, true, true, true, true, true, true, true, true, true, true, true, true, true, true, true, true, true, true, true, false, false, false, false, false, false, false, false, false, false, false, false, false, false, false, false] rfl rfl (by kernel_rfl) (fun _ _ _ h => h) (Or.inl ⟨by rfl, ?_⟩) ?_ ?_
                rotate_left
                · intro w'
                  go_simp
                  with_reducible rfl
                rotate_left
                · simp only [Act.put, List.setIfInBounds_toArray, List.set_cons_zero, List.set_cons_succ, i64_w, i32_w]
                  rfl
                refine pure_ (i := 20) (N := some 137) (v := ?_) (a' := ?_) #[true, true, true, true, true, true, true, true, true, true, true, true, true, true, true, true, true, true, true, true, true, false, false, false, false, false, false, false, false, false, false, false, false, false, false, false] rfl rfl (by kernel_rfl) (fun _ _ _ h => h) (Or.inl ⟨by rfl, ?_⟩) ?_ ?_
                rotate_left
                · intro w'
                  go_simp
                  with_reducible rfl
                rotate_left
                · simp only [Act.put, List.setIfInBounds_toArray, List.set_cons_zero, List.set_cons_succ, i64_w, i32_w]
                  rfl
                refine pure_ (i := 21) (N := some 138) (v := ?_) (a' := ?_) #[true, true, true, true, true, true, true, true, true, true, true, true, true, true, true, true, true, true, true, true, true, true, false, false, false, false, false, false, false, false, false, false, false, false, false, false] rfl rfl (by kernel_rfl) (fun _ _ _ h => h) (Or.inl ⟨by rfl, ?_⟩) ?_ ?_
                rotate_left
                · intro w'
                  go_simp
                  with_reducible rfl
                rotate_left
                · simp only [Act.put, List.setIfInBounds_toArray, List.set_cons_zero, List.set_cons_succ, i64_w, i32_w]
                  rfl
                refine pure_ (i := 23) (N := some 140) (v := ?_) (a' := ?_) #[true, true, true, true, true, true, true, true, true, true, true, true, true, true, true, true, true, true, true, true, true, true, false, true, false, false, false, false, false, false, false, false, false, false, false, false] rfl rfl (by kernel_rfl) (fun _ _ _ h => h) (Or.inl ⟨by rfl, ?_⟩) ?_ ?_
                rotate_left
                · intro w'
                  go_simp
                  with_reducible rfl
                rotate_left
                · simp only [Act.put, List.setIfInBounds_toArray, List.set_cons_zero, List.set_cons_succ, i64_w, i32_w]
                  rfl
                refine one_ (i := 22) (N := some 139) #[true, true, true, true, true, true, true, true, true, true, true, true, true, true, true, true, true, true, true, true, true, true, true, true, false, false, false, false, false, false, false, false, false, false, false, false] rfl rfl (by kernel_rfl) (by decide) (fun K hK => ?_)
                refine goes_ Try.func24 (by kernel_rfl) rfl #[.pointer (some ⟨g7, 0, none⟩)] (by rfl) rfl rfl (by (try simp only [List.map_toArray, List.map_cons, List.map_nil]); first | done | rfl) ?_
                refine (fresh_to HS92.out 3 rfl).mono ?_
                rintro e w93 ⟨rfl, hS93⟩
                have HS93 := Go.Lib.hid hS93
                clear hS93
                refine ⟨_, rfl, ?_⟩
                refine hK.out _ _ ⟨HS93.out.cell 1 _ _ _ rfl 1, HS93.out.cell 1 _ _ _ rfl 2⟩ (fun hHeld => ?_)
                clear hK K
                refine norm_ (a' := ?_) ?_ ?_
                rotate_left
                · show Act.put _ (some 139) _ = _
                  simp only [Act.put, List.setIfInBounds_toArray, List.set_cons_zero, List.set_cons_succ, i64_w, i32_w]
                  rfl
                refine pure_ (i := 24) (N := some 141) (v := ?_) (a' := ?_) #[true, true, true, true, true, true, true, true, true, true, true, true, true, true, true, true, true, true, true, true, true, true, true, true, true, false, false, false, false, false, false, false, false, false, false, false] rfl rfl (by kernel_rfl) (fun _ _ _ h => h) (Or.inl ⟨by rfl, ?_⟩) ?_ ?_
                rotate_left
                · intro w'
                  go_simp
                  with_reducible rfl
                rotate_left
                · simp only [Act.put, List.setIfInBounds_toArray, List.set_cons_zero, List.set_cons_succ, i64_w, i32_w]
                  rfl
                refine pure_ (i := 25) (N := some 142) (v := ?_) (a' := ?_) #[true, true, true, true, true, true, true, true, true, true, true, true, true, true, true, true, true, true, true, true, true, true, true, true, true, true, false, false, false, false, false, false, false, false, false, false] rfl rfl (by kernel_rfl) (fun _ _ _ h => h) (Or.inl ⟨by rfl, ?_⟩) ?_ ?_
                rotate_left
                · intro w'
                  go_simp
                  with_reducible rfl
                rotate_left
                · simp only [Act.put, List.setIfInBounds_toArray, List.set_cons_zero, List.set_cons_succ, i64_w, i32_w]
                  rfl
                refine pure_ (i := 26) (N := some 143) (v := ?_) (a' := ?_) #[true, true, true, true, true, true, true, true, true, true, true, true, true, true, true, true, true, true, true, true, true, true, true, true, true, true, true, false, false, false, false, false, false, false, false, false] rfl rfl (by kernel_rfl) (fun _ _ _ h => h) (Or.inl ⟨by rfl, ?_⟩) ?_ ?_
                rotate_left
                · intro w'
                  go_simp
                  with_reducible rfl
                rotate_left
                · simp only [Act.put, List.setIfInBounds_toArray, List.set_cons_zero, List.set_cons_succ, i64_w, i32_w]
                  rfl
                refine pure_ (i := 27) (N := some 144) (v := ?_) (a' := ?_) #[true, true, true, true, true, true, true, true, true, true, true, true, true, true, true, true, true, true, true, true, true, true, true, true, true, true, true, true, false, false, false, false, false, false, false, false] rfl rfl (by kernel_rfl) (fun _ _ _ h => h) (Or.inl ⟨by rfl, ?_⟩) ?_ ?_
                rotate_left
                · intro w'
                  go_simp
                  with_reducible rfl
                rotate_left
                · simp only [Act.put, List.setIfInBounds_toArray, List.set_cons_zero, List.set_cons_succ, i64_w, i32_w]
                  rfl
                refine pure_ (i := 28) (N := some 145) (v := ?_) (a' := ?_) #[true, true, true, true, true, true, true, true, true, true, true, true, true, true, true, true, true, true, true, true, true, true, true, true, true, true, true, true, true, false, false, false, false, false, false, false] rfl rfl (by kernel_rfl) (fun _ _ _ h => h) (Or.inl ⟨by rfl, ?_⟩) ?_ ?_
                rotate_left
                · intro w'
                  go_simp
                  with_reducible rfl
                rotate_left
                · simp only [Act.put, List.setIfInBounds_toArray, List.set_cons_zero, List.set_cons_succ, i64_w, i32_w]
                  rfl
                refine pure_ (i := 29) (N := some 146) (v := ?_) (a' := ?_) #[true, true, true, true, true, true, true, true, true, true, true, true, true, true, true, true, true, true, true, true, true, true, true, true, true, true, true, true, true, true, false, false, false, false, false, false] rfl rfl (by kernel_rfl) (fun _ _ _ h => h) (Or.inl ⟨by rfl, ?_⟩) ?_ ?_
                rotate_left
                · intro w'
                  go_simp
                  with_reducible rfl
                rotate_left
                · simp only [Act.put, List.setIfInBounds_toArray, List.set_cons_zero, List.set_cons_succ, i64_w, i32_w]
                  rfl
                refine pure_ (i := 30) (N := some 147) (v := ?_) (a' := ?_) #[true, true, true, true, true, true, true, true, true, true, true, true, true, true, true, true, true, true, true, true, true, true, true, true, true, true, true, true, true, true, true, false, false, false, false, false] rfl rfl (by kernel_rfl) (fun _ _ _ h => h) (Or.inl ⟨by rfl, ?_⟩) ?_ ?_
                rotate_left
                · intro w'
                  go_simp
                  with_reducible rfl
                rotate_left
                · simp only [Act.put, List.setIfInBounds_toArray, List.set_cons_zero, List.set_cons_succ, i64_w, i32_w]
                  rfl
                refine pure_ (i := 31) (N := some 148) (v := ?_) (a' := ?_) #[true, true, true, true, true, true, true, true, true, true, true, true, true, true, true, true, true, true, true, true, true, true, true, true, true, true, true, true, true, true, true, true, false, false, false, false] rfl rfl (by kernel_rfl) (fun _ _ _ h => h) (Or.inl ⟨by rfl, ?_⟩) ?_ ?_
                rotate_left
                · intro w'
                  go_simp
                  with_reducible rfl
                rotate_left
                · simp only [Act.put, List.setIfInBounds_toArray, List.set_cons_zero, List.set_cons_succ, i64_w, i32_w]
                  rfl
                refine pure_ (i := 32) (N := some 149) (v := ?_) (a' := ?_) #[true, true, true, true, true, true, true, true, true, true, true, true, true, true, true, true, true, true, true, true, true, true, true, true, true, true, true, true, true, true, true, true, true, false, false, false] rfl rfl (by kernel_rfl) (fun _ _ _ h => h) (Or.inl ⟨by rfl, ?_⟩) ?_ ?_
                rotate_left
                · intro w'
                  go_simp
                  with_reducible rfl
                rotate_left
                · simp only [Act.put, List.setIfInBounds_toArray, List.set_cons_zero, List.set_cons_succ, i64_w, i32_w]
                  rfl
                refine pure_ (i := 33) (N := some 150) (v := ?_) (a' := ?_) #[true, true, true, true, true, true, true, true, true, true, true, true, true, true, true, true, true, true, true, true, true, true, true, true, true, true, true, true, true, true, true, true, true, true, false, false] rfl rfl (by kernel_rfl) (fun _ _ _ h => h) (Or.inl ⟨by rfl, ?_⟩) ?_ ?_
                rotate_left
                · intro w'
                  go_simp
                  with_reducible rfl
                rotate_left
                · simp only [Act.put, List.setIfInBounds_toArray, List.set_cons_zero, List.set_cons_succ, i64_w, i32_w]
                  rfl
                refine pure_ (i := 34) (N := some 151) (v := ?_) (a' := ?_) #[true, true, true, true, true, true, true, true, true, true, true, true, true, true, true, true, true, true, true, true, true, true, true, true, true, true, true, true, true, true, true, true, true, true, true, false] rfl rfl (by kernel_rfl) (fun _ _ _ h => h) (Or.inl ⟨by rfl, ?_⟩) ?_ ?_
                rotate_left
                · intro w'
                  go_simp
                  with_reducible rfl
                rotate_left
                · simp only [Act.put, List.setIfInBounds_toArray, List.set_cons_zero, List.set_cons_succ, i64_w, i32_w]
                  rfl
                refine pure_ (i := 35) (N := some 152) (v := ?_) (a' := ?_) #[true, true, true, true, true, true, true, true, true, true, true, true, true, true, true, true, true, true, true, true, true, true, true, true, true, true, true, true, true, true, true, true, true, true, true, true] rfl rfl (by kernel_rfl) (fun _ _ _ h => h) (Or.inl ⟨by rfl, ?_⟩) ?_ ?_
                rotate_left
                · intro w'
                  go_simp
                  with_reducible rfl
                rotate_left
                · simp only [Act.put, List.setIfInBounds_toArray, List.set_cons_zero, List.set_cons_succ, i64_w, i32_w]
                  rfl
                refine done_ (by kernel_rfl) ?_
                go_wp2_with fail
                go_roundw
                case rel => exact ⟨k + 1, now, m, _, _, by omega, by go_num, hm0, by omega, HL.out, HS93.out.drop⟩
                case measure => simp [intOf]; omega
              · have t2 : decide (at_ < (fst.length : Int)) = false := by simpa using hi1
                have HG := Go.Lib.hid (get_out HS.out 2 rfl at_ (.inr (by rw [HL.out]; omega)))
                clear hR hi0 hi1
                have q0 := HS.out.cell 0 _ _ _ rfl 1
                go_wp2_with (first | (go_at_call 35; refine (HG.out).mono ?_; rintro e w' ⟨rfl, rfl⟩))
                clear q0
                replace HS := Go.Lib.hid HS.out.drew
                refine start_ (n := 36) (S := fun w' => w'.cell? ⟨g8, 1, none⟩ = some (.slice A2 now.length c2) ∧ w'.cell? ⟨g8, 2, none⟩ = some (.int .i64 m)) (ds := []) #[false, false, false, false, false, false, false, false, false, false, false, false, false, false, false, false, false, false, false, false, false, false, false, false, false, false, false, false, false, false, false, false, false, false, false, false] (by kernel_rfl) rfl rfl ⟨HS.out.cell 0 _ _ _ rfl 1, HS.out.cell 0 _ _ _ rfl 2⟩ (fun hHeld => ?_)
                generalize wr.drew = W_ at *
                refine pure_ (i := 0) (N := some 117) (v := ?_) (a' := ?_) #[true, false, false, false, false, false, false, false, false, false, false, false, false, false, false, false, false, false, false, false, false, false, false, false, false, false, false, false, false, false, false, false, false, false, false, false] rfl rfl (by kernel_rfl) (fun _ _ _ h => h) (Or.inl ⟨by rfl, ?_⟩) ?_ ?_
                rotate_left
                · intro w'
                  go_simp
                  with_reducible rfl
                rotate_left
                · simp only [Act.put, List.setIfInBounds_toArray, List.set_cons_zero, List.set_cons_succ, i64_w, i32_w]
                  rfl
                refine pure_ (i := 2) (N := some 119) (v := ?_) (a' := ?_) #[true, false, true, false, false, false, false, false, false, false, false, false, false, false, false, false, false, false, false, false, false, false, false, false, false, false, false, false, false, false, false, false, false, false, false, false] rfl rfl (by kernel_rfl) (fun _ _ _ h => h) (Or.inl ⟨by rfl, ?_⟩) ?_ ?_
                rotate_left
                · intro w'
                  go_simp
                  with_reducible rfl
                rotate_left
                · simp only [Act.put, List.setIfInBounds_toArray, List.set_cons_zero, List.set_cons_succ, i64_w, i32_w]
                  rfl
                refine take_ (i := 3) (N := some 120) (v := ?_) (a' := ?_) #[true, false, true, true, false, false, false, false, false, false, false, false, false, false, false, false, false, false, false, false, false, false, false, false, false, false, false, false, false, false, false, false, false, false, false, false] rfl rfl (by kernel_rfl) (fun _ _ _ h => h) (Or.inl ⟨by rfl, ?_⟩) hHeld ?_ ?_
                rotate_left
                · rintro w' ⟨s0, s1⟩
                  go_simp
                  with_reducible rfl
                rotate_left
                · simp only [Act.put, List.setIfInBounds_toArray, List.set_cons_zero, List.set_cons_succ, i64_w, i32_w]
                  rfl
                refine one_ (i := 1) (N := some 118) #[true, true, true, true, false, false, false, false, false, false, false, false, false, false, false, false, false, false, false, false, false, false, false, false, false, false, false, false, false, false, false, false, false, false, false, false] rfl rfl (by kernel_rfl) (by decide) (fun K hK => ?_)
                refine goes_ Try.func26 (by kernel_rfl) rfl #[.pointer (some ⟨g7, 0, none⟩)] (by rfl) rfl rfl (by (try simp only [List.map_toArray, List.map_cons, List.map_nil]); first | done | rfl) ?_
                refine (all_row HS.out 2 rfl (by omega)).mono ?_
                rintro e w91 ⟨A9, c9, rfl, hS91⟩
                have HS91 := Go.Lib.hid hS91
                clear hS91
                refine ⟨_, rfl, ?_⟩
                refine hK.out _ _ ⟨HS91.out.cell 1 _ _ _ rfl 1, HS91.out.cell 1 _ _ _ rfl 2⟩ (fun hHeld => ?_)
                clear hK K
                refine norm_ (a' := ?_) ?_ ?_
                rotate_left
                · show Act.put _ (some 118) _ = _
                  simp only [Act.put, List.setIfInBounds_toArray, List.set_cons_zero, List.set_cons_succ, i64_w, i32_w]
                  rfl
                refine one_ (i := 4) (N := some 121) #[true, true, true, true, true, false, false, false, false, false, false, false, false, false, false, false, false, false, false, false, false, false, false, false, false, false, false, false, false, false, false, false, false, false, false, false] rfl rfl (by kernel_rfl) (by decide) (fun K hK => ?_)
                refine goes_ Try.func36 (by kernel_rfl) rfl #[.slice A9 now.length c9, .slice A2 now.length c2] (by rfl) rfl rfl (by (try simp only [List.map_toArray, List.map_cons, List.map_nil]); first | done | rfl) ?_
                refine (rsame_eq HS91.out 0 2 rfl rfl (by omega)).mono ?_
                rintro e w92 ⟨rfl, hS92⟩
                have HS92 := Go.Lib.hid hS92
                clear hS92
                refine ⟨_, rfl, ?_⟩
                refine hK.out _ _ ⟨HS92.out.cell 1 _ _ _ rfl 1, HS92.out.cell 1 _ _ _ rfl 2⟩ (fun hHeld => ?_)
                clear hK K
                refine norm_ (a' := ?_) ?_ ?_
                rotate_left
                · show Act.put _ (some 121) _ = _
                  simp only [Act.put, List.setIfInBounds_toArray, List.set_cons_zero, List.set_cons_succ, i64_w, i32_w]
                  rfl
                refine pure_ (i := 5) (N := some 122) (v := ?_) (a' := ?_) #[true, true, true, true, true, true, false, false, false, false, false, false, false, false, false, false, false, false, false, false, false, false, false, false, false, false, false, false, false, false, false, false, false, false, false, false] rfl rfl (by kernel_rfl) (fun _ _ _ h => h) (Or.inl ⟨by rfl, ?_⟩) ?_ ?_
                rotate_left
                · intro w'
                  go_simp
                  with_reducible rfl
                rotate_left
                · simp only [Act.put, List.setIfInBounds_toArray, List.set_cons_zero, List.set_cons_succ, i64_w, i32_w]
                  rfl
                refine pure_ (i := 6) (N := some 123) (v := ?_) (a' := ?_) #[true, true, true, true, true, true, true, false, false, false, false, false, false, false, false, false, false, false, false, false, false, false, false, false, false, false, false, false, false, false, false, false, false, false, false, false] rfl rfl (by kernel_rfl) (fun _ _ _ h => h) (Or.inl ⟨by rfl, ?_⟩) ?_ ?_
                rotate_left
                · intro w'
                  go_simp
                  with_reducible rfl
                rotate_left
                · simp only [Act.put, List.setIfInBounds_toArray, List.set_cons_zero, List.set_cons_succ, i64_w, i32_w]
                  rfl
                refine pure_ (i := 7) (N := some 124) (v := ?_) (a' := ?_) #[true, true, true, true, true, true, true, true, false, false, false, false, false, false, false, false, false, false, false, false, false, false, false, false, false, false, false, false, false, false, false, false, false, false, false, false] rfl rfl (by kernel_rfl) (fun _ _ _ h => h) (Or.inl ⟨by rfl, ?_⟩) ?_ ?_
                rotate_left
                · intro w'
                  go_simp
                  with_reducible rfl
                rotate_left
                · simp only [Act.put, List.setIfInBounds_toArray, List.set_cons_zero, List.set_cons_succ, i64_w, i32_w]
                  rfl
                refine pure_ (i := 9) (N := some 126) (v := ?_) (a' := ?_) #[true, true, true, true, true, true, true, true, false, true, false, false, false, false, false, false, false, false, false, false, false, false, false, false, false, false, false, false, false, false, false, false, false, false, false, false] rfl rfl (by kernel_rfl) (fun _ _ _ h => h) (Or.inl ⟨by rfl, ?_⟩) ?_ ?_
                rotate_left
                · intro w'
                  go_simp
                  with_reducible rfl
                rotate_left
                · simp only [Act.put, List.setIfInBounds_toArray, List.set_cons_zero, List.set_cons_succ, i64_w, i32_w]
                  rfl
                refine pure_ (i := 10) (N := some 127) (v := ?_) (a' := ?_) #[true, true, true, true, true, true, true, true, false, true, true, false, false, false, false, false, false, false, false, false, false, false, false, false, false, false, false, false, false, false, false, false, false, false, false, false] rfl rfl (by kernel_rfl) (fun _ _ _ h => h) (Or.inl ⟨by rfl, ?_⟩) ?_ ?_
                rotate_left
                · intro w'
                  go_simp
                  with_reducible rfl
                rotate_left
                · simp only [Act.put, List.setIfInBounds_toArray, List.set_cons_zero, List.set_cons_succ, i64_w, i32_w]
                  rfl
                refine one_ (i := 8) (N := some 125) #[true, true, true, true, true, true, true, true, true, true, true, false, false, false, false, false, false, false, false, false, false, false, false, false, false, false, false, false, false, false, false, false, false, false, false, false] rfl rfl (by kernel_rfl) (by decide) (fun K hK => ?_)
                refine goes_ Try.func31 (by kernel_rfl) rfl #[.pointer (some ⟨g7, 0, none⟩)] (by rfl) rfl rfl (by (try simp only [List.map_toArray, List.map_cons, List.map_nil]); first | done | rfl) ?_
                refine (len_eq_st HS92.out 3 rfl).mono ?_
                rintro e w' ⟨rfl, rfl⟩
                refine ⟨_, rfl, ?_⟩
                refine hK.out _ _ ⟨HS92.out.cell 1 _ _ _ rfl 1, HS92.out.cell 1 _ _ _ rfl 2⟩ (fun hHeld => ?_)
                clear hK K
                refine norm_ (a' := ?_) ?_ ?_
                rotate_left
                · show Act.put _ (some 125) _ = _
                  simp only [Act.put, List.setIfInBounds_toArray, List.set_cons_zero, List.set_cons_succ, i64_w, i32_w]
                  rfl
                refine pure_ (i := 11) (N := some 128) (v := ?_) (a' := ?_) #[true, true, true, true, true, true, true, true, true, true, true, true, false, false, false, false, false, false, false, false, false, false, false, false, false, false, false, false, false, false, false, false, false, false, false, false] rfl rfl (by kernel_rfl) (fun _ _ _ h => h) (Or.inl ⟨by rfl, ?_⟩) ?_ ?_
                rotate_left
                · intro w'
                  go_simp
                  with_reducible rfl
                rotate_left
                · simp only [Act.put, List.setIfInBounds_toArray, List.set_cons_zero, List.set_cons_succ, i64_w, i32_w]
                  rfl
                refine pure_ (i := 12) (N := some 129) (v := ?_) (a' := ?_) #[true, true, true, true, true, true, true, true, true, true, true, true, true, false, false, false, false, false, false, false, false, false, false, false, false, false, false, false, false, false, false, false, false, false, false, false] rfl rfl (by kernel_rfl) (fun _ _ _ h => h) (Or.inl ⟨by rfl, ?_⟩) ?_ ?_
                rotate_left
                · intro w'
                  go_simp
                  with_reducible rfl
                rotate_left
                · simp only [Act.put, List.setIfInBounds_toArray, List.set_cons_zero, List.set_cons_succ, i64_w, i32_w]
                  rfl
                refine pure_ (i := 13) (N := some 130) (v := ?_) (a' := ?_) #[true, true, true, true, true, true, true, true, true, true, true, true, true, true, false, false, false, false, false, false, false, false, false, false, false, false, false, false, false, false, false, false, false, false, false, false] rfl rfl (by kernel_rfl) (fun _ _ _ h => h) (Or.inl ⟨by rfl, ?_⟩) ?_ ?_
                rotate_left
                · intro w'
                  go_simp
                  with_reducible rfl
                rotate_left
                · simp only [Act.put, List.setIfInBounds_toArray, List.set_cons_zero, List.set_cons_succ, i64_w, i32_w]
                  rfl
                refine pure_ (i := 14) (N := some 131) (v := ?_) (a' := ?_) #[true, true, true, true, true, true, true, true, true, true, true, true, true, true, true, false, false, false, false, false, false, false, false, false, false, false, false, false, false, false, false, false, false, false, false, false] rfl rfl (by kernel_rfl) (fun _ _ _ h => h) (Or.inl ⟨by rfl, ?_⟩) ?_ ?_
                rotate_left
                · intro w'
                  go_simp
                  with_reducible rfl
                rotate_left
                · simp only [Act.put, List.setIfInBounds_toArray, List.set_cons_zero, List.set_cons_succ, i64_w, i32_w]
                  rfl
                refine pure_ (i := 16) (N := some 133) (v := ?_) (a' := ?_) #[true, true, true, true, true, true, true, true, true, true, true, true, true, true, true, false, true, false, false, false, false, false, false, false, false, false, false, false, false, false, false, false, false, false, false, false] rfl rfl (by kernel_rfl) (fun _ _ _ h => h) (Or.inl ⟨by rfl, ?_⟩) ?_ ?_
                rotate_left
                · intro w'
                  go_simp
                  with_reducible rfl
                rotate_left
                · simp only [Act.put, List.setIfInBounds_toArray, List.set_cons_zero, List.set_cons_succ, i64_w, i32_w]
                  rfl
                refine take_ (i := 17) (N := some 134) (v := ?_) (a' := ?_) #[true, true, true, true, true, true, true, true, true, true, true, true, true, true, true, false, true, true, false, false, false, false, false, false, false, false, false, false, false, false, false, false, false, false, false, false] rfl rfl (by kernel_rfl) (fun _ _ _ h => h) (Or.inl ⟨by rfl, ?_⟩) hHeld ?_ ?_
                rotate_left
                · rintro w' ⟨s0, s1⟩
                  go_simp
                  with_reducible rfl
                rotate_left
                · simp only [Act.put, List.setIfInBounds_toArray, List.set_cons_zero, List.set_cons_succ, i64_w, i32_w]
                  rfl
                refine one_ (i := 15) (N := some 132) #[true, true, true, true, true, true, true, true, true, true, true, true, true, true, true, true, true, true, false, false, false, false, false, false, false, false, false, false, false, false, false, false, false, false, false, false] rfl rfl (by kernel_rfl) (by decide) (fun K hK => ?_)
                refine goes_ Try.func29 (by kernel_rfl) rfl #[.pointer (some ⟨g7, 0, none⟩)] (by rfl) rfl rfl (by (try simp only [List.map_toArray, List.map_cons, List.map_nil]); first | done | rfl) ?_
                refine (writes_st HS92.out 3 rfl).mono ?_
                rintro e w' ⟨rfl, rfl⟩
                refine ⟨_, rfl, ?_⟩
                refine hK.out _ _ ⟨HS92.out.cell 1 _ _ _ rfl 1, HS92.out.cell 1 _ _ _ rfl 2⟩ (fun hHeld => ?_)
                clear hK K
                refine norm_ (a' := ?_) ?_ ?_
                rotate_left
                · show Act.put _ (some 132) _ = _
                  simp only [Act.put, List.setIfInBounds_toArray, List.set_cons_zero, List.set_cons_succ, i64_w, i32_w]
                  rfl
                refine pure_ (i := 18) (N := some 135) (v := ?_) (a' := ?_) #[true, true, true, true, true, true, true, true, true, true, true, true, true, true, true, true, true, true, true, false, false, false, false, false, false, false, false, false, false, false, false, false, false, false, false, false] rfl rfl (by kernel_rfl) (fun _ _ _ h => h) (Or.inl ⟨by rfl, ?_⟩) ?_ ?_
                rotate_left
                · intro w'
                  go_simp
                  with_reducible rfl
                rotate_left
                · simp only [Act.put, List.setIfInBounds_toArray, List.set_cons_zero, List.set_cons_succ, i64_w, i32_w]
                  rfl
                refine pure_ (i := 19) (N := some 136) (v := ?_) (a' := ?_) #[true, true, true, true, true, true, true, true, true, true, true, true, true, true, true, true, true, true, true, true, false, false, false, false, false, false, false, false, false, false, false, false, false, false, false, false] rfl rfl (by kernel_rfl) (fun _ _ _ h => h) (Or.inl ⟨by rfl, ?_⟩) ?_ ?_
                rotate_left
                · intro w'
                  go_simp
                  with_reducible rfl
                rotate_left
                · simp only [Act.put, List.setIfInBounds_toArray, List.set_cons_zero, List.set_cons_succ, i64_w, i32_w]
                  rfl
                refine pure_ (i := 20) (N := some 137) (v := ?_) (a' := ?_) #[true, true, true, true, true, true, true, true, true, true, true, true, true, true, true, true, true, true, true, true, true, false, false, false, false, false, false, false, false, false, false, false, false, false, false, false] rfl rfl (by kernel_rfl) (fun _ _ _ h => h) (Or.inl ⟨by rfl, ?_⟩) ?_ ?_
                rotate_left
                · intro w'
                  go_simp
                  with_reducible rfl
                rotate_left
                · simp only [Act.put, List.setIfInBounds_toArray, List.set_cons_zero, List.set_cons_succ, i64_w, i32_w]
                  rfl
                refine pure_ (i := 21) (N := some 138) (v := ?_) (a' := ?_) #[true, true, true, true, true, true, true, true, true, true, true, true, true, true, true, true, true, true, true, true, true, true, false, false, false, false, false, false, false, false, false, false, false, false, false, false] rfl rfl (by kernel_rfl) (fun _ _ _ h => h) (Or.inl ⟨by rfl, ?_⟩) ?_ ?_
                rotate_left
                · intro w'
                  go_simp
                  with_reducible rfl
                rotate_left
                · simp only [Act.put, List.setIfInBounds_toArray, List.set_cons_zero, List.set_cons_succ, i64_w, i32_w]
                  rfl
                refine pure_ (i := 23) (N := some 140) (v := ?_) (a' := ?_) #[true, true, true, true, true, true, true, true, true, true, true, true, true, true, true, true, true, true, true, true, true, true, false, true, false, false, false, false, false, false, false, false, false, false, false, false] rfl rfl (by kernel_rfl) (fun _ _ _ h => h) (Or.inl ⟨by rfl, ?_⟩) ?_ ?_
                rotate_left
                · intro w'
                  go_simp
                  with_reducible rfl
                rotate_left
                · simp only [Act.put, List.setIfInBounds_toArray, List.set_cons_zero, List.set_cons_succ, i64_w, i32_w]
                  rfl
                refine one_ (i := 22) (N := some 139) #[true, true, true, true, true, true, true, true, true, true, true, true, true, true, true, true, true, true, true, true, true, true, true, true, false, false, false, false, false, false, false, false, false, false, false, false] rfl rfl (by kernel_rfl) (by decide) (fun K hK => ?_)
                refine goes_ Try.func24 (by kernel_rfl) rfl #[.pointer (some ⟨g7, 0, none⟩)] (by rfl) rfl rfl (by (try simp only [List.map_toArray, List.map_cons, List.map_nil]); first | done | rfl) ?_
                refine (fresh_to HS92.out 3 rfl).mono ?_
                rintro e w93 ⟨rfl, hS93⟩
                have HS93 := Go.Lib.hid hS93
                clear hS93
                refine ⟨_, rfl, ?_⟩
                refine hK.out _ _ ⟨HS93.out.cell 1 _ _ _ rfl 1, HS93.out.cell 1 _ _ _ rfl 2⟩ (fun hHeld => ?_)
                clear hK K
                refine norm_ (a' := ?_) ?_ ?_
                rotate_left
                · show Act.put _ (some 139) _ = _
                  simp only [Act.put, List.setIfInBounds_toArray, List.set_cons_zero, List.set_cons_succ, i64_w, i32_w]
                  rfl
                refine pure_ (i := 24) (N := some 141) (v := ?_) (a' := ?_) #[true, true, true, true, true, true, true, true, true, true, true, true, true, true, true, true, true, true, true, true, true, true, true, true, true, false, false, false, false, false, false, false, false, false, false, false] rfl rfl (by kernel_rfl) (fun _ _ _ h => h) (Or.inl ⟨by rfl, ?_⟩) ?_ ?_
                rotate_left
                · intro w'
                  go_simp
                  with_reducible rfl
                rotate_left
                · simp only [Act.put, List.setIfInBounds_toArray, List.set_cons_zero, List.set_cons_succ, i64_w, i32_w]
                  rfl
                refine pure_ (i := 25) (N := some 142) (v := ?_) (a' := ?_) #[true, true, true, true, true, true, true, true, true, true, true, true, true, true, true, true, true, true, true, true, true, true, true, true, true, true, false, false, false, false, false, false, false, false, false, false] rfl rfl (by kernel_rfl) (fun _ _ _ h => h) (Or.inl ⟨by rfl, ?_⟩) ?_ ?_
                rotate_left
                · intro w'
                  go_simp
                  with_reducible rfl
                rotate_left
                · simp only [Act.put, List.setIfInBounds_toArray, List.set_cons_zero, List.set_cons_succ, i64_w, i32_w]
                  rfl
                refine pure_ (i := 26) (N := some 143) (v := ?_) (a' := ?_) #[true, true, true, true, true, true, true, true, true, true, true, true, true, true, true, true, true, true, true, true, true, true, true, true, true, true, true, false, false, false, false, false, false, false, false, false] rfl rfl (by kernel_rfl) (fun _ _ _ h => h) (Or.inl ⟨by rfl, ?_⟩) ?_ ?_
                rotate_left
                · intro w'
                  go_simp
                  with_reducible rfl
                rotate_left
                · simp only [Act.put, List.setIfInBounds_toArray, List.set_cons_zero, List.set_cons_succ, i64_w, i32_w]
                  rfl
                refine pure_ (i := 27) (N := some 144) (v := ?_) (a' := ?_) #[true, true, true, true, true, true, true, true, true, true, true, true, true, true, true, true, true, true, true, true, true, true, true, true, true, true, true, true, false, false, false, false, false, false, false, false] rfl rfl (by kernel_rfl) (fun _ _ _ h => h) (Or.inl ⟨by rfl, ?_⟩) ?_ ?_
                rotate_left
                · intro w'
                  go_simp
                  with_reducible rfl
                rotate_left
                · simp only [Act.put, List.setIfInBounds_toArray, List.set_cons_zero, List.set_cons_succ, i64_w, i32_w]
                  rfl
                refine pure_ (i := 28) (N := some 145) (v := ?_) (a' := ?_) #[true, true, true, true, true, true, true, true, true, true, true, true, true, true, true, true, true, true, true, true, true, true, true, true, true, true, true, true, true, false, false, false, false, false, false, false] rfl rfl (by kernel_rfl) (fun _ _ _ h => h) (Or.inl ⟨by rfl, ?_⟩) ?_ ?_
                rotate_left
                · intro w'
                  go_simp
                  with_reducible rfl
                rotate_left
                · simp only [Act.put, List.setIfInBounds_toArray, List.set_cons_zero, List.set_cons_succ, i64_w, i32_w]
                  rfl
                refine pure_ (i := 29) (N := some 146) (v := ?_) (a' := ?_) #[true, true, true, true, true, true, true, true, true, true, true, true, true, true, true, true, true, true, true, true, true, true, true, true, true, true, true, true, true, true, false, false, false, false, false, false] rfl rfl (by kernel_rfl) (fun _ _ _ h => h) (Or.inl ⟨by rfl, ?_⟩) ?_ ?_
                rotate_left
                · intro w'
                  go_simp
                  with_reducible rfl
                rotate_left
                · simp only [Act.put, List.setIfInBounds_toArray, List.set_cons_zero, List.set_cons_succ, i64_w, i32_w]
                  rfl
                refine pure_ (i := 30) (N := some 147) (v := ?_) (a' := ?_) #[true, true, true, true, true, true, true, true, true, true, true, true, true, true, true, true, true, true, true, true, true, true, true, true, true, true, true, true, true, true, true, false, false, false, false, false] rfl rfl (by kernel_rfl) (fun _ _ _ h => h) (Or.inl ⟨by rfl, ?_⟩) ?_ ?_
                rotate_left
                · intro w'
                  go_simp
                  with_reducible rfl
                rotate_left
                · simp only [Act.put, List.setIfInBounds_toArray, List.set_cons_zero, List.set_cons_succ, i64_w, i32_w]
                  rfl
                refine pure_ (i := 31) (N := some 148) (v := ?_) (a' := ?_) #[true, true, true, true, true, true, true, true, true, true, true, true, true, true, true, true, true, true, true, true, true, true, true, true, true, true, true, true, true, true, true, true, false, false, false, false] rfl rfl (by kernel_rfl) (fun _ _ _ h => h) (Or.inl ⟨by rfl, ?_⟩) ?_ ?_
                rotate_left
                · intro w'
                  go_simp
                  with_reducible rfl
                rotate_left
                · simp only [Act.put, List.setIfInBounds_toArray, List.set_cons_zero, List.set_cons_succ, i64_w, i32_w]
                  rfl
                refine pure_ (i := 32) (N := some 149) (v := ?_) (a' := ?_) #[true, true, true, true, true, true, true, true, true, true, true, true, true, true, true, true, true, true, true, true, true, true, true, true, true, true, true, true, true, true, true, true, true, false, false, false] rfl rfl (by kernel_rfl) (fun _ _ _ h => h) (Or.inl ⟨by rfl, ?_⟩) ?_ ?_
                rotate_left
                · intro w'
                  go_simp
                  with_reducible rfl
                rotate_left
                · simp only [Act.put, List.setIfInBounds_toArray, List.set_cons_zero, List.set_cons_succ, i64_w, i32_w]
                  rfl
                refine pure_ (i := 33) (N := some 150) (v := ?_) (a' := ?_) #[true, true, true, true, true, true, true, true, true, true, true, true, true, true, true, true, true, true, true, true, true, true, true, true, true, true, true, true, true, true, true, true, true, true, false, false] rfl rfl (by kernel_rfl) (fun _ _ _ h => h) (Or.inl ⟨by rfl, ?_⟩) ?_ ?_
                rotate_left
                · intro w'
                  go_simp
                  with_reducible rfl
                rotate_left
                · simp only [Act.put, List.setIfInBounds_toArray, List.set_cons_zero, List.set_cons_succ, i64_w, i32_w]
                  rfl
                refine pure_ (i := 34) (N := some 151) (v := ?_) (a' := ?_) #[true, true, true, true, true, true, true, true, true, true, true, true, true, true, true, true, true, true, true, true, true, true, true, true, true, true, true, true, true, true, true, true, true, true, true, false] rfl rfl (by kernel_rfl) (fun _ _ _ h => h) (Or.inl ⟨by rfl, ?_⟩) ?_ ?_
                rotate_left
                · intro w'
                  go_simp
                  with_reducible rfl
                rotate_left
                · simp only [Act.put, List.setIfInBounds_toArray, List.set_cons_zero, List.set_cons_succ, i64_w, i32_w]
                  rfl
                refine pure_ (i := 35) (N := some 152) (v := ?_) (a' := ?_) #[true, true, true, true, true, true, true, true, true, true, true, true, true, true, true, true, true, true, true, true, true, true, true, true, true, true, true, true, true, true, true, true, true, true, true, true] rfl rfl (by kernel_rfl) (fun _ _ _ h => h) (Or.inl ⟨by rfl, ?_⟩) ?_ ?_
                rotate_left
                · intro w'
                  go_simp
                  with_reducible rfl
                rotate_left
                · simp only [Act.put, List.setIfInBounds_toArray, List.set_cons_zero, List.set_cons_succ, i64_w, i32_w]
                  rfl
                refine done_ (by kernel_rfl) ?_
                go_wp2_with fail
                go_roundw
                case rel => exact ⟨k + 1, now, m, _, _, by omega, by go_num, hm0, by omega, HL.out, HS93.out.drop⟩
                case measure => simp [intOf]; omega
            · have t1 : decide (0 ≤ at_) = false := by simpa using hi0
              have HG := Go.Lib.hid (get_out HS.out 2 rfl at_ (.inl (by omega)))
              clear hR hi0
              have q0 := HS.out.cell 0 _ _ _ rfl 1
              go_wp2_with (first | (go_at_call 35; refine (HG.out).mono ?_; rintro e w' ⟨rfl, rfl⟩))
              clear q0
              replace HS := Go.Lib.hid HS.out.drew
              refine start_ (n := 36) (S := fun w' => w'.cell? ⟨g8, 1, none⟩ = some (.slice A2 now.length c2) ∧ w'.cell? ⟨g8, 2, none⟩ = some (.int .i64 m)) (ds := []) #[false, false, false, false, false, false, false, false, false, false, false, false, false, false, false, false, false, false, false, false, false, false, false, false, false, false, false, false, false, false, false, false, false, false, false, false] (by kernel_rfl) rfl rfl ⟨HS.out.cell 0 _ _ _ rfl 1, HS.out.cell 0 _ _ _ rfl 2⟩ (fun hHeld => ?_)
              generalize wr.drew = W_ at *
              refine pure_ (i := 0) (N := some 117) (v := ?_) (a' := ?_) #[true, false, false, false, false, false, false, false, false, false, false, false, false, false, false, false, false, false, false, false, false, false, false, false, false, false, false, false, false, false, false, false, false, false, false, false] rfl rfl (by kernel_rfl) (fun _ _ _ h => h) (Or.inl ⟨by rfl, ?_⟩) ?_ ?_
              rotate_left
              · intro w'
                go_simp
                with_reducible rfl
              rotate_left
              · simp only [Act.put, List.setIfInBounds_toArray, List.set_cons_zero, List.set_cons_succ, i64_w, i32_w]
                rfl
              refine pure_ (i := 2) (N := some 119) (v := ?_) (a' := ?_) #[true, false, true, false, false, false, false, false, false, false, false, false, false, false, false, false, false, false, false, false, false, false, false, false, false, false, false, false, false, false, false, false, false, false, false, false] rfl rfl (by kernel_rfl) (fun _ _ _ h => h) (Or.inl ⟨by rfl, ?_⟩) ?_ ?_
              rotate_left
              · intro w'
                go_simp
                with_reducible rfl
              rotate_left
              · simp only [Act.put, List.setIfInBounds_toArray, List.set_cons_zero, List.set_cons_succ, i64_w, i32_w]
                rfl
              refine take_ (i := 3) (N := some 120) (v := ?_) (a' := ?_) #[true, false, true, true, false, false, false, false, false, false, false, false, false, false, false, false, false, false, false, false, false, false, false, false, false, false, false, false, false, false, false, false, false, false, false, false] rfl rfl (by kernel_rfl) (fun _ _ _ h => h) (Or.inl ⟨by rfl, ?_⟩) hHeld ?_ ?_
              rotate_left
              · rintro w' ⟨s0, s1⟩
                go_simp
                with_reducible rfl
              rotate_left
              · simp only [Act.put, List.setIfInBounds_toArray, List.set_cons_zero, List.set_cons_succ, i64_w, i32_w]
                rfl
              refine one_ (i := 1) (N := some 118) #[true, true, true, true, false, false, false, false, false, false, false, false, false, false, false, false, false, false, false, false, false, false, false, false, false, false, false, false, false, false, false, false, false, false, false, false] rfl rfl (by kernel_rfl) (by decide) (fun K hK => ?_)
              refine goes_ Try.func26 (by kernel_rfl) rfl #[.pointer (some ⟨g7, 0, none⟩)] (by rfl) rfl rfl (by (try simp only [List.map_toArray, List.map_cons, List.map_nil]); first | done | rfl) ?_
              refine (all_row HS.out 2 rfl (by omega)).mono ?_
              rintro e w91 ⟨A9, c9, rfl, hS91⟩
              have HS91 := Go.Lib.hid hS91
              clear hS91
              refine ⟨_, rfl, ?_⟩
              refine hK.out _ _ ⟨HS91.out.cell 1 _ _ _ rfl 1, HS91.out.cell 1 _ _ _ rfl 2⟩ (fun hHeld => ?_)
              clear hK K
              refine norm_ (a' := ?_) ?_ ?_
              rotate_left
              · show Act.put _ (some 118) _ = _
                simp only [Act.put, List.setIfInBounds_toArray, List.set_cons_zero, List.set_cons_succ, i64_w, i32_w]
                rfl
              refine one_ (i := 4) (N := some 121) #[true, true, true, true, true, false, false, false, false, false, false, false, false, false, false, false, false, false, false, false, false, false, false, false, false, false, false, false, false, false, false, false, false, false, false, false] rfl rfl (by kernel_rfl) (by decide) (fun K hK => ?_)
              refine goes_ Try.func36 (by kernel_rfl) rfl #[.slice A9 now.length c9, .slice A2 now.length c2] (by rfl) rfl rfl (by (try simp only [List.map_toArray, List.map_cons, List.map_nil]); first | done | rfl) ?_
              refine (rsame_eq HS91.out 0 2 rfl rfl (by omega)).mono ?_
              rintro e w92 ⟨rfl, hS92⟩
              have HS92 := Go.Lib.hid hS92
              clear hS92
              refine ⟨_, rfl, ?_⟩
              refine hK.out _ _ ⟨HS92.out.cell 1 _ _ _ rfl 1, HS92.out.cell 1 _ _ _ rfl 2⟩ (fun hHeld => ?_)
              clear hK K
              refine norm_ (a' := ?_) ?_ ?_
              rotate_left
              · show Act.put _ (some 121) _ = _
                simp only [Act.put, List.setIfInBounds_toArray, List.set_cons_zero, List.set_cons_succ, i64_w, i32_w]
                rfl
              refine pure_ (i := 5) (N := some 122) (v := ?_) (a' := ?_) #[true, true, true, true, true, true, false, false, false, false, false, false, false, false, false, false, false, false, false, false, false, false, false, false, false, false, false, false, false, false, false, false, false, false, false, false] rfl rfl (by kernel_rfl) (fun _ _ _ h => h) (Or.inl ⟨by rfl, ?_⟩) ?_ ?_
              rotate_left
              · intro w'
                go_simp
                with_reducible rfl
              rotate_left
              · simp only [Act.put, List.setIfInBounds_toArray, List.set_cons_zero, List.set_cons_succ, i64_w, i32_w]
                rfl
              refine pure_ (i := 6) (N := some 123) (v := ?_) (a' := ?_) #[true, true, true, true, true, true, true, false, false, false, false, false, false, false, false, false, false, false, false, false, false, false, false, false, false, false, false, false, false, false, false, false, false, false, false, false] rfl rfl (by kernel_rfl) (fun _ _ _ h => h) (Or.inl ⟨by rfl, ?_⟩) ?_ ?_
              rotate_left
              · intro w'
                go_simp
                with_reducible rfl
              rotate_left
              · simp only [Act.put, List.setIfInBounds_toArray, List.set_cons_zero, List.set_cons_succ, i64_w, i32_w]
                rfl
              refine pure_ (i := 7) (N := some 124) (v := ?_) (a' := ?_) #[true, true, true, true, true, true, true, true, false, false, false, false, false, false, false, false, false, false, false, false, false, false, false, false, false, false, false, false, false, false, false, false, false, false, false, false] rfl rfl (by kernel_rfl) (fun _ _ _ h => h) (Or.inl ⟨by rfl, ?_⟩) ?_ ?_
              rotate_left
              · intro w'
                go_simp
                with_reducible rfl
              rotate_left
              · simp only [Act.put, List.setIfInBounds_toArray, List.set_cons_zero, List.set_cons_succ, i64_w, i32_w]
                rfl
              refine pure_ (i := 9) (N := some 126) (v := ?_) (a' := ?_) #[true, true, true, true, true, true, true, true, false, true, false, false, false, false, false, false, false, false, false, false, false, false, false, false, false, false, false, false, false, false, false, false, false, false, false, false] rfl rfl (by kernel_rfl) (fun _ _ _ h => h) (Or.inl ⟨by rfl, ?_⟩) ?_ ?_
              rotate_left
              · intro w'
                go_simp
                with_reducible rfl
              rotate_left
              · simp only [Act.put, List.setIfInBounds_toArray, List.set_cons_zero, List.set_cons_succ, i64_w, i32_w]
                rfl
              refine pure_ (i := 10) (N := some 127) (v := ?_) (a' := ?_) #[true, true, true, true, true, true, true, true, false, true, true, false, false, false, false, false, false, false, false, false, false, false, false, false, false, false, false, false, false, false, false, false, false, false, false, false] rfl rfl (by kernel_rfl) (fun _ _ _ h => h) (Or.inl ⟨by rfl, ?_⟩) ?_ ?_
              rotate_left
              · intro w'
                go_simp
                with_reducible rfl
              rotate_left
              · simp only [Act.put, List.setIfInBounds_toArray, List.set_cons_zero, List.set_cons_succ, i64_w, i32_w]
                rfl
              refine one_ (i := 8) (N := some 125) #[true, true, true, true, true, true, true, true, true, true, true, false, false, false, false, false, false, false, false, false, false, false, false, false, false, false, false, false, false, false, false, false, false, false, false, false] rfl rfl (by kernel_rfl) (by decide) (fun K hK => ?_)
              refine goes_ Try.func31 (by kernel_rfl) rfl #[.pointer (some ⟨g7, 0, none⟩)] (by rfl) rfl rfl (by (try simp only [List.map_toArray, List.map_cons, List.map_nil]); first | done | rfl) ?_
              refine (len_eq_st HS92.out 3 rfl).mono ?_
              rintro e w' ⟨rfl, rfl⟩
              refine ⟨_, rfl, ?_⟩
              refine hK.out _ _ ⟨HS92.out.cell 1 _ _ _ rfl 1, HS92.out.cell 1 _ _ _ rfl 2⟩ (fun hHeld => ?_)
              clear hK K
              refine norm_ (a' := ?_) ?_ ?_
              rotate_left
              · show Act.put _ (some 125) _ = _
                simp only [Act.put, List.setIfInBounds_toArray, List.set_cons_zero, List.set_cons_succ, i64_w, i32_w]
                rfl
              refine pure_ (i := 11) (N := some 128) (v := ?_) (a' := ?_) #[true, true, true, true, true, true, true, true, true, true, true, true, false, false, false, false, false, false, false, false, false, false, false, false, false, false, false, false, false, false, false, false, false, false, false, false] rfl rfl (by kernel_rfl) (fun _ _ _ h => h) (Or.inl ⟨by rfl, ?_⟩) ?_ ?_
              rotate_left
              · intro w'
                go_simp
                with_reducible rfl
              rotate_left
              · simp only [Act.put, List.setIfInBounds_toArray, List.set_cons_zero, List.set_cons_succ, i64_w, i32_w]
                rfl
              refine pure_ (i := 12) (N := some 129) (v := ?_) (a' := ?_) #[true, true, true, true, true, true, true, true, true, true, true, true, true, false, false, false, false, false, false, false, false, false, false, false, false, false, false, false, false, false, false, false, false, false, false, false] rfl rfl (by kernel_rfl) (fun _ _ _ h => h) (Or.inl ⟨by rfl, ?_⟩) ?_ ?_
              rotate_left
              · intro w'
                go_simp
                with_reducible rfl
              rotate_left
              · simp only [Act.put, List.setIfInBounds_toArray, List.set_cons_zero, List.set_cons_succ, i64_w, i32_w]
                rfl
              refine pure_ (i := 13) (N := some 130) (v := ?_) (a' := ?_) #[true, true, true, true, true, true, true, true, true, true, true, true, true, true, false, false, false, false, false, false, false, false, false, false, false, false, false, false, false, false, false, false, false, false, false, false] rfl rfl (by kernel_rfl) (fun _ _ _ h => h) (Or.inl ⟨by rfl, ?_⟩) ?_ ?_
              rotate_left
              · intro w'
                go_simp
                with_reducible rfl
              rotate_left
              · simp only [Act.put, List.setIfInBounds_toArray, List.set_cons_zero, List.set_cons_succ, i64_w, i32_w]
                rfl
              refine pure_ (i := 14) (N := some 131) (v := ?_) (a' := ?_) #[true, true, true, true, true, true, true, true, true, true, true, true, true, true, true, false, false, false, false, false, false, false, false, false, false, false, false, false, false, false, false, false, false, false, false, false] rfl rfl (by kernel_rfl) (fun _ _ _ h => h) (Or.inl ⟨by rfl, ?_⟩) ?_ ?_
              rotate_left
              · intro w'
                go_simp
                with_reducible rfl
              rotate_left
              · simp only [Act.put, List.setIfInBounds_toArray, List.set_cons_zero, List.set_cons_succ, i64_w, i32_w]
                rfl
              refine pure_ (i := 16) (N := some 133) (v := ?_) (a' := ?_) #[true, true, true, true, true, true, true, true, true, true, true, true, true, true, true, false, true, false, false, false, false, false, false, false, false, false, false, false, false, false, false, false, false, false, false, false] rfl rfl (by kernel_rfl) (fun _ _ _ h => h) (Or.inl ⟨by rfl, ?_⟩) ?_ ?_
              rotate_left
              · intro w'
                go_simp
                with_reducible rfl
              rotate_left
              · simp only [Act.put, List.setIfInBounds_toArray, List.set_cons_zero, List.set_cons_succ, i64_w, i32_w]
                rfl
              refine take_ (i := 17) (N := some 134) (v := ?_) (a' := ?_) #[true, true, true, true, true, true, true, true, true, true, true, true, true, true, true, false, true, true, false, false, false, false, false, false, false, false, false, false, false, false, false, false, false, false, false, false] rfl rfl (by kernel_rfl) (fun _ _ _ h => h) (Or.inl ⟨by rfl, ?_⟩) hHeld ?_ ?_
              rotate_left
              · rintro w' ⟨s0, s1⟩
                go_simp
                with_reducible rfl
              rotate_left
              · simp only [Act.put, List.setIfInBounds_toArray, List.set_cons_zero, List.set_cons_succ, i64_w, i32_w]
                rfl
              refine one_ (i := 15) (N := some 132) #[true, true, true, true, true, true, true, true, true, true, true, true, true, true, true, true, true, true, false, false, false, false, false, false, false, false, false, false, false, false, false, false, false, false, false, false] rfl rfl (by kernel_rfl) (by decide) (fun K hK => ?_)
              refine goes_ Try.func29 (by kernel_rfl) rfl #[.pointer (some ⟨g7, 0, none⟩)] (by rfl) rfl rfl (by (try simp only [List.map_toArray, List.map_cons, List.map_nil]); first | done | rfl) ?_
              refine (writes_st HS92.out 3 rfl).mono ?_
              rintro e w' ⟨rfl, rfl⟩
              refine ⟨_, rfl, ?_⟩
              refine hK.out _ _ ⟨HS92.out.cell 1 _ _ _ rfl 1, HS92.out.cell 1 _ _ _ rfl 2⟩ (fun hHeld => ?_)
              clear hK K
              refine norm_ (a' := ?_) ?_ ?_
              rotate_left
              · show Act.put _ (some 132) _ = _
                simp only [Act.put, List.setIfInBounds_toArray, List.set_cons_zero, List.set_cons_succ, i64_w, i32_w]
                rfl
              refine pure_ (i := 18) (N := some 135) (v := ?_) (a' := ?_) #[true, true, true, true, true, true, true, true, true, true, true, true, true, true, true, true, true, true, true, false, false, false, false, false, false, false, false, false, false, false, false, false, false, false, false, false] rfl rfl (by kernel_rfl) (fun _ _ _ h => h) (Or.inl ⟨by rfl, ?_⟩) ?_ ?_
              rotate_left
              · intro w'
                go_simp
                with_reducible rfl
              rotate_left
              · simp only [Act.put, List.setIfInBounds_toArray, List.set_cons_zero, List.set_cons_succ, i64_w, i32_w]
                rfl
              refine pure_ (i := 19) (N := some 136) (v := ?_) (a' := ?_) #[true, true, true, true, true, true, true, true, true, true, true, true, true, true, true, true, true, true, true, true, false, false, false, false, false, false, false, false, false, false, false, false, false, false, false, false] rfl rfl (by kernel_rfl) (fun _ _ _ h => h) (Or.inl ⟨by rfl, ?_⟩) ?_ ?_
              rotate_left
              · intro w'
                go_simp
                with_reducible rfl
              rotate_left
              · simp only [Act.put, List.setIfInBounds_toArray, List.set_cons_zero, List.set_cons_succ, i64_w, i32_w]
                rfl
              refine pure_ (i := 20) (N := some 137) (v := ?_) (a' := ?_) #[true, true, true, true, true, true, true, true, true, true, true, true, true, true, true, true, true, true, true, true, true, false, false, false, false, false, false, false, false, false, false, false, false, false, false, false] rfl rfl (by kernel_rfl) (fun _ _ _ h => h) (Or.inl ⟨by rfl, ?_⟩) ?_ ?_
              rotate_left
              · intro w'
                go_simp
                with_reducible rfl
              rotate_left
              · simp only [Act.put, List.setIfInBounds_toArray, List.set_cons_zero, List.set_cons_succ, i64_w, i32_w]
                rfl
              refine pure_ (i := 21) (N := some 138) (v := ?_) (a' := ?_) #[true, true, true, true, true, true, true, true, true, true, true, true, true, true, true, true, true, true, true, true, true, true, false, false, false, false, false, false, false, false, false, false, false, false, false, false] rfl rfl (by kernel_rfl) (fun _ _ _ h => h) (Or.inl ⟨by rfl, ?_⟩) ?_ ?_
              rotate_left
              · intro w'
                go_simp
                with_reducible rfl
              rotate_left
              · simp only [Act.put, List.setIfInBounds_toArray, List.set_cons_zero, List.set_cons_succ, i64_w, i32_w]
                rfl
              refine pure_ (i := 23) (N := some 140) (v := ?_) (a' := ?_) #[true, true, true, true, true, true, true, true, true, true, true, true, true, true, true, true, true, true, true, true, true, true, false, true, false, false, false, false, false, false, false, false, false, false, false, false] rfl rfl (by kernel_rfl) (fun _ _ _ h => h) (Or.inl ⟨by rfl, ?_⟩) ?_ ?_
              rotate_left
              · intro w'
                go_simp
                with_reducible rfl
              rotate_left
              · simp only [Act.put, List.setIfInBounds_toArray, List.set_cons_zero, List.set_cons_succ, i64_w, i32_w]
                rfl
              refine one_ (i := 22) (N := some 139) #[true, true, true, true, true, true, true, true, true, true, true, true, true, true, true, true, true, true, true, true, true, true, true, true, false, false, false, false, false, false, false, false, false, false, false, false] rfl rfl (by kernel_rfl) (by decide) (fun K hK => ?_)
              refine goes_ Try.func24 (by kernel_rfl) rfl #[.pointer (some ⟨g7, 0, none⟩)] (by rfl) rfl rfl (by (try simp only [List.map_toArray, List.map_cons, List.map_nil]); first | done | rfl) ?_
              refine (fresh_to HS92.out 3 rfl).mono ?_
              rintro e w93 ⟨rfl, hS93⟩
              have HS93 := Go.Lib.hid hS93
              clear hS93
              refine ⟨_, rfl, ?_⟩
              refine hK.out _ _ ⟨HS93.out.cell 1 _ _ _ rfl 1, HS93.out.cell 1 _ _ _ rfl 2⟩ (fun hHeld => ?_)
              clear hK K
              refine norm_ (a' := ?_) ?_ ?_
              rotate_left
              · show Act.put _ (some 139) _ = _
                simp only [Act.put, List.setIfInBounds_toArray, List.set_cons_zero, List.set_cons_succ, i64_w, i32_w]
                rfl
              refine pure_ (i := 24) (N := some 141) (v := ?_) (a' := ?_) #[true, true, true, true, true, true, true, true, true, true, true, true, true, true, true, true, true, true, true, true, true, true, true, true, true, false, false, false, false, false, false, false, false, false, false, false] rfl rfl (by kernel_rfl) (fun _ _ _ h => h) (Or.inl ⟨by rfl, ?_⟩) ?_ ?_
              rotate_left
              · intro w'
                go_simp
                with_reducible rfl
              rotate_left
              · simp only [Act.put, List.setIfInBounds_toArray, List.set_cons_zero, List.set_cons_succ, i64_w, i32_w]
                rfl
              refine pure_ (i := 25) (N := some 142) (v := ?_) (a' := ?_) #[true, true, true, true, true, true, true, true, true, true, true, true, true, true, true, true, true, true, true, true, true, true, true, true, true, true, false, false, false, false, false, false, false, false, false, false] rfl rfl (by kernel_rfl) (fun _ _ _ h => h) (Or.inl ⟨by rfl, ?_⟩) ?_ ?_
              rotate_left
              · intro w'
                go_simp
                with_reducible rfl
              rotate_left
              · simp only [Act.put, List.setIfInBounds_toArray, List.set_cons_zero, List.set_cons_succ, i64_w, i32_w]
                rfl
              refine pure_ (i := 26) (N := some 143) (v := ?_) (a' := ?_) #[true, true, true, true, true, true, true, true, true, true, true, true, true, true, true, true, true, true, true, true, true, true, true, true, true, true, true, false, false, false, false, false, false, false, false, false] rfl rfl (by kernel_rfl) (fun _ _ _ h => h) (Or.inl ⟨by rfl, ?_⟩) ?_ ?_
              rotate_left
              · intro w'
                go_simp
                with_reducible rfl
              rotate_left
              · simp only [Act.put, List.setIfInBounds_toArray, List.set_cons_zero, List.set_cons_succ, i64_w, i32_w]
                rfl
              refine pure_ (i := 27) (N := some 144) (v := ?_) (a' := ?_) #[true, true, true, true, true, true, true, true, true, true, true, true, true, true, true, true, true, true, true, true, true, true, true, true, true, true, true, true, false, false, false, false, false, false, false, false] rfl rfl (by kernel_rfl) (fun _ _ _ h => h) (Or.inl ⟨by rfl, ?_⟩) ?_ ?_
              rotate_left
              · intro w'
                go_simp
                with_reducible rfl
              rotate_left
              · simp only [Act.put, List.setIfInBounds_toArray, List.set_cons_zero, List.set_cons_succ, i64_w, i32_w]
                rfl
              refine pure_ (i := 28) (N := some 145) (v := ?_) (a' := ?_) #[true, true, true, true, true, true, true, true, true, true, true, true, true, true, true, true, true, true, true, true, true, true, true, true, true, true, true, true, true, false, false, false, false, false, false, false] rfl rfl (by kernel_rfl) (fun _ _ _ h => h) (Or.inl ⟨by rfl, ?_⟩) ?_ ?_
              rotate_left
              · intro w'
                go_simp
                with_reducible rfl
              rotate_left
              · simp only [Act.put, List.setIfInBounds_toArray, List.set_cons_zero, List.set_cons_succ, i64_w, i32_w]
                rfl
              refine pure_ (i := 29) (N := some 146) (v := ?_) (a' := ?_) #[true, true, true, true, true, true, true, true, true, true, true, true, true, true, true, true, true, true, true, true, true, true, true, true, true, true, true, true, true, true, false, false, false, false, false, false] rfl rfl (by kernel_rfl) (fun _ _ _ h => h) (Or.inl ⟨by rfl, ?_⟩) ?_ ?_
              rotate_left
              · intro w'
                go_simp
                with_reducible rfl
              rotate_left
              · simp only [Act.put, List.setIfInBounds_toArray, List.set_cons_zero, List.set_cons_succ, i64_w, i32_w]
                rfl
              refine pure_ (i := 30) (N := some 147) (v := ?_) (a' := ?_) #[true, true, true, true, true, true, true, true, true, true, true, true, true, true, true, true, true, true, true, true, true, true, true, true, true, true, true, true, true, true, true, false, false, false, false, false] rfl rfl (by kernel_rfl) (fun _ _ _ h => h) (Or.inl ⟨by rfl, ?_⟩) ?_ ?_
              rotate_left
              · intro w'
                go_simp
                with_reducible rfl
              rotate_left
              · simp only [Act.put, List.setIfInBounds_toArray, List.set_cons_zero, List.set_cons_succ, i64_w, i32_w]
                rfl
              refine pure_ (i := 31) (N := some 148) (v := ?_) (a' := ?_) #[true, true, true, true, true, true, true, true, true, true, true, true, true, true, true, true, true, true, true, true, true, true, true, true, true, true, true, true, true, true, true, true, false, false, false, false] rfl rfl (by kernel_rfl) (fun _ _ _ h => h) (Or.inl ⟨by rfl, ?_⟩) ?_ ?_
              rotate_left
              · intro w'
                go_simp
                with_reducible rfl
              rotate_left
              · simp only [Act.put, List.setIfInBounds_toArray, List.set_cons_zero, List.set_cons_succ, i64_w, i32_w]
                rfl
              refine pure_ (i := 32) (N := some 149) (v := ?_) (a' := ?_) #[true, true, true, true, true, true, true, true, true, true, true, true, true, true, true, true, true, true, true, true, true, true, true, true, true, true, true, true, true, true, true, true, true, false, false, false] rfl rfl (by kernel_rfl) (fun _ _ _ h => h) (Or.inl ⟨by rfl, ?_⟩) ?_ ?_
              rotate_left
              · intro w'
                go_simp
                with_reducible rfl
              rotate_left
              · simp only [Act.put, List.setIfInBounds_toArray, List.set_cons_zero, List.set_cons_succ, i64_w, i32_w]
                rfl
              refine pure_ (i := 33) (N := some 150) (v := ?_) (a' := ?_) #[true, true, true, true, true, true, true, true, true, true, true, true, true, true, true, true, true, true, true, true, true, true, true, true, true, true, true, true, true, true, true, true, true, true, false, false] rfl rfl (by kernel_rfl) (fun _ _ _ h => h) (Or.inl ⟨by rfl, ?_⟩) ?_ ?_
              rotate_left
              · intro w'
                go_simp
                with_reducible rfl
              rotate_left
              · simp only [Act.put, List.setIfInBounds_toArray, List.set_cons_zero, List.set_cons_succ, i64_w, i32_w]
                rfl
              refine pure_ (i := 34) (N := some 151) (v := ?_) (a' := ?_) #[true, true, true, true, true, true, true, true, true, true, true, true, true, true, true, true, true, true, true, true, true, true, true, true, true, true, true, true, true, true, true, true, true, true, true, false] rfl rfl (by kernel_rfl) (fun _ _ _ h => h) (Or.inl ⟨by rfl, ?_⟩) ?_ ?_
              rotate_left
              · intro w'
                go_simp
                with_reducible rfl
              rotate_left
              · simp only [Act.put, List.setIfInBounds_toArray, List.set_cons_zero, List.set_cons_succ, i64_w, i32_w]
                rfl
              refine pure_ (i := 35) (N := some 152) (v := ?_) (a' := ?_) #[true, true, true, true, true, true, true, true, true, true, true, true, true, true, true, true, true, true, true, true, true, true, true, true, true, true, true, true, true, true, true, true, true, true, true, true] rfl rfl (by kernel_rfl) (fun _ _ _ h => h) (Or.inl ⟨by rfl, ?_⟩) ?_ ?_
              rotate_left
              · intro w'
                go_simp
                with_reducible rfl
              rotate_left
              · simp only [Act.put, List.setIfInBounds_toArray, List.set_cons_zero, List.set_cons_succ, i64_w, i32_w]
                rfl
              refine done_ (by kernel_rfl) ?_
              go_wp2_with fail
              go_roundw
              case rel => exact ⟨k + 1, now, m, _, _, by omega, by go_num, hm0, by omega, HL.out, HS93.out.drop⟩
              case measure => simp [intOf]; omega
    · obtain rfl : k = n1 := by omega
      by_cases hz : now.length = 0
      · have HB : Hid (inB 0 now.length = false) := Go.Lib.hid (by rw [hz]; rfl)
        clear hz
        have c0_0 : wr.cell? ⟨g8, 0, none⟩ = some (.slice A fst.length c) := HS.out.cell 0 _ _ _ rfl 0
        have f0_0 : wr.frozen? ⟨g8, 0, none⟩ = false := HS.out.free 0 _ _ _ rfl 0
        have c0_1 : wr.cell? ⟨g8, 1, none⟩ = some (.slice A2 now.length c2) := HS.out.cell 0 _ _ _ rfl 1
        have f0_1 : wr.frozen? ⟨g8, 1, none⟩ = false := HS.out.free 0 _ _ _ rfl 1
        have c0_2 : wr.cell? ⟨g8, 2, none⟩ = some (.int .i64 m) := HS.out.cell 0 _ _ _ rfl 2
        have f0_2 : wr.frozen? ⟨g8, 2, none⟩ = false := HS.out.free 0 _ _ _ rfl 2
        go_wp2_with (first | (go_at_call 37; refine (copy_st HS.out 2 rfl (by omega)).mono ?_; rintro e w81_ ⟨g19, rfl, HSn⟩; replace HS : Hid (St [cells g19 fst now m, SL.blk g8 52 #[.slice A fst.length c, .slice A2 now.length c2, .int .i64 m], SL.row (Kd.int .u32) 39 (.slice A2 now.length c2) now, cells g7 fst now m] w w81_) := Go.Lib.hid HSn; clear HSn; clear c0_0 f0_0 c0_1 f0_1 c0_2 f0_2; have c1_0 : w81_.cell? ⟨g8, 0, none⟩ = some (.slice A fst.length c) := HS.out.cell 1 _ _ _ rfl 0; have f1_0 : w81_.frozen? ⟨g8, 0, none⟩ = false := HS.out.free 1 _ _ _ rfl 0; have c1_1 : w81_.cell? ⟨g8, 1, none⟩ = some (.slice A2 now.length c2) := HS.out.cell 1 _ _ _ rfl 1; have f1_1 : w81_.frozen? ⟨g8, 1, none⟩ = false := HS.out.free 1 _ _ _ rfl 1; have c1_2 : w81_.cell? ⟨g8, 2, none⟩ = some (.int .i64 m) := HS.out.cell 1 _ _ _ rfl 2; have f1_2 : w81_.frozen? ⟨g8, 2, none⟩ = false := HS.out.free 1 _ _ _ rfl 2) | (go_at_call 30; refine (same_eq HS.out 3 0 rfl rfl (by omega)).mono ?_; rintro e w82_ ⟨rfl, HSn⟩; replace HS : Hid (St [cells g19 fst now m, SL.blk g8 52 #[.slice A fst.length c, .slice A2 now.length c2, .int .i64 m], SL.row (Kd.int .u32) 39 (.slice A2 now.length c2) now, cells g7 fst now m] w w82_) := Go.Lib.hid HSn; clear HSn; clear c1_0 f1_0 c1_1 f1_1 c1_2 f1_2; have c1_0 : w82_.cell? ⟨g8, 0, none⟩ = some (.slice A fst.length c) := HS.out.cell 1 _ _ _ rfl 0; have f1_0 : w82_.frozen? ⟨g8, 0, none⟩ = false := HS.out.free 1 _ _ _ rfl 0; have c1_1 : w82_.cell? ⟨g8, 1, none⟩ = some (.slice A2 now.length c2) := HS.out.cell 1 _ _ _ rfl 1; have f1_1 : w82_.frozen? ⟨g8, 1, none⟩ = false := HS.out.free 1 _ _ _ rfl 1; have c1_2 : w82_.cell? ⟨g8, 2, none⟩ = some (.int .i64 m) := HS.out.cell 1 _ _ _ rfl 2; have f1_2 : w82_.frozen? ⟨g8, 2, none⟩ = false := HS.out.free 1 _ _ _ rfl 2))
        go_wp2_with (first | (go_at_call 25; refine (set_in HS.out 0 rfl 12345 hm0 (by omega) false HB.out).mono ?_; rintro e w83_ ⟨rfl, HSn⟩; replace HS : Hid (St [cells g19 fst (setN now 0 12345) (setM now 0 m), SL.blk g8 52 #[.slice A fst.length c, .slice A2 now.length c2, .int .i64 m], SL.row (Kd.int .u32) 39 (.slice A2 now.length c2) now, cells g7 fst now m] w w83_) := Go.Lib.hid HSn; clear HSn; clear c1_0 f1_0 c1_1 f1_1 c1_2 f1_2; have c1_0 : w83_.cell? ⟨g8, 0, none⟩ = some (.slice A fst.length c) := HS.out.cell 1 _ _ _ rfl 0; have f1_0 : w83_.frozen? ⟨g8, 0, none⟩ = false := HS.out.free 1 _ _ _ rfl 0; have c1_1 : w83_.cell? ⟨g8, 1, none⟩ = some (.slice A2 now.length c2) := HS.out.cell 1 _ _ _ rfl 1; have f1_1 : w83_.frozen? ⟨g8, 1, none⟩ = false := HS.out.free 1 _ _ _ rfl 1; have c1_2 : w83_.cell? ⟨g8, 2, none⟩ = some (.int .i64 m) := HS.out.cell 1 _ _ _ rfl 2; have f1_2 : w83_.frozen? ⟨g8, 2, none⟩ = false := HS.out.free 1 _ _ _ rfl 2))
        clear c1_0 f1_0 c1_1 f1_1 c1_2 f1_2
        replace HS := Go.Lib.hid HS.out.drew
        refine start_ (n := 9) (S := fun w' => w'.cell? ⟨g8, 1, none⟩ = some (.slice A2 now.length c2)) (ds := []) #[false, false, false, false, false, false, false, false, false] (by kernel_rfl) rfl rfl (HS.out.cell 1 _ _ _ rfl 1) (fun hHeld => ?_)
        generalize w83_.drew = W_ at *
        refine pure_ (i := 0) (N := some 177) (v := ?_) (a' := ?_) #[true, false, false, false, false, false, false, false, false] rfl rfl (by kernel_rfl) (fun _ _ _ h => h) (Or.inl ⟨by rfl, ?_⟩) ?_ ?_
        rotate_left
        · intro w'
          go_simp
          with_reducible rfl
        rotate_left
        · simp only [Act.put, List.setIfInBounds_toArray, List.set_cons_zero, List.set_cons_succ, i64_w, i32_w]
          rfl
        refine pure_ (i := 2) (N := some 179) (v := ?_) (a' := ?_) #[true, false, true, false, false, false, false, false, false] rfl rfl (by kernel_rfl) (fun _ _ _ h => h) (Or.inl ⟨by rfl, ?_⟩) ?_ ?_
        rotate_left
        · intro w'
          go_simp
          with_reducible rfl
        rotate_left
        · simp only [Act.put, List.setIfInBounds_toArray, List.set_cons_zero, List.set_cons_succ, i64_w, i32_w]
          rfl
        refine take_ (i := 3) (N := some 180) (v := ?_) (a' := ?_) #[true, false, true, true, false, false, false, false, false] rfl rfl (by kernel_rfl) (fun _ _ _ h => h) (Or.inl ⟨by rfl, ?_⟩) hHeld ?_ ?_
        rotate_left
        · rintro w' s0
          go_simp
          with_reducible rfl
        rotate_left
        · simp only [Act.put, List.setIfInBounds_toArray, List.set_cons_zero, List.set_cons_succ, i64_w, i32_w]
          rfl
        refine one_ (i := 1) (N := some 178) #[true, true, true, true, false, false, false, false, false] rfl rfl (by kernel_rfl) (by decide) (fun K hK => ?_)
        refine goes_ Try.func26 (by kernel_rfl) rfl #[.pointer (some ⟨g7, 0, none⟩)] (by rfl) rfl rfl (by (try simp only [List.map_toArray, List.map_cons, List.map_nil]); first | done | rfl) ?_
        refine (all_row HS.out 3 rfl (by omega)).mono ?_
        rintro e w91 ⟨A9, c9, rfl, hS91⟩
        have HS91 := Go.Lib.hid hS91
        clear hS91
        refine ⟨_, rfl, ?_⟩
        refine hK.out _ _ (HS91.out.cell 2 _ _ _ rfl 1) (fun hHeld => ?_)
        clear hK K
        refine norm_ (a' := ?_) ?_ ?_
        rotate_left
        · show Act.put _ (some 178) _ = _
          simp only [Act.put, List.setIfInBounds_toArray, List.set_cons_zero, List.set_cons_succ, i64_w, i32_w]
          rfl
        refine one_ (i := 4) (N := some 181) #[true, true, true, true, true, false, false, false, false] rfl rfl (by kernel_rfl) (by decide) (fun K hK => ?_)
        refine goes_ Try.func36 (by kernel_rfl) rfl #[.slice A9 now.length c9, .slice A2 now.length c2] (by rfl) rfl rfl (by (try simp only [List.map_toArray, List.map_cons, List.map_nil]); first | done | rfl) ?_
        refine (rsame_eq HS91.out 0 3 rfl rfl (by omega)).mono ?_
        rintro e w92 ⟨rfl, hS92⟩
        have HS92 := Go.Lib.hid hS92
        clear hS92
        refine ⟨_, rfl, ?_⟩
        refine hK.out _ _ (HS92.out.cell 2 _ _ _ rfl 1) (fun hHeld => ?_)
        clear hK K
        refine norm_ (a' := ?_) ?_ ?_
        rotate_left
        · show Act.put _ (some 181) _ = _
          simp only [Act.put, List.setIfInBounds_toArray, List.set_cons_zero, List.set_cons_succ, i64_w, i32_w]
          rfl
        refine pure_ (i := 5) (N := some 182) (v := ?_) (a' := ?_) #[true, true, true, true, true, true, false, false, false] rfl rfl (by kernel_rfl) (fun _ _ _ h => h) (Or.inl ⟨by rfl, ?_⟩) ?_ ?_
        rotate_left
        · intro w'
          go_simp
          with_reducible rfl
        rotate_left
        · simp only [Act.put, List.setIfInBounds_toArray, List.set_cons_zero, List.set_cons_succ, i64_w, i32_w]
          rfl
        refine one_ (i := 6) (N := some 183) #[true, true, true, true, true, true, true, false, false] rfl rfl (by kernel_rfl) (by decide) (fun K hK => ?_)
        refine goes_ Try.func22 (by kernel_rfl) rfl #[] (by rfl) rfl rfl (by (try simp only [List.map_toArray, List.map_cons, List.map_nil]); first | done | rfl) ?_
        refine (awake_st HS92.out).mono ?_
        rintro e w93 ⟨rfl, hS93⟩
        have HS93 := Go.Lib.hid hS93
        clear hS93
        refine ⟨_, rfl, ?_⟩
        refine hK.out _ _ (HS93.out.cell 2 _ _ _ rfl 1) (fun hHeld => ?_)
        clear hK K
        refine norm_ (a' := ?_) ?_ ?_
        rotate_left
        · show Act.put _ (some 183) _ = _
          simp only [Act.put, List.setIfInBounds_toArray, List.set_cons_zero, List.set_cons_succ, i64_w, i32_w]
          rfl
        refine pure_ (i := 7) (N := some 184) (v := ?_) (a' := ?_) #[true, true, true, true, true, true, true, true, false] rfl rfl (by kernel_rfl) (fun _ _ _ h => h) (Or.inl ⟨by rfl, ?_⟩) ?_ ?_
        rotate_left
        · intro w'
          go_simp
          with_reducible rfl
        rotate_left
        · simp only [Act.put, List.setIfInBounds_toArray, List.set_cons_zero, List.set_cons_succ, i64_w, i32_w]
          rfl
        refine pure_ (i := 8) (N := some 6) (v := ?_) (a' := ?_) #[true, true, true, true, true, true, true, true, true] rfl rfl (by kernel_rfl) (fun _ _ _ h => h) (Or.inl ⟨by rfl, ?_⟩) ?_ ?_
        rotate_left
        · intro w'
          go_simp
          with_reducible rfl
        rotate_left
        · simp only [Act.put, List.setIfInBounds_toArray, List.set_cons_zero, List.set_cons_succ, i64_w, i32_w]
          rfl
        refine done_ (by kernel_rfl) ?_
        go_wp2_with fail
        go_ret
        exact ⟨rfl, HS93.out.below⟩
      · have HB : Hid (inB 0 now.length = true) := Go.Lib.hid (by unfold inB; simp; omega)
        have hz1 : 0 < now.length := by omega
        clear hz
        have c0_0 : wr.cell? ⟨g8, 0, none⟩ = some (.slice A fst.length c) := HS.out.cell 0 _ _ _ rfl 0
        have f0_0 : wr.frozen? ⟨g8, 0, none⟩ = false := HS.out.free 0 _ _ _ rfl 0
        have c0_1 : wr.cell? ⟨g8, 1, none⟩ = some (.slice A2 now.length c2) := HS.out.cell 0 _ _ _ rfl 1
        have f0_1 : wr.frozen? ⟨g8, 1, none⟩ = false := HS.out.free 0 _ _ _ rfl 1
        have c0_2 : wr.cell? ⟨g8, 2, none⟩ = some (.int .i64 m) := HS.out.cell 0 _ _ _ rfl 2
        have f0_2 : wr.frozen? ⟨g8, 2, none⟩ = false := HS.out.free 0 _ _ _ rfl 2
        go_wp2_with (first | (go_at_call 37; refine (copy_st HS.out 2 rfl (by omega)).mono ?_; rintro e w81_ ⟨g19, rfl, HSn⟩; replace HS : Hid (St [cells g19 fst now m, SL.blk g8 52 #[.slice A fst.length c, .slice A2 now.length c2, .int .i64 m], SL.row (Kd.int .u32) 39 (.slice A2 now.length c2) now, cells g7 fst now m] w w81_) := Go.Lib.hid HSn; clear HSn; clear c0_0 f0_0 c0_1 f0_1 c0_2 f0_2; have c1_0 : w81_.cell? ⟨g8, 0, none⟩ = some (.slice A fst.length c) := HS.out.cell 1 _ _ _ rfl 0; have f1_0 : w81_.frozen? ⟨g8, 0, none⟩ = false := HS.out.free 1 _ _ _ rfl 0; have c1_1 : w81_.cell? ⟨g8, 1, none⟩ = some (.slice A2 now.length c2) := HS.out.cell 1 _ _ _ rfl 1; have f1_1 : w81_.frozen? ⟨g8, 1, none⟩ = false := HS.out.free 1 _ _ _ rfl 1; have c1_2 : w81_.cell? ⟨g8, 2, none⟩ = some (.int .i64 m) := HS.out.cell 1 _ _ _ rfl 2; have f1_2 : w81_.frozen? ⟨g8, 2, none⟩ = false := HS.out.free 1 _ _ _ rfl 2) | (go_at_call 30; refine (same_eq HS.out 3 0 rfl rfl (by omega)).mono ?_; rintro e w82_ ⟨rfl, HSn⟩; replace HS : Hid (St [cells g19 fst now m, SL.blk g8 52 #[.slice A fst.length c, .slice A2 now.length c2, .int .i64 m], SL.row (Kd.int .u32) 39 (.slice A2 now.length c2) now, cells g7 fst now m] w w82_) := Go.Lib.hid HSn; clear HSn; clear c1_0 f1_0 c1_1 f1_1 c1_2 f1_2; have c1_0 : w82_.cell? ⟨g8, 0, none⟩ = some (.slice A fst.length c) := HS.out.cell 1 _ _ _ rfl 0; have f1_0 : w82_.frozen? ⟨g8, 0, none⟩ = false := HS.out.free 1 _ _ _ rfl 0; have c1_1 : w82_.cell? ⟨g8, 1, none⟩ = some (.slice A2 now.length c2) := HS.out.cell 1 _ _ _ rfl 1; have f1_1 : w82_.frozen? ⟨g8, 1, none⟩ = false := HS.out.free 1 _ _ _ rfl 1; have c1_2 : w82_.cell? ⟨g8, 2, none⟩ = some (.int .i64 m) := HS.out.cell 1 _ _ _ rfl 2; have f1_2 : w82_.frozen? ⟨g8, 2, none⟩ = false := HS.out.free 1 _ _ _ rfl 2))
        go_wp2_with (first | (go_at_call 25; refine (set_in HS.out 0 rfl 12345 hm0 (by omega) true HB.out).mono ?_; rintro e w83_ ⟨rfl, HSn⟩; replace HS : Hid (St [cells g19 fst (setN now 0 12345) (setM now 0 m), SL.blk g8 52 #[.slice A fst.length c, .slice A2 now.length c2, .int .i64 m], SL.row (Kd.int .u32) 39 (.slice A2 now.length c2) now, cells g7 fst now m] w w83_) := Go.Lib.hid HSn; clear HSn; clear c1_0 f1_0 c1_1 f1_1 c1_2 f1_2; have c1_0 : w83_.cell? ⟨g8, 0, none⟩ = some (.slice A fst.length c) := HS.out.cell 1 _ _ _ rfl 0; have f1_0 : w83_.frozen? ⟨g8, 0, none⟩ = false := HS.out.free 1 _ _ _ rfl 0; have c1_1 : w83_.cell? ⟨g8, 1, none⟩ = some (.slice A2 now.length c2) := HS.out.cell 1 _ _ _ rfl 1; have f1_1 : w83_.frozen? ⟨g8, 1, none⟩ = false := HS.out.free 1 _ _ _ rfl 1; have c1_2 : w83_.cell? ⟨g8, 2, none⟩ = some (.int .i64 m) := HS.out.cell 1 _ _ _ rfl 2; have f1_2 : w83_.frozen? ⟨g8, 2, none⟩ = false := HS.out.free 1 _ _ _ rfl 2) | (go_at_call 35; refine (get_in HS.out 3 rfl 0 (by omega) (by omega)).mono ?_; rintro e w' ⟨rfl, rfl⟩) | (go_at_call 30; refine (same_set HS.out 3 0 rfl rfl (by omega) (by omega)).mono ?_; rintro e w84_ ⟨rfl, HSn⟩; replace HS : Hid (St [cells g19 fst (setN now 0 12345) (setM now 0 m), SL.blk g8 52 #[.slice A fst.length c, .slice A2 now.length c2, .int .i64 m], SL.row (Kd.int .u32) 39 (.slice A2 now.length c2) now, cells g7 fst now m] w w84_) := Go.Lib.hid HSn; clear HSn; clear c1_0 f1_0 c1_1 f1_1 c1_2 f1_2; have c1_0 : w84_.cell? ⟨g8, 0, none⟩ = some (.slice A fst.length c) := HS.out.cell 1 _ _ _ rfl 0; have f1_0 : w84_.frozen? ⟨g8, 0, none⟩ = false := HS.out.free 1 _ _ _ rfl 0; have c1_1 : w84_.cell? ⟨g8, 1, none⟩ = some (.slice A2 now.length c2) := HS.out.cell 1 _ _ _ rfl 1; have f1_1 : w84_.frozen? ⟨g8, 1, none⟩ = false := HS.out.free 1 _ _ _ rfl 1; have c1_2 : w84_.cell? ⟨g8, 2, none⟩ = some (.int .i64 m) := HS.out.cell 1 _ _ _ rfl 2; have f1_2 : w84_.frozen? ⟨g8, 2, none⟩ = false := HS.out.free 1 _ _ _ rfl 2))
        clear c1_0 f1_0 c1_1 f1_1 c1_2 f1_2
        replace HS := Go.Lib.hid HS.out.drew
        refine start_ (n := 9) (S := fun w' => w'.cell? ⟨g8, 1, none⟩ = some (.slice A2 now.length c2)) (ds := []) #[false, false, false, false, false, false, false, false, false] (by kernel_rfl) rfl rfl (HS.out.cell 1 _ _ _ rfl 1) (fun hHeld => ?_)
        generalize w84_.drew = W_ at *
        refine pure_ (i := 0) (N := some 177) (v := ?_) (a' := ?_) #[true, false, false, false, false, false, false, false, false] rfl rfl (by kernel_rfl) (fun _ _ _ h => h) (Or.inl ⟨by rfl, ?_⟩) ?_ ?_
        rotate_left
        · intro w'
          go_simp
          with_reducible rfl
        rotate_left
        · simp only [Act.put, List.setIfInBounds_toArray, List.set_cons_zero, List.set_cons_succ, i64_w, i32_w]
          rfl
        refine pure_ (i := 2) (N := some 179) (v := ?_) (a' := ?_) #[true, false, true, false, false, false, false, false, false] rfl rfl (by kernel_rfl) (fun _ _ _ h => h) (Or.inl ⟨by rfl, ?_⟩) ?_ ?_
        rotate_left
        · intro w'
          go_simp
          with_reducible rfl
        rotate_left
        · simp only [Act.put, List.setIfInBounds_toArray, List.set_cons_zero, List.set_cons_succ, i64_w, i32_w]
          rfl
        refine take_ (i := 3) (N := some 180) (v := ?_) (a' := ?_) #[true, false, true, true, false, false, false, false, false] rfl rfl (by kernel_rfl) (fun _ _ _ h => h) (Or.inl ⟨by rfl, ?_⟩) hHeld ?_ ?_
        rotate_left
        · rintro w' s0
          go_simp
          with_reducible rfl
        rotate_left
        · simp only [Act.put, List.setIfInBounds_toArray, List.set_cons_zero, List.set_cons_succ, i64_w, i32_w]
          rfl
        refine one_ (i := 1) (N := some 178) #[true, true, true, true, false, false, false, false, false] rfl rfl (by kernel_rfl) (by decide) (fun K hK => ?_)
        refine goes_ Try.func26 (by kernel_rfl) rfl #[.pointer (some ⟨g7, 0, none⟩)] (by rfl) rfl rfl (by (try simp only [List.map_toArray, List.map_cons, List.map_nil]); first | done | rfl) ?_
        refine (all_row HS.out 3 rfl (by omega)).mono ?_
        rintro e w91 ⟨A9, c9, rfl, hS91⟩
        have HS91 := Go.Lib.hid hS91
        clear hS91
        refine ⟨_, rfl, ?_⟩
        refine hK.out _ _ (HS91.out.cell 2 _ _ _ rfl 1) (fun hHeld => ?_)
        clear hK K
        refine norm_ (a' := ?_) ?_ ?_
        rotate_left
        · show Act.put _ (some 178) _ = _
          simp only [Act.put, List.setIfInBounds_toArray, List.set_cons_zero, List.set_cons_succ, i64_w, i32_w]
          rfl
        refine one_ (i := 4) (N := some 181) #[true, true, true, true, true, false, false, false, false] rfl rfl (by kernel_rfl) (by decide) (fun K hK => ?_)
        refine goes_ Try.func36 (by kernel_rfl) rfl #[.slice A9 now.length c9, .slice A2 now.length c2] (by rfl) rfl rfl (by (try simp only [List.map_toArray, List.map_cons, List.map_nil]); first | done | rfl) ?_
        refine (rsame_eq HS91.out 0 3 rfl rfl (by omega)).mono ?_
        rintro e w92 ⟨rfl, hS92⟩
        have HS92 := Go.Lib.hid hS92
        clear hS92
        refine ⟨_, rfl, ?_⟩
        refine hK.out _ _ (HS92.out.cell 2 _ _ _ rfl 1) (fun hHeld => ?_)
        clear hK K
        refine norm_ (a' := ?_) ?_ ?_
        rotate_left
        · show Act.put _ (some 181) _ = _
          simp only [Act.put, List.setIfInBounds_toArray, List.set_cons_zero, List.set_cons_succ, i64_w, i32_w]
          rfl
        refine pure_ (i := 5) (N := some 182) (v := ?_) (a' := ?_) #[true, true, true, true, true, true, false, false, false] rfl rfl (by kernel_rfl) (fun _ _ _ h => h) (Or.inl ⟨by rfl, ?_⟩) ?_ ?_
        rotate_left
        · intro w'
          go_simp
          with_reducible rfl
        rotate_left
        · simp only [Act.put, List.setIfInBounds_toArray, List.set_cons_zero, List.set_cons_succ, i64_w, i32_w]
          rfl
        refine one_ (i := 6) (N := some 183) #[true, true, true, true, true, true, true, false, false] rfl rfl (by kernel_rfl) (by decide) (fun K hK => ?_)
        refine goes_ Try.func22 (by kernel_rfl) rfl #[] (by rfl) rfl rfl (by (try simp only [List.map_toArray, List.map_cons, List.map_nil]); first | done | rfl) ?_
        refine (awake_st HS92.out).mono ?_
        rintro e w93 ⟨rfl, hS93⟩
        have HS93 := Go.Lib.hid hS93
        clear hS93
        refine ⟨_, rfl, ?_⟩
        refine hK.out _ _ (HS93.out.cell 2 _ _ _ rfl 1) (fun hHeld => ?_)
        clear hK K
        refine norm_ (a' := ?_) ?_ ?_
        rotate_left
        · show Act.put _ (some 183) _ = _
          simp only [Act.put, List.setIfInBounds_toArray, List.set_cons_zero, List.set_cons_succ, i64_w, i32_w]
          rfl
        refine pure_ (i := 7) (N := some 184) (v := ?_) (a' := ?_) #[true, true, true, true, true, true, true, true, false] rfl rfl (by kernel_rfl) (fun _ _ _ h => h) (Or.inl ⟨by rfl, ?_⟩) ?_ ?_
        rotate_left
        · intro w'
          go_simp
          with_reducible rfl
        rotate_left
        · simp only [Act.put, List.setIfInBounds_toArray, List.set_cons_zero, List.set_cons_succ, i64_w, i32_w]
          rfl
        refine pure_ (i := 8) (N := some 6) (v := ?_) (a' := ?_) #[true, true, true, true, true, true, true, true, true] rfl rfl (by kernel_rfl) (fun _ _ _ h => h) (Or.inl ⟨by rfl, ?_⟩) ?_ ?_
        rotate_left
        · intro w'
          go_simp
          with_reducible rfl
        rotate_left
        · simp only [Act.put, List.setIfInBounds_toArray, List.set_cons_zero, List.set_cons_succ, i64_w, i32_w]
          rfl
        refine done_ (by kernel_rfl) ?_
        go_wp2_with fail
        go_ret
        exact ⟨rfl, HS93.out.below⟩
end Go.Proofs.Ytkmhgolohppliaa.Cls
