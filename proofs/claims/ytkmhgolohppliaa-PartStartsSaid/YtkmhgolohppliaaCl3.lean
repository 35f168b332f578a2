/- Cells and the document's, calls in their last form. -/
import Derived.Test.YtkmhgolohppliaaCl2
namespace Go.Proofs.Ytkmhgolohppliaa.Cls
open Go.RowKit Go.Proofs.Ytkmhgolohppliaa.PCellsPlays Go.Proofs.YtkmhgolohppliaaW.PrintWords Go.Proofs.YtkmhgolohppliaaW.PrintLast Go.Proofs.YtkmhgolohppliaaW.PrintMore Go.Proofs.Ytkmhgolohppliaa.Mine Go.Proofs.Ytkmhgolohppliaa.Cel
open Go.Proofs.Ytkmhgolohppliaa.Sl (SL Stp St No)
set_option linter.unusedVariables false
set_option linter.unusedSimpArgs false
attribute [local go_sem] max2_int min2_int max_two min_two max_three min_three max_four min_four
variable {l : List SL} {w0 w : World} {g : Nat} {fst : List S43} {now : List Int}

theorem rsame_eq (h : St l w0 w) (n m : Nat) {a : List Int} {A : Option Addr} {c : Nat} {B : Option Addr} {d : Nat} (e : l[n]? = some (SL.row (Kd.int .u32) 39 (.slice A a.length c) a)) (e2 : l[m]? = some (SL.row (Kd.int .u32) 39 (.slice B a.length d) a)) (hm : a.length ≤ 1000000) :
    Calls Try.prog 36 #[.slice A a.length c, .slice B a.length d] w fun e w' => e = .returned (.bool true) ∧ St l w0 w' := by
  have h1 := rsame_st h n m e e2 hm
  rw [decide_eq_true rfl] at h1
  exact h1
theorem all_row (h : St l w0 w) (n : Nat) {m : Int} (e : l[n]? = some (cells g fst now m)) (hn : now.length ≤ 1000000) :
    Calls Try.prog 26 #[.pointer (some ⟨g, 0, none⟩)] w fun e w' => ∃ A c, e = .returned (.slice A now.length c) ∧ St (SL.row (Kd.int .u32) 39 (.slice A now.length c) now :: l) w0 w' := by
  refine (all_st h n e hn).mono ?_
  rintro e w1 ⟨v, rfl, hS⟩
  obtain ⟨A, c, rfl, _, _⟩ := hS.rowC 0 rfl
  exact ⟨A, c, rfl, hS⟩
theorem len_eq_st (h : St l w0 w) (n : Nat) {m : Int} (e : l[n]? = some (cells g fst now m)) :
    Calls Try.prog 31 #[.pointer (some ⟨g, 0, none⟩)] w fun e w' => e = .returned (.int .i64 (fst.length : Int)) ∧ w = w' := by
  have h1 := len_st h n e
  rw [len_eq h n e] at h1
  exact h1
theorem setN_len (now : List Int) (i x : Int) : (setN now i x).length = now.length := by unfold setN; split <;> simp
/-- Are the first k what they were at first? -/
def freshTo (fst : List S43) (now : List Int) (k : Nat) : Bool := decide (∀ i : Nat, i < k → rd now i = (rd_T43 fst i).f0)
theorem freshTo_all (fst : List S43) (now : List Int) : freshTo fst now fst.length = fresh fst now := by
  unfold freshTo fresh
  congr 1
  exact propext ⟨fun h i hi => (h i hi).symm, fun h i hi => (h i hi).symm⟩
theorem fresh_to (h : St l w0 w) (n : Nat) {m : Int} (e : l[n]? = some (cells g fst now m)) :
    Calls Try.prog 24 #[.pointer (some ⟨g, 0, none⟩)] w fun e w' => e = .returned (.bool (freshTo fst now fst.length)) ∧ St l w0 w' := by
  have h1 := fresh_st h n e
  rw [← freshTo_all] at h1
  exact h1
theorem get_in (h : St l w0 w) (n : Nat) {m : Int} (e : l[n]? = some (cells g fst now m)) (i : Int) (h0 : 0 ≤ i) (h1 : i < now.length) :
    Calls Try.prog 35 #[.pointer (some ⟨g, 0, none⟩), .int .i64 i] w fun e w' => e = .returned (.tuple #[.int .u32 (rd now i), .bool true]) ∧ w = w' := by
  have h2 := get_st h n e i
  have hb : inB i now.length = true := by unfold inB; simp; omega
  unfold getN at h2
  rw [hb, if_pos rfl] at h2
  exact h2
theorem get_out (h : St l w0 w) (n : Nat) {m : Int} (e : l[n]? = some (cells g fst now m)) (i : Int) (h0 : i < 0 ∨ now.length ≤ i) :
    Calls Try.prog 35 #[.pointer (some ⟨g, 0, none⟩), .int .i64 i] w fun e w' => e = .returned (.tuple #[.int .u32 0, .bool false]) ∧ w = w' := by
  have h2 := get_st h n e i
  have hb : inB i now.length = false := by unfold inB; simp; omega
  unfold getN at h2
  rw [hb, if_neg (by simp)] at h2
  exact h2
theorem same_eq (h : St l w0 w) (n m : Nat) {q : Int} (e : l[n]? = some (cells g fst now q)) {g2 : Nat} {fst2 : List S43} {q2 : Int} (e2 : l[m]? = some (cells g2 fst2 now q2)) (hn : now.length ≤ 1000000) :
    Calls Try.prog 30 #[.pointer (some ⟨g, 0, none⟩), .pointer (some ⟨g2, 0, none⟩)] w fun e w' => e = .returned (.bool true) ∧ St l w0 w' := by
  have h1 := same_st h n m e e2 hn
  rw [decide_eq_true rfl] at h1
  exact h1
theorem same_set (h : St l w0 w) (n m : Nat) {q : Int} (e : l[n]? = some (cells g fst now q)) {g2 : Nat} {fst2 : List S43} {q2 : Int} (e2 : l[m]? = some (cells g2 fst2 (setN now 0 12345) q2)) (hn : now.length ≤ 1000000) (h0 : 0 < now.length) :
    Calls Try.prog 30 #[.pointer (some ⟨g, 0, none⟩), .pointer (some ⟨g2, 0, none⟩)] w fun e w' => e = .returned (.bool (rd now 0 == 12345)) ∧ St l w0 w' := by
  have h1 := same_st h n m e e2 hn
  have e3 : decide (now = setN now 0 12345) = (rd now 0 == 12345) := by
    rw [Bool.eq_iff_iff, decide_eq_true_eq, beq_iff_eq]
    cases now with
    | nil => simp at h0
    | cons a t => simp [setN, inB, rd]
  rw [e3] at h1
  exact h1
theorem set_in (h : St l w0 w) (n : Nat) {q : Int} (e : l[n]? = some (cells g fst now q)) (x : Int) (hw0 : 0 ≤ q) (hw1 : q ≤ 1000000) (b : Bool) (hb : inB 0 now.length = b) :
    Calls Try.prog 25 #[.pointer (some ⟨g, 0, none⟩), .int .i64 0, .int .u32 x] w fun e w' => e = .returned (.bool b) ∧ St (l.set n (cells g fst (setN now 0 x) (setM now 0 q))) w0 w' := by
  have h1 := set_st h n e 0 x hw0 hw1
  rw [hb] at h1
  exact h1
theorem freshTo_succ (fst : List S43) (now : List Int) (k : Nat) : freshTo fst now (k + 1) = (freshTo fst now k && (rd now k == (rd_T43 fst k).f0)) := by
  unfold freshTo
  rw [Bool.eq_iff_iff]
  simp only [decide_eq_true_eq, Bool.and_eq_true, beq_iff_eq]
  exact ⟨fun h => ⟨fun i hi => h i (by omega), h k (by omega)⟩, fun h i hi => by
    by_cases e : i = k
    · subst e; exact h.2
    · exact h.1 i (by omega)⟩

end Go.Proofs.Ytkmhgolohppliaa.Cls
