/- A plan, as the program makes it (plain). -/
import Derived.Test.YtnniejaknnpcjaaSlm
import Derived.Test.YtnniejaknnpcjaaPPlanWordsx3
namespace Go.Proofs.Ytnniejaknnpcjaa.PlW
open Go.RowKit Go.Proofs.YtnniejaknnpcjaaW.PrintWords Go.Proofs.YtnniejaknnpcjaaW.PrintLast Go.Proofs.YtnniejaknnpcjaaW.PrintMore Go.Proofs.Ytnniejaknnpcjaa.Mine Go.Proofs.Ytnniejaknnpcjaa.PPlanWords
open Go.Proofs.Ytnniejaknnpcjaa.Sl (SL Stp Chg St No)
set_option linter.unusedVariables false
set_option linter.unusedSimpArgs false
attribute [local go_sem] max2_int min2_int max_two min_two max_three min_three max_four min_four
theorem msucc {i : Nat} (h : i < 9223372036854775807) : wrap64 ((i : Int) + 1) = ((i + 1 : Nat) : Int) := by unfold wrap64; omega
/-- Where a need's period ends. -/
def endT (n : S69) (t : Nat) : Int := (t : Int) - (t : Int) % n.f1 + n.f1
/-- The need whose tick it is, of the first i. -/
def nextR (ns : List S69) (left : List Int) (t : Nat) : Nat → Nat × Bool
  | 0 => (0, false)
  | i + 1 => if 0 < left.getD i 0 ∧ ((nextR ns left t i).2 = false ∨ endT (ns.getD i z69) t < endT (ns.getD (nextR ns left t i).1 z69) t) then (i, true) else nextR ns left t i
/-- The budgets of the first i needs, anew where a period begins; none: one was not given. -/
def refill (ns : List S69) (t : Nat) (left : List Int) : Nat → Option (List Int)
  | 0 => some left
  | i + 1 => (refill ns t left i).bind fun l => if (t : Int) % (ns.getD i z69).f1 = 0 then if 0 < l.getD i 0 then none else some (l.set i (ns.getD i z69).f2) else some l
/-- A tick: who has it. -/
def tickR (ns : List S69) (t : Nat) (l : List Int) (out : List Int) : List Int × List Int :=
  if (nextR ns l t ns.length).2 then (l.set (nextR ns l t ns.length).1 (l.getD (nextR ns l t ns.length).1 0 - 1), out ++ [(ns.getD (nextR ns l t ns.length).1 z69).f0]) else (l, out ++ [-1])
/-- What is left, and whose each tick was, behind t ticks. -/
def mk (ns : List S69) : Nat → Option (List Int × List Int)
  | 0 => some (List.replicate ns.length 0, [])
  | t + 1 => (mk ns t).bind fun s => (refill ns t s.1 ns.length).bind fun l => some (tickR ns t l s.2)
theorem nextR_lt (ns : List S69) (left : List Int) (t : Nat) : ∀ i, (nextR ns left t i).2 = true → (nextR ns left t i).1 < i ∧ 0 < left.getD (nextR ns left t i).1 0
  | 0, h => by simp [nextR] at h
  | i + 1, h => by
    simp only [nextR] at h ⊢
    by_cases c : 0 < left.getD i 0 ∧ ((nextR ns left t i).2 = false ∨ endT (ns.getD i z69) t < endT (ns.getD (nextR ns left t i).1 z69) t)
    · rw [if_pos c]; exact ⟨Nat.lt_succ_self i, c.1⟩
    · rw [if_neg c] at h ⊢; have := nextR_lt ns left t i h; exact ⟨by omega, this.2⟩
theorem nextR_fst_lt (ns : List S69) (left : List Int) (t : Nat) : ∀ i, 0 < i → (nextR ns left t i).1 < i
  | i + 1, _ => by
    simp only [nextR]
    split
    · exact Nat.lt_succ_self i
    · cases i with
      | zero => simp [nextR]
      | succ i => have := nextR_fst_lt ns left t (i + 1) (by omega); omega
theorem refill_len (ns : List S69) (t : Nat) (left : List Int) : ∀ i l, refill ns t left i = some l → l.length = left.length
  | 0, l, h => by simp only [refill, Option.some.injEq] at h; rw [h]
  | i + 1, l, h => by
    simp only [refill] at h
    cases hr : refill ns t left i with
    | none => rw [hr] at h; cases h
    | some l2 =>
      have := refill_len ns t left i l2 hr
      rw [hr] at h
      simp only [Option.bind_some] at h
      split at h
      · split at h
        · cases h
        · cases h; rw [List.length_set]; exact this
      · cases h; exact this
theorem refill_none (ns : List S69) (t : Nat) (left : List Int) {i : Nat} (h : refill ns t left i = none) : ∀ j, i ≤ j → refill ns t left j = none := by
  intro j hj
  induction j with
  | zero => obtain rfl : i = 0 := by omega
            exact h
  | succ j ih =>
    by_cases e : i = j + 1
    · rw [← e]; exact h
    · simp only [refill]; rw [ih (by omega)]; rfl
theorem mk_len (ns : List S69) : ∀ t s, mk ns t = some s → s.1.length = ns.length ∧ s.2.length = t
  | 0, s, h => by simp only [mk, Option.some.injEq] at h; subst h; simp
  | t + 1, s, h => by
    simp only [mk] at h
    cases hm : mk ns t with
    | none => rw [hm] at h; cases h
    | some s2 =>
      have ih := mk_len ns t s2 hm
      rw [hm] at h
      simp only [Option.bind_some] at h
      cases hr : refill ns t s2.1 ns.length with
      | none => rw [hr] at h; cases h
      | some l =>
        rw [hr] at h
        have := refill_len ns t s2.1 _ l hr
        simp only [Option.bind_some, Option.some.injEq] at h
        subst h
        unfold tickR
        split
        · simp only [List.length_set, List.length_append, List.length_singleton]; omega
        · simp only [List.length_append, List.length_singleton]; omega
theorem mk_none (ns : List S69) {i : Nat} (h : mk ns i = none) : ∀ j, i ≤ j → mk ns j = none := by
  intro j hj
  induction j with
  | zero => obtain rfl : i = 0 := by omega
            exact h
  | succ j ih =>
    by_cases e : i = j + 1
    · rw [← e]; exact h
    · simp only [mk]; rw [ih (by omega)]; rfl
/-- Needs that may be. -/
def Per (ns : List S69) : Prop := ∀ n ∈ ns, 1 ≤ n.f1 ∧ n.f1 ≤ 4096
theorem getD_mem {α : Type} (l : List α) (z : α) (i : Nat) (h : i < l.length) : l.getD i z ∈ l := by
  rw [List.getD_eq_getElem?_getD, List.getElem?_eq_getElem h]; exact List.getElem_mem h
theorem end_is {n : S69} {t : Nat} (hp : 1 ≤ n.f1 ∧ n.f1 ≤ 4096) (ht : t ≤ 4096) : plan_end.f n.f0 n.f1 n.f2 (t : Int) = some (endT n t) := by
  unfold plan_end.f endT
  rw [if_neg (by omega), Int.tmod_eq_emod_of_nonneg (by omega)]
  have h0 := Int.emod_nonneg (t : Int) (show n.f1 ≠ 0 by omega)
  have h1 := Int.emod_lt_of_pos (t : Int) (show 0 < n.f1 by omega)
  generalize (t : Int) % n.f1 = m at *
  have e1 : wrap64 ((t : Int) - m) = (t : Int) - m := by unfold wrap64; omega
  rw [e1]
  congr 1
  unfold wrap64; omega
theorem next_loop {ns : List S69} {left : List Int} {t : Nat} (hp : Per ns) (hl : left.length = ns.length) (hn : ns.length ≤ 1000) (ht : t ≤ 4096) : ∀ (d i k : Nat), i + d = ns.length → d + 1 ≤ k →
    plan_next.l0 k ns left (t : Int) ((nextR ns left t i).1 : Int) (nextR ns left t i).2 ns (ns.length : Int) (i : Int) = some (((nextR ns left t ns.length).1 : Int), (nextR ns left t ns.length).2)
  | 0, i, k, h, hk => by
    obtain ⟨k, rfl⟩ : ∃ m, k = m + 1 := ⟨k - 1, by omega⟩
    simp only [plan_next.l0]
    rw [if_neg (by omega)]
    obtain rfl : i = ns.length := by omega
    rfl
  | d + 1, i, k, h, hk => by
    obtain ⟨k, rfl⟩ : ∃ m, k = m + 1 := ⟨k - 1, by omega⟩
    have ih := next_loop hp hl hn ht d (i + 1) k (by omega) (by omega)
    simp only [plan_next.l0]
    rw [if_pos (by omega), if_pos (by omega), if_pos (by omega), if_pos (by omega), msucc (by omega)]
    simp only [nextR] at ih
    unfold rd rd_T69
    rw [Int.toNat_natCast, Int.toNat_natCast]
    by_cases c1 : left.getD i 0 > 0
    · rw [if_pos c1]
      cases hb : (nextR ns left t i).2 with
      | false =>
        rw [if_neg (by decide)]
        rw [if_pos ⟨c1, .inl hb⟩] at ih
        exact ih
      | true =>
        have hlt := nextR_lt ns left t i hb
        rw [if_pos rfl, end_is (hp _ (getD_mem ns z69 i (by omega))) ht, end_is (hp _ (getD_mem ns z69 _ (by omega))) ht]
        simp only [Option.bind_some]
        rw [if_pos (by omega), if_pos (by omega)]
        by_cases c2 : endT (ns.getD i z69) t < endT (ns.getD (nextR ns left t i).1 z69) t
        · rw [if_pos c2]
          rw [if_pos ⟨c1, .inr c2⟩] at ih
          exact ih
        · rw [if_neg c2]
          rw [if_neg (fun h => h.2.elim (fun h => by rw [hb] at h; cases h) c2)] at ih
          rw [hb] at ih
          exact ih
    · rw [if_neg c1]
      rw [if_neg (fun h => c1 h.1)] at ih
      exact ih
theorem next_is {ns : List S69} {left : List Int} {t : Nat} (hp : Per ns) (hl : left.length = ns.length) (hn : ns.length ≤ 1000) (ht : t ≤ 4096) (k : Nat) (hk : ns.length + 1 ≤ k) : plan_next.f k ns left (t : Int) = some (((nextR ns left t ns.length).1 : Int), (nextR ns left t ns.length).2) :=
  next_loop hp hl hn ht ns.length 0 k (by omega) hk
/-- A need that is right where it stands. -/
def Right (fr : Nat) (ns : List S69) (i : Nat) : Prop := 0 ≤ (ns.getD i z69).f0 ∧ (ns.getD i z69).f0 ≤ 255 ∧ (0 < i → (ns.getD (i - 1) z69).f0 < (ns.getD i z69).f0) ∧ 1 ≤ (ns.getD i z69).f1 ∧ (fr : Int) % (ns.getD i z69).f1 = 0 ∧ 0 ≤ (ns.getD i z69).f2 ∧ (ns.getD i z69).f2 ≤ (ns.getD i z69).f1
theorem right_is {fr : Nat} {ns : List S69} {i : Nat} (hi : i < ns.length) (hn : ns.length ≤ 1000) (h : Right fr ns i) (k : Nat) (hk : 4 ≤ k) : plan_right.f k (fr : Int) ns (i : Int) = some 0 := by
  obtain ⟨k, rfl⟩ : ∃ m, k = m + 1 + 1 + 1 := ⟨k - 3, by omega⟩
  obtain ⟨h1, h2, h3, h4, h5, h6, h7⟩ := h
  have hr : ∀ j : Nat, ns.getD j z69 = rd_T69 ns (j : Int) := fun j => by unfold rd_T69; rw [Int.toNat_natCast]
  simp only [hr] at h1 h2 h3 h4 h5 h6 h7
  unfold plan_right.f
  rw [if_pos (by omega), if_pos (by omega), if_neg (by omega), decide_eq_false (by omega)]
  have j1 : plan_right.j1 (k + 1 + 1) (fr : Int) false (rd_T69 ns (i : Int)).f0 (rd_T69 ns (i : Int)).f1 (rd_T69 ns (i : Int)).f2 = some 0 := by
    simp only [plan_right.j1]
    rw [if_neg (by decide), if_neg (by omega), if_neg (by omega), Int.tmod_eq_emod_of_nonneg (by omega), h5]
    simp only [plan_right.j2]
    rw [if_neg (by decide), if_neg (by omega), if_neg (by omega)]
  simp only [plan_right.j0]
  rw [if_neg (by decide)]
  by_cases c : 0 < i
  · rw [if_pos (by omega)]
    have e : wrap64 ((i : Int) - 1) = ((i - 1 : Nat) : Int) := by unfold wrap64; omega
    rw [e, if_pos (by omega), if_pos (by omega), decide_eq_false (by have := h3 c; omega)]
    exact j1
  · rw [if_neg (by omega)]
    exact j1
theorem new_none : fault_New.f 0 = some none := by
  unfold fault_New.f fault_Name.f fault_names.f
  simp only [Option.bind_some]
  rw [if_pos (by decide)]
  simp only [Option.bind_some]
  rw [if_pos (by unfold ByteArray.toList; unfold ByteArray.toList.loop; rw [if_neg (by decide)]; rfl)]
theorem per_of {fr : Nat} {ns : List S69} (hf : 1 ≤ fr) (hf2 : fr ≤ 4096) (h : ∀ i, i < ns.length → Right fr ns i) : Per ns := by
  intro n hn
  obtain ⟨i, hi, rfl⟩ := List.mem_iff_getElem.1 hn
  obtain ⟨_, _, _, h4, h5, _, _⟩ := h i hi
  rw [List.getD_eq_getElem?_getD, List.getElem?_eq_getElem hi, Option.getD_some] at h4 h5
  refine ⟨h4, ?_⟩
  rcases Int.lt_or_le 4096 ns[i].f1 with h6 | h6
  · rw [Int.emod_eq_of_lt (by omega) (by omega)] at h5; omega
  · exact h6
end Go.Proofs.Ytnniejaknnpcjaa.PlW
