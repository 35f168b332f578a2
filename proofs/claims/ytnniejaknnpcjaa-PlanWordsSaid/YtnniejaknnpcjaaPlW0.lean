/- The windows of owners, how often they change, and how far an owner's ticks lie apart: the program's and the document's (plain). -/
import Derived.Test.YtnniejaknnpcjaaPPlanWordsx5
import Derived.Test.YtnniejaknnpcjaaPPlanWordsx4
import Derived.Test.YtnniejaknnpcjaaMine
namespace Go.Proofs.Ytnniejaknnpcjaa.PlW
open Go.RowKit Go.Proofs.YtnniejaknnpcjaaW.PrintWords Go.Proofs.YtnniejaknnpcjaaW.PrintLast Go.Proofs.YtnniejaknnpcjaaW.PrintMore Go.Proofs.Ytnniejaknnpcjaa.Mine Go.Proofs.Ytnniejaknnpcjaa.PPlanWords
set_option linter.unusedVariables false
set_option linter.unusedSimpArgs false
theorem wsucc {i : Nat} (h : i < 9223372036854775807) : wrap64 ((i : Int) + 1) = ((i + 1 : Nat) : Int) := by unfold wrap64; omega
theorem wpred {i : Nat} (h : i < 9223372036854775807) (h0 : 0 < i) : wrap64 ((i : Int) - 1) = ((i - 1 : Nat) : Int) := by unfold wrap64; omega
theorem rd_nat (l : List Int) (i : Nat) : rd l (i : Int) = l.getD i 0 := by unfold rd; rw [Int.toNat_natCast]
def lastUp (out : List S120) : List S120 := out.set (out.length - 1) ⟨(out.getD (out.length - 1) z120).f0, (out.getD (out.length - 1) z120).f1, wrap64 ((out.getD (out.length - 1) z120).f2 + 1)⟩
/-- Rows of one owner, up to a tick. -/
def gw (w : List Int) : Nat → List S120
  | 0 => []
  | i + 1 => if w.getD i 0 = -1 then gw w i else if 0 < i ∧ w.getD (i - 1) 0 = w.getD i 0 then lastUp (gw w i) else gw w i ++ [⟨w.getD i 0, (i : Int), 1⟩]
theorem lastUp_len (out : List S120) : (lastUp out).length = out.length := by unfold lastUp; rw [List.length_set]
theorem gw_len (w : List Int) : ∀ i, (gw w i).length ≤ i
  | 0 => Nat.le_refl _
  | i + 1 => by
    have := gw_len w i
    simp only [gw]
    split
    · omega
    · split
      · rw [lastUp_len]; omega
      · simp; omega
theorem gw_some (w : List Int) : ∀ i, w.getD i 0 ≠ -1 → gw w (i + 1) ≠ []
  | 0, h => by simp only [gw]; rw [if_neg h, if_neg (by omega)]; simp
  | i + 1, h => by
    simp only [gw]
    rw [if_neg h]
    split
    · rename_i hc
      intro he
      have h2 := congrArg List.length he
      rw [lastUp_len] at h2
      have h3 := gw_some w i (by rw [show i + 1 - 1 = i by omega] at hc; rw [hc.2]; exact h)
      simp only [gw] at h3
      exact h3 (List.eq_nil_of_length_eq_zero h2)
    · simp
theorem last_getD (l : List S120) (x z : S120) : (l ++ [x]).getD l.length z = x := by
  rw [List.getD_eq_getElem?_getD, List.getElem?_append_right (Nat.le_refl _), Nat.sub_self]; rfl
theorem gw_run (w : List Int) (t : Nat) (h0 : t = 0 ∨ w.getD (t - 1) 0 ≠ w.getD t 0) : ∀ m, m ≤ 1000000 → (∀ j, j ≤ m → w.getD (t + j) 0 = w.getD t 0) → gw w (t + m + 1) = gw w t ++ (if w.getD t 0 = -1 then [] else [⟨w.getD t 0, (t : Int), ((m + 1 : Nat) : Int)⟩])
  | 0, _, _ => by
    simp only [gw, Nat.add_zero]
    split
    · simp
    · rw [if_neg (by rcases h0 with h | h; · omega
                     · exact fun hh => h hh.2)]
      rfl
  | m + 1, hm, h => by
    have ih := gw_run w t h0 m (by omega) (fun j hj => h j (by omega))
    have e1 := h (m + 1) (Nat.le_refl _)
    have e2 := h m (by omega)
    show gw w (t + m + 1 + 1) = _
    rw [gw, ih]
    rw [show t + m + 1 = t + (m + 1) by omega, e1]
    split
    · rfl
    · rw [show t + (m + 1) - 1 = t + m by omega, e2, if_pos ⟨by omega, rfl⟩]
      unfold lastUp
      have hl : (gw w t ++ [(⟨w.getD t 0, (t : Int), ((m + 1 : Nat) : Int)⟩ : S120)]).length - 1 = (gw w t).length := by simp
      rw [hl, last_getD]
      simp only
      rw [List.set_append_right _ _ (Nat.le_refl _), Nat.sub_self]
      rw [wsucc (by omega)]
      rfl
theorem win_loop {w : List Int} (hw : w.length ≤ 1000) : ∀ (d i k : Nat), i + d = w.length → d + 1 ≤ k → plan_Windows.l0 k w (gw w i) w (w.length : Int) (i : Int) = some (gw w w.length)
  | 0, i, k, h, hk => by
    obtain ⟨k, rfl⟩ : ∃ m, k = m + 1 := ⟨k - 1, by omega⟩
    simp only [plan_Windows.l0]
    rw [if_neg (by omega)]
    obtain rfl : i = w.length := by omega
    rfl
  | d + 1, i, k, h, hk => by
    obtain ⟨k, rfl⟩ : ∃ m, k = m + 1 := ⟨k - 1, by omega⟩
    have ih := win_loop hw d (i + 1) k (by omega) (by omega)
    simp only [plan_Windows.l0]
    rw [if_pos (by omega), if_pos (by omega), if_pos (by omega), wsucc (by omega), rd_nat]
    simp only [gw] at ih
    have hgl := gw_len w i
    by_cases c1 : w.getD i 0 = -1
    · rw [if_pos c1]; rw [if_pos c1] at ih; exact ih
    · rw [if_neg c1]
      rw [if_neg c1] at ih
      by_cases c2 : 0 < i
      · rw [if_pos (by omega)]
        simp only [wpred (show i < 9223372036854775807 by omega) c2, rd_nat]
        rw [if_pos (by omega), if_pos (by omega)]
        by_cases c3 : w.getD (i - 1) 0 = w.getD i 0
        · rw [if_pos ⟨c2, c3⟩] at ih
          have hne : gw w i ≠ [] := by
            have := gw_some w (i - 1) (by rw [c3]; exact c1)
            rwa [show i - 1 + 1 = i by omega] at this
          have hpos : 0 < (gw w i).length := List.length_pos_iff.2 hne
          have hwl : wrap64 (((gw w i).length : Int) - 1) = (((gw w i).length - 1 : Nat) : Int) := wpred (by omega) hpos
          rw [if_pos c3, hwl, if_pos (by omega), if_pos (by omega)]
          unfold lastUp at ih
          simp only [rd_T120, Int.toNat_natCast]
          exact ih
        · rw [if_neg (fun h => c3 h.2)] at ih
          rw [if_neg c3, if_pos (by omega)]
          exact ih
      · rw [if_neg (fun h => c2 h.1)] at ih
        rw [if_neg (by omega), if_pos (by omega)]
        exact ih
theorem win_is {w : List Int} (hw : w.length ≤ 1000) (k : Nat) (hk : w.length + 1 ≤ k) : plan_Windows.f k w = some (gw w w.length) :=
  win_loop hw w.length 0 k (by omega) hk
theorem rwin_loop {w : List Int} (hw : w.length ≤ 1000) : ∀ (d : Nat),
    (∀ t k, w.length - t = d → t ≤ w.length → (t = 0 ∨ w.length ≤ t ∨ w.getD (t - 1) 0 ≠ w.getD t 0) → 2 * d + 2 ≤ k → countwheelref32_Windows.l0 k w (gw w t) (t : Int) = some (gw w w.length)) ∧
    (∀ t m k, w.length - (t + m) = d → 1 ≤ m → t + m ≤ w.length → (t = 0 ∨ w.getD (t - 1) 0 ≠ w.getD t 0) → (∀ j, j < m → w.getD (t + j) 0 = w.getD t 0) → 2 * d + 3 ≤ k → countwheelref32_Windows.l1 k w (gw w t) (t : Int) (m : Int) = some (gw w w.length)) := by
  intro d
  induction d with
  | zero =>
    have a : ∀ t k, w.length - t = 0 → t ≤ w.length → 1 ≤ k → countwheelref32_Windows.l0 k w (gw w t) (t : Int) = some (gw w w.length) := by
      intro t k h ht hk
      obtain ⟨k, rfl⟩ : ∃ m, k = m + 1 := ⟨k - 1, by omega⟩
      simp only [countwheelref32_Windows.l0]
      rw [if_neg (by omega)]
      obtain rfl : t = w.length := by omega
      rfl
    refine ⟨fun t k h ht _ hk => a t k h ht (by omega), fun t m k h hm ht h0 hall hk => ?_⟩
    obtain ⟨k, rfl⟩ : ∃ m, k = m + 1 := ⟨k - 1, by omega⟩
    obtain ⟨m, rfl⟩ : ∃ q, m = q + 1 := ⟨m - 1, by omega⟩
    have hr := gw_run w t h0 m (by omega) (fun j hj => hall j (by omega))
    have hgl := gw_len w t
    have e1 : wrap64 ((t : Int) + ((m + 1 : Nat) : Int)) = ((t + (m + 1) : Nat) : Int) := by unfold wrap64; omega
    have e2 : wrap64 (((m + 1 : Nat) : Int) - 1) = (m : Int) := by unfold wrap64; omega
    have e3 : wrap64 ((t : Int) + (m : Int)) = ((t + m : Nat) : Int) := by unfold wrap64; omega
    simp only [countwheelref32_Windows.l1]
    rw [e1, if_neg (by omega), if_pos (by omega), if_pos (by omega), e2, e3, wsucc (by omega), rd_nat]
    split
    · rename_i hc
      rw [if_pos hc, List.append_nil] at hr
      rw [← hr]
      exact a _ _ (by omega) (by omega) (by omega)
    · rename_i hc
      rw [if_neg hc] at hr
      rw [if_pos (by omega), ← hr]
      exact a _ _ (by omega) (by omega) (by omega)
  | succ d ih =>
    have b : ∀ t m k, w.length - (t + m) = d + 1 → 1 ≤ m → t + m ≤ w.length → (t = 0 ∨ w.getD (t - 1) 0 ≠ w.getD t 0) → (∀ j, j < m → w.getD (t + j) 0 = w.getD t 0) → 2 * (d + 1) + 3 ≤ k → countwheelref32_Windows.l1 k w (gw w t) (t : Int) (m : Int) = some (gw w w.length) := by
      intro t m k h hm ht h0 hall hk
      obtain ⟨k, rfl⟩ : ∃ m, k = m + 1 := ⟨k - 1, by omega⟩
      obtain ⟨m, rfl⟩ : ∃ q, m = q + 1 := ⟨m - 1, by omega⟩
      have hr := gw_run w t h0 m (by omega) (fun j hj => hall j (by omega))
      have hgl := gw_len w t
      have go : w.getD (t + m + 1 - 1) 0 ≠ w.getD (t + m + 1) 0 → ∀ k, 2 * (d + 1) + 2 ≤ k → countwheelref32_Windows.l0 k w (gw w (t + m + 1)) ((t + m + 1 : Nat) : Int) = some (gw w w.length) := by
        intro hne k hk
        obtain ⟨k, rfl⟩ : ∃ m, k = m + 1 := ⟨k - 1, by omega⟩
        simp only [countwheelref32_Windows.l0]
        rw [if_pos (by omega)]
        refine ih.2 (t + m + 1) 1 k (by omega) (by omega) (by omega) (.inr hne) (fun j hj => ?_) (by omega)
        obtain rfl : j = 0 := by omega
        rfl
      have e1 : wrap64 ((t : Int) + ((m + 1 : Nat) : Int)) = ((t + (m + 1) : Nat) : Int) := by unfold wrap64; omega
      have e2 : wrap64 (((m + 1 : Nat) : Int) - 1) = (m : Int) := by unfold wrap64; omega
      have e3 : wrap64 ((t : Int) + (m : Int)) = ((t + m : Nat) : Int) := by unfold wrap64; omega
      simp only [countwheelref32_Windows.l1]
      rw [e1, if_pos (by omega), if_pos (by omega), if_pos (by omega), if_pos (by omega), rd_nat, rd_nat]
      by_cases c : w.getD (t + (m + 1)) 0 = w.getD t 0
      · rw [if_pos c, wsucc (by omega)]
        refine ih.2 t (m + 1 + 1) k (by omega) (by omega) (by omega) h0 (fun j hj => ?_) (by omega)
        by_cases e : j < m + 1
        · exact hall j e
        · obtain rfl : j = m + 1 := by omega
          exact c
      · rw [if_neg c, e2, e3, wsucc (by omega)]
        have hne : w.getD (t + m + 1 - 1) 0 ≠ w.getD (t + m + 1) 0 := by
          rw [show t + m + 1 - 1 = t + m by omega, hall m (by omega), show t + m + 1 = t + (m + 1) by omega]
          exact fun h => c h.symm
        split
        · rename_i hc
          rw [if_pos hc, List.append_nil] at hr
          rw [← hr]
          exact go hne _ (by omega)
        · rename_i hc
          rw [if_neg hc] at hr
          rw [if_pos (by omega), ← hr]
          exact go hne _ (by omega)
    refine ⟨fun t k h ht h0 hk => ?_, b⟩
    obtain ⟨k, rfl⟩ : ∃ m, k = m + 1 := ⟨k - 1, by omega⟩
    simp only [countwheelref32_Windows.l0]
    rw [if_pos (by omega)]
    refine ih.2 t 1 k (by omega) (by omega) (by omega) (by rcases h0 with h | h | h; · exact .inl h
                                                           · omega
                                                           · exact .inr h) (fun j hj => by obtain rfl : j = 0 := by omega
                                                                                           rfl) (by omega)
theorem rwin_is {w : List Int} (hw : w.length ≤ 1000) (k : Nat) (hk : 2 * w.length + 2 ≤ k) : countwheelref32_Windows.f k w = some (gw w w.length) :=
  (rwin_loop hw w.length).1 0 k (by omega) (by omega) (.inl rfl) hk
theorem same_loop (l : List S120) (hl : l.length ≤ 1000) : ∀ (d i k : Nat), i + d = l.length → d + 1 ≤ k → countwheelref13_SameWindows.l0 k l l (i : Int) = some true
  | 0, i, k, h, hk => by
    obtain ⟨k, rfl⟩ : ∃ m, k = m + 1 := ⟨k - 1, by omega⟩
    simp only [countwheelref13_SameWindows.l0]
    rw [if_neg (by omega)]
  | d + 1, i, k, h, hk => by
    obtain ⟨k, rfl⟩ : ∃ m, k = m + 1 := ⟨k - 1, by omega⟩
    simp only [countwheelref13_SameWindows.l0]
    rw [if_pos (by omega), if_pos (by omega), if_pos (by omega), wsucc (by omega), if_neg (by simp)]
    exact same_loop l hl d (i + 1) k (by omega) (by omega)
theorem same_is (l : List S120) (hl : l.length ≤ 1000) (k : Nat) (hk : l.length + 1 ≤ k) : countwheelref13_SameWindows.f k l l = some true := by
  unfold countwheelref13_SameWindows.f
  rw [if_pos rfl]
  exact same_loop l hl l.length 0 k (by omega) hk
-- how often the owner changes
def swN (w : List Int) : Nat → Nat
  | 0 => 0
  | i + 1 => swN w i + if w.getD i 0 = w.getD ((i + w.length - 1) % w.length) 0 then 0 else 1
theorem swN_le (w : List Int) : ∀ i, swN w i ≤ i
  | 0 => Nat.le_refl _
  | i + 1 => by have := swN_le w i; simp only [swN]; split <;> omega
theorem back_ix {n i : Nat} (hn : n ≤ 1000) (hi : i < n) : Int.tmod (wrap64 (wrap64 ((i : Int) + (n : Int)) - 1)) (n : Int) = (((i + n - 1) % n : Nat) : Int) := by
  have e1 : wrap64 ((i : Int) + (n : Int)) = ((i + n : Nat) : Int) := by unfold wrap64; omega
  rw [e1, wpred (by omega) (by omega), Int.tmod_eq_emod_of_nonneg (by omega)]
  omega
theorem sw_loop {w : List Int} (hw : w.length ≤ 1000) : ∀ (d i k : Nat), i + d = w.length → d + 1 ≤ k → plan_Switches.l0 k w (swN w i : Int) w (w.length : Int) (i : Int) = some (swN w w.length : Int)
  | 0, i, k, h, hk => by
    obtain ⟨k, rfl⟩ : ∃ m, k = m + 1 := ⟨k - 1, by omega⟩
    simp only [plan_Switches.l0]
    rw [if_neg (by omega)]
    obtain rfl : i = w.length := by omega
    rfl
  | d + 1, i, k, h, hk => by
    obtain ⟨k, rfl⟩ : ∃ m, k = m + 1 := ⟨k - 1, by omega⟩
    have ih := sw_loop hw d (i + 1) k (by omega) (by omega)
    have hm : (i + w.length - 1) % w.length < w.length := Nat.mod_lt _ (by omega)
    have hs := swN_le w i
    simp only [plan_Switches.l0]
    rw [if_pos (by omega), if_pos (by omega), if_pos (by omega), if_neg (by omega), back_ix hw (by omega), if_pos (by omega), if_pos (by omega), wsucc (by omega), wsucc (by omega), rd_nat, rd_nat]
    simp only [swN] at ih
    split
    · rename_i hc; rw [if_pos hc] at ih; exact ih
    · rename_i hc; rw [if_neg hc] at ih; exact ih
theorem sw_is {w : List Int} (hw : w.length ≤ 1000) (k : Nat) (hk : w.length + 1 ≤ k) : plan_Switches.f k w = some (swN w w.length : Int) :=
  sw_loop hw w.length 0 k (by omega) hk
-- how far an owner's ticks lie apart
/-- No tick of an owner among k from s on, going round. -/
def Free (w : List Int) (id : Int) (s k : Nat) : Prop := ∀ j, j < k → w.getD ((s + j) % w.length) 0 ≠ id
/-- The longest such row that begins at one of the first m ticks. -/
def Far (w : List Int) (id : Int) (m far : Nat) : Prop := (∀ s k, s < m → k ≤ w.length → Free w id s k → k ≤ far) ∧ (far = 0 ∨ ∃ s, s < m ∧ far ≤ w.length ∧ Free w id s far)
theorem Far.uniq {w : List Int} {id : Int} {m a b : Nat} (h : Far w id m a) (g : Far w id m b) : a = b := by
  have h1 : a ≤ b := by
    rcases h.2 with e | ⟨s, hs, hl, hf⟩
    · omega
    · exact g.1 s a hs hl hf
  have h2 : b ≤ a := by
    rcases g.2 with e | ⟨s, hs, hl, hf⟩
    · omega
    · exact h.1 s b hs hl hf
  omega
theorem Far.zero (w : List Int) (id : Int) : Far w id 0 0 := ⟨fun s k h => by omega, .inl rfl⟩
theorem Far.step {w : List Int} {id : Int} {m far k : Nat} (h : Far w id m far) (hk : k ≤ w.length) (hf : Free w id m k) (hend : k = w.length ∨ w.getD ((m + k) % w.length) 0 = id) : Far w id (m + 1) (max far k) := by
  refine ⟨fun s q hs hq hfr => ?_, ?_⟩
  · by_cases e : s < m
    · have := h.1 s q e hq hfr; omega
    · obtain rfl : s = m := by omega
      rcases hend with h1 | h1
      · omega
      · rcases Nat.lt_or_ge k q with h2 | h2
        · exact absurd h1 (hfr k h2)
        · omega
  · rcases Nat.le_total far k with h1 | h1
    · rw [Nat.max_eq_right h1]; exact .inr ⟨m, by omega, hk, hf⟩
    · rw [Nat.max_eq_left h1]
      rcases h.2 with e | ⟨s, hs, hl, hfr⟩
      · exact .inl e
      · exact .inr ⟨s, by omega, hl, hfr⟩
theorem ix_loop {w : List Int} {id : Int} (hw : w.length ≤ 1000) : ∀ (d i k : Nat), i + d = w.length → d + 1 ≤ k → (∀ j, j < i → w.getD j 0 ≠ id) →
    (slices_Index_int_int.l0 k w id (w.length : Int) (i : Int) = some (-1) ∧ ∀ j, j < w.length → w.getD j 0 ≠ id) ∨ ∃ p : Nat, slices_Index_int_int.l0 k w id (w.length : Int) (i : Int) = some (p : Int) ∧ p < w.length ∧ w.getD p 0 = id
  | 0, i, k, h, hk, hn => by
    obtain ⟨k, rfl⟩ : ∃ m, k = m + 1 := ⟨k - 1, by omega⟩
    simp only [slices_Index_int_int.l0]
    rw [if_neg (by omega)]
    exact .inl ⟨rfl, fun j hj => hn j (by omega)⟩
  | d + 1, i, k, h, hk, hn => by
    obtain ⟨k, rfl⟩ : ∃ m, k = m + 1 := ⟨k - 1, by omega⟩
    simp only [slices_Index_int_int.l0]
    rw [if_pos (by omega), if_pos (by omega), if_pos (by omega), wsucc (by omega), rd_nat]
    by_cases c : id = w.getD i 0
    · rw [if_pos c]; exact .inr ⟨i, rfl, by omega, c.symm⟩
    · rw [if_neg c]
      refine ix_loop hw d (i + 1) k (by omega) (by omega) (fun j hj => ?_)
      by_cases e : j < i
      · exact hn j e
      · obtain rfl : j = i := by omega
        exact fun h => c h.symm
/-- The state of Spread's loop: how long, and how long now. -/
structure Sp (w : List Int) (id : Int) (p i L now : Nat) : Prop where
  nowi : now ≤ i
  li : L ≤ i
  le : now ≤ L
  free : ∀ j, j < now → w.getD ((p + 1 + (i - 1 - j)) % w.length) 0 ≠ id
  most : ∀ a k, a + k ≤ i → (∀ j, j < k → w.getD ((p + 1 + (a + j)) % w.length) 0 ≠ id) → k ≤ L ∧ (a + k = i → k ≤ now)
  is : L = 0 ∨ ∃ a, a + L ≤ i ∧ ∀ j, j < L → w.getD ((p + 1 + (a + j)) % w.length) 0 ≠ id
theorem Sp.zero (w : List Int) (id : Int) (p : Nat) : Sp w id p 0 0 0 :=
  ⟨Nat.le_refl _, Nat.le_refl _, Nat.le_refl _, fun j h => by omega, fun a k h _ => ⟨by omega, fun _ => by omega⟩, .inl rfl⟩
theorem Sp.hit {w : List Int} {id : Int} {p i L now : Nat} (h : Sp w id p i L now) (c : w.getD ((p + 1 + i) % w.length) 0 = id) : Sp w id p (i + 1) L 0 := by
  refine ⟨by omega, by have := h.li; omega, by omega, fun j hj => by omega, fun a k ha hf => ?_, ?_⟩
  · by_cases e : a + k ≤ i
    · exact ⟨(h.most a k e hf).1, fun h2 => by omega⟩
    · have e2 : a + k = i + 1 := by omega
      rcases Nat.eq_zero_or_pos k with hk | hk
      · exact ⟨by omega, fun _ => by omega⟩
      · exfalso
        have := hf (k - 1) (by omega)
        rw [show a + (k - 1) = i by omega] at this
        exact this c
  · rcases h.is with e | ⟨a, ha, hf⟩
    · exact .inl e
    · exact .inr ⟨a, by omega, hf⟩
theorem Sp.miss {w : List Int} {id : Int} {p i L now : Nat} (h : Sp w id p i L now) (c : w.getD ((p + 1 + i) % w.length) 0 ≠ id) : Sp w id p (i + 1) (max L (now + 1)) (now + 1) := by
  have h1 := h.nowi
  have h2 := h.li
  have h3 := h.le
  have hfr : ∀ j, j < now + 1 → w.getD ((p + 1 + (i + 1 - 1 - j)) % w.length) 0 ≠ id := by
    intro j hj
    rcases Nat.eq_zero_or_pos j with e | e
    · subst e; exact c
    · have := h.free (j - 1) (by omega)
      rwa [show i - 1 - (j - 1) = i + 1 - 1 - j by omega] at this
  refine ⟨by omega, by omega, by omega, hfr, fun a k ha hf => ?_, ?_⟩
  · by_cases e : a + k ≤ i
    · have := (h.most a k e hf).1
      exact ⟨by omega, fun h2 => by omega⟩
    · have e2 : a + k = i + 1 := by omega
      rcases Nat.eq_zero_or_pos k with hk | hk
      · exact ⟨by omega, fun _ => by omega⟩
      · have := (h.most a (k - 1) (by omega) (fun j hj => hf j (by omega))).2 (by omega)
        exact ⟨by omega, fun _ => by omega⟩
  · rcases Nat.le_total L (now + 1) with e | e
    · rw [Nat.max_eq_right e]
      refine .inr ⟨i - now, by omega, fun j hj => ?_⟩
      have := hfr (now - j) (by omega)
      rwa [show i + 1 - 1 - (now - j) = i - now + j by omega] at this
    · rw [Nat.max_eq_left e]
      rcases h.is with e3 | ⟨a, ha, hf⟩
      · exact .inl e3
      · exact .inr ⟨a, by omega, hf⟩
theorem sp_loop {w : List Int} {id : Int} (hw : w.length ≤ 1000) (p : Nat) (hp : p < w.length) : ∀ (d i k L now : Nat), i + d = w.length → d + 1 ≤ k → Sp w id p i L now →
    ∃ L2 now2 : Nat, plan_Spread.l0 k w id (p : Int) (L : Int) (now : Int) (w.length : Int) (i : Int) = some (L2 : Int) ∧ Sp w id p w.length L2 now2
  | 0, i, k, L, now, h, hk, hs => by
    obtain ⟨k, rfl⟩ : ∃ m, k = m + 1 := ⟨k - 1, by omega⟩
    simp only [plan_Spread.l0]
    rw [if_neg (by omega)]
    obtain rfl : i = w.length := by omega
    exact ⟨L, now, rfl, hs⟩
  | d + 1, i, k, L, now, h, hk, hs => by
    obtain ⟨k, rfl⟩ : ∃ m, k = m + 1 := ⟨k - 1, by omega⟩
    have hm : (p + 1 + i) % w.length < w.length := Nat.mod_lt _ (by omega)
    have e1 : Int.tmod (wrap64 (wrap64 ((p : Int) + 1) + (i : Int))) (w.length : Int) = (((p + 1 + i) % w.length : Nat) : Int) := by
      rw [wsucc (by omega)]
      have e : wrap64 (((p + 1 : Nat) : Int) + (i : Int)) = ((p + 1 + i : Nat) : Int) := by unfold wrap64; omega
      rw [e, Int.tmod_eq_emod_of_nonneg (by omega)]
      omega
    have h1 := hs.nowi
    simp only [plan_Spread.l0]
    rw [if_pos (by omega), if_neg (by omega), e1, if_pos (by omega), if_pos (by omega), wsucc (show i < _ by omega), wsucc (show now < _ by omega), rd_nat]
    by_cases c : w.getD ((p + 1 + i) % w.length) 0 = id
    · rw [if_pos c]
      exact sp_loop hw p hp d (i + 1) k L 0 (by omega) (by omega) (hs.hit c)
    · rw [if_neg c]
      have e2 : mx (L : Int) ((now + 1 : Nat) : Int) = ((max L (now + 1) : Nat) : Int) := by unfold mx; omega
      rw [e2]
      exact sp_loop hw p hp d (i + 1) k (max L (now + 1)) (now + 1) (by omega) (by omega) (hs.miss c)
theorem mod_sub {n p s : Nat} (hp : p < n) (hs : s < n) : ∃ a, a < n ∧ (p + 1 + a) % n = s := by
  by_cases h : p + 1 ≤ s
  · exact ⟨s - (p + 1), by omega, by rw [show p + 1 + (s - (p + 1)) = s by omega]; exact Nat.mod_eq_of_lt hs⟩
  · exact ⟨s + n - (p + 1), by omega, by rw [show p + 1 + (s + n - (p + 1)) = s + n by omega, Nat.add_mod_right]; exact Nat.mod_eq_of_lt hs⟩
theorem sp_far {w : List Int} {id : Int} {p L now : Nat} (hp : p < w.length) (hid : w.getD p 0 = id) (h : Sp w id p w.length L now) : Far w id w.length L := by
  refine ⟨fun s k hs hk hf => ?_, ?_⟩
  · obtain ⟨a, ha, he⟩ := mod_sub hp hs
    have e : ∀ j, (p + 1 + (a + j)) % w.length = (s + j) % w.length := by
      intro j
      rw [show p + 1 + (a + j) = (p + 1 + a) + j by omega, Nat.add_mod, he, ← Nat.mod_eq_of_lt hs, ← Nat.add_mod, Nat.mod_eq_of_lt hs]
    have hle : a + k ≤ w.length := by
      rcases Nat.lt_or_ge w.length (a + k) with h1 | h1
      · exfalso
        have h2 := hf (w.length - 1 - a) (by omega)
        rw [← e, show p + 1 + (a + (w.length - 1 - a)) = p + w.length by omega, Nat.add_mod_right, Nat.mod_eq_of_lt hp] at h2
        exact h2 hid
      · exact h1
    exact (h.most a k hle (fun j hj => by rw [e]; exact hf j hj)).1
  · rcases h.is with e | ⟨a, ha, hf⟩
    · exact .inl e
    · refine .inr ⟨(p + 1 + a) % w.length, Nat.mod_lt _ (by omega), by omega, fun j hj => ?_⟩
      have := hf j hj
      rwa [show p + 1 + (a + j) = (p + 1 + a) + j by omega, Nat.add_mod, Nat.mod_eq_of_lt (show j < w.length by omega)] at this
        <;> skip
theorem spread_is {w : List Int} {id : Int} (hw : w.length ≤ 1000) (k : Nat) (hk : w.length + 1 ≤ k) : ∃ L : Nat, plan_Spread.f k w id = some (L : Int) ∧ Far w id w.length L := by
  unfold plan_Spread.f slices_Index_int_int.f
  rcases ix_loop (id := id) hw w.length 0 k (by omega) hk (fun j h => by omega) with ⟨h1, h2⟩ | ⟨p, h1, hp, hid⟩
  · rw [show ((0 : Nat) : Int) = 0 from rfl] at h1
    rw [h1]
    refine ⟨w.length, rfl, fun s q hs hq hf => hq, ?_⟩
    rcases Nat.eq_zero_or_pos w.length with e | e
    · exact .inl e
    · exact .inr ⟨0, e, Nat.le_refl _, fun j hj => h2 _ (Nat.mod_lt _ e)⟩
  · rw [show ((0 : Nat) : Int) = 0 from rfl] at h1
    rw [h1]
    simp only [Option.bind_some]
    rw [if_neg (by omega)]
    obtain ⟨L, now, hl, hs⟩ := sp_loop hw p hp w.length 0 k 0 0 (by omega) hk (Sp.zero w id p)
    exact ⟨L, hl, sp_far hp hid hs⟩
end Go.Proofs.Ytnniejaknnpcjaa.PlW
