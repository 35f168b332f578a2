/- A schedule in plain words: whether it is right, whose each tick is, what is wrong with a window; and the runs that its windows make. -/
import Derived.Test.YtnpjbdaaoknkbaaYTabA
import Derived.Test.YtnpjbdaaoknkbaaYQ1
namespace Go.Proofs.Ytnpjbdaaoknkbaa.Tab
open Go.RowKit Go.Proofs.YtnpjbdaaoknkbaaW.PrintWords Go.Proofs.YtnpjbdaaoknkbaaW.PrintLast Go.Proofs.YtnpjbdaaoknkbaaW.PrintMore Go.Proofs.Ytnpjbdaaoknkbaa.PTableFrames
set_option linter.unusedVariables false
set_option linter.unusedSimpArgs false
/-- A schedule, its windows and its needs. -/
structure S46 where
 f0 : Int
 f1 : Int
 f2 : List S30
 f3 : List S87
theorem dropD {α : Type} (l : List α) (z : α) (i : Nat) (h : i < l.length) : l.drop i = l.getD (i : Int).toNat z :: l.drop (i + 1) := by
 rw [Int.toNat_natCast, List.drop_eq_getElem_cons h, List.getD_eq_getElem?_getD, List.getElem?_eq_getElem h]; rfl
theorem memD {α : Type} (l : List α) (z : α) (i : Nat) (h : i < l.length) : l.getD (i : Int).toNat z ∈ l := by
 rw [Int.toNat_natCast, List.getD_eq_getElem?_getD, List.getElem?_eq_getElem h]; exact List.getElem_mem h
def Small {α : Type} (l : List α) : Prop := l.length ≤ 9223372036854775807
theorem in09 (a b c : Int) : countwheelref09_in.f a b c = some (decide (b ≤ a ∧ a ≤ c)) := by
 unfold countwheelref09_in.f
 split
 ·rename_i h; congr 1; rw [decide_eq_decide]; omega
 ·congr 1; symm; rw [decide_eq_false_iff_not]; omega
def WinIn (w : S30) : Prop := 0 ≤ w.f0 ∧ w.f0 ≤ 255 ∧ 0 ≤ w.f1 ∧ w.f1 ≤ 1048576 ∧ 0 ≤ w.f2 ∧ w.f2 ≤ 1048576
def NeedIn (w : S87) : Prop := 0 ≤ w.f0 ∧ w.f0 ≤ 255 ∧ 0 ≤ w.f1 ∧ w.f1 ≤ 1048576 ∧ 0 ≤ w.f2 ∧ w.f2 ≤ 1048576
structure SchedIn (s : S46) : Prop where
 id0 : 0 ≤ s.f0
 id1 : s.f0 ≤ 255
 fr0 : 1 ≤ s.f1
 fr1 : s.f1 ≤ 1048576
 ws : s.f2.length ≤ 256
 ns : s.f3.length ≤ 32
 win : ∀ w ∈ s.f2, WinIn w
 need : ∀ n ∈ s.f3, NeedIn n
theorem right_l1 {a b : Int} {ws : List S30} {ns : List S87} (hn : Small ns) : ∀ (d i k : Nat), i + d = ns.length → d + 1 ≤ k →
  ∃ r, countwheelref09_Right.l1 k (i : Int) a b ws ns = some r ∧ (r = 0 → ∀ n ∈ ns.drop i, NeedIn n)
 | 0, i, k, h, hk => by
  obtain ⟨k, rfl⟩ : ∃ m, k = m + 1 := ⟨k - 1, by omega⟩
  simp only [countwheelref09_Right.l1]
  rw [if_neg (by omega)]
  exact ⟨_, rfl, fun _ n hn => by rw [List.drop_of_length_le (by omega)] at hn; cases hn⟩
 | d + 1, i, k, h, hk => by
  have hs2 := hn
  unfold Small at hs2
  obtain ⟨k, rfl⟩ : ∃ m, k = m + 1 := ⟨k - 1, by omega⟩
  simp only [countwheelref09_Right.l1, in09, Option.bind_some, decide_eq_true_eq]
  rw [if_pos (by omega), if_pos (by omega), wsucc (by omega)]
  obtain ⟨r, hr, hg⟩ := right_l1 (a := a) (b := b) (ws := ws) hn d (i + 1) k (by omega) (by omega)
  split
  ·split
   ·split
    ·refine ⟨r, hr, fun h0 n hn => ?_⟩
     rw [dropD ns z87 i (by omega)] at hn
     rcases List.mem_cons.1 hn with rfl | hn
     ·unfold NeedIn; simp only [rd_T87] at *; omega
     ·exact hg h0 n hn
    ·exact ⟨_, rfl, fun h => by omega⟩
   ·exact ⟨_, rfl, fun h => by omega⟩
  ·exact ⟨_, rfl, fun h => by omega⟩
theorem right_l0 {a b : Int} {ws : List S30} {ns : List S87} (hw : Small ws) (hn : Small ns) : ∀ (d i k : Nat), i + d = ws.length → d + ns.length + 2 ≤ k →
  ∃ r, countwheelref09_Right.l0 k (i : Int) a b ws ns = some r ∧ (r = 0 → (∀ w ∈ ws.drop i, WinIn w) ∧ ns.length ≤ 32 ∧ ∀ n ∈ ns, NeedIn n)
 | 0, i, k, h, hk => by
  obtain ⟨k, rfl⟩ : ∃ m, k = m + 1 := ⟨k - 1, by omega⟩
  simp only [countwheelref09_Right.l0]
  rw [if_neg (by omega)]
  split
  ·exact ⟨_, rfl, fun h => by omega⟩
  ·obtain ⟨r, hr, hg⟩ := right_l1 (a := a) (b := b) (ws := ws) hn ns.length 0 k (by omega) (by omega)
   exact ⟨r, hr, fun h0 => ⟨(fun n hn => by rw [List.drop_of_length_le (by omega)] at hn; cases hn), by omega, by simpa using hg h0⟩⟩
 | d + 1, i, k, h, hk => by
  have hs2 := hw
  unfold Small at hs2
  obtain ⟨k, rfl⟩ : ∃ m, k = m + 1 := ⟨k - 1, by omega⟩
  simp only [countwheelref09_Right.l0, in09, Option.bind_some, decide_eq_true_eq]
  rw [if_pos (by omega), if_pos (by omega), wsucc (by omega)]
  obtain ⟨r, hr, hg⟩ := right_l0 (a := a) (b := b) hw hn d (i + 1) k (by omega) (by omega)
  split
  ·split
   ·split
    ·refine ⟨r, hr, fun h0 => ⟨fun n hn => ?_, (hg h0).2⟩⟩
     rw [dropD ws z30 i (by omega)] at hn
     rcases List.mem_cons.1 hn with rfl | hn
     ·unfold WinIn; simp only [rd_T30] at *; omega
     ·exact (hg h0).1 n hn
    ·exact ⟨_, rfl, fun h => by omega⟩
   ·exact ⟨_, rfl, fun h => by omega⟩
  ·exact ⟨_, rfl, fun h => by omega⟩
theorem right_is (s : S46) (hw : Small s.f2) (hn : Small s.f3) (k : Nat) (hk : s.f2.length + s.f3.length + 3 ≤ k) : ∃ r, countwheelref09_Right.f k s.f0 s.f1 s.f2 s.f3 = some r ∧ (r = 0 → SchedIn s) := by
 obtain ⟨k, rfl⟩ : ∃ m, k = m + 1 := ⟨k - 1, by omega⟩
 simp only [countwheelref09_Right.f, in09, Option.bind_some, decide_eq_true_eq, countwheelref09_Right.j0]
 obtain ⟨r, hr, hg⟩ := right_l0 (a := s.f0) (b := s.f1) hw hn s.f2.length 0 k (by omega) (by omega)
 split
 ·split
  ·exact ⟨_, rfl, fun h => by omega⟩
  ·rename_i h1 h2
   have h3 : 1 ≤ s.f1 ∧ s.f1 ≤ 1048576 := by
    by_cases h : 1 ≤ s.f1 ∧ s.f1 ≤ 1048576
    ·exact h
    ·exact absurd (by simp [h]) h2
   split
   ·exact ⟨_, rfl, fun h => by omega⟩
   ·refine ⟨r, hr, fun h0 => ?_⟩
    obtain ⟨g1, g2, g3⟩ := hg h0
    exact ⟨h1.1, h1.2, h3.1, h3.2, by omega, g2, by simpa using g1, g3⟩
 ·exact ⟨_, rfl, fun h => by simp at h⟩
/-- Whose a tick is, by windows. -/
def ownW : List S30 → Int → Int
 | [], _ => -1
 | w :: r, t => if w.f1 ≤ t ∧ t < wrap64 (w.f1 + w.f2) then w.f0 else ownW r t
theorem owner_loop {a fr t : Int} {ws : List S30} {ns : List S87} (hw : Small ws) : ∀ (d i k : Nat), i + d = ws.length → d + 1 ≤ k → countwheelref13_Owner.l0 k t (i : Int) a fr ws ns = some (ownW (ws.drop i) t)
 | 0, i, k, h, hk => by
  obtain ⟨k, rfl⟩ : ∃ m, k = m + 1 := ⟨k - 1, by omega⟩
  simp only [countwheelref13_Owner.l0]
  rw [if_neg (by omega), List.drop_of_length_le (by omega)]; rfl
 | d + 1, i, k, h, hk => by
  have hs2 := hw
  unfold Small at hs2
  obtain ⟨k, rfl⟩ : ∃ m, k = m + 1 := ⟨k - 1, by omega⟩
  simp only [countwheelref13_Owner.l0]
  rw [if_pos (by omega), if_pos (by omega), wsucc (by omega), owner_loop hw d (i + 1) k (by omega) (by omega), dropD ws z30 i (by omega)]
  unfold rd_T30
  rw [Int.toNat_natCast]
  show _ = some (if _ then _ else _)
  by_cases c1 : (ws.getD i z30).f1 ≤ t
  ·rw [if_pos c1]
   by_cases c2 : t < wrap64 ((ws.getD i z30).f1 + (ws.getD i z30).f2)
   ·rw [if_pos c2, if_pos ⟨c1, c2⟩]
   ·rw [if_neg c2, if_neg (fun h => c2 h.2)]
  ·rw [if_neg (by omega), if_neg (fun h => c1 h.1)]
theorem owner_is {a fr t : Int} {ws : List S30} {ns : List S87} (hw : Small ws) (k : Nat) (hk : ws.length + 2 ≤ k) : countwheelref13_Owner.f k a fr ws ns t = some (if t < 0 ∨ fr ≤ t then -1 else ownW ws t) := by
 obtain ⟨k, rfl⟩ : ∃ m, k = m + 1 := ⟨k - 1, by omega⟩
 simp only [countwheelref13_Owner.f, countwheelref13_Owner.j0, decide_eq_true_eq]
 by_cases c1 : t < 0
 ·simp only [c1, if_true, true_or]
 ·rw [if_neg c1]
  by_cases c2 : t ≥ fr
  ·have c3 : fr ≤ t := c2
   simp only [c2, if_true, c3, or_true]
  ·rw [if_neg c2, if_neg (by omega)]
   have := owner_loop (a := a) (fr := fr) (t := t) (ns := ns) hw ws.length 0 k (by omega) (by omega)
   simpa using this
theorem index_l0 (l : List Int) (a : Int) (hl : Small l) : ∀ (d i k : Nat), i + d = l.length → d + 1 ≤ k → ∃ r : Int, slices_Index_int_int.l0 k l a (l.length : Int) (i : Int) = some r
 | 0, i, k, h, hk => by
  obtain ⟨k, rfl⟩ : ∃ m, k = m + 1 := ⟨k - 1, by omega⟩
  simp only [slices_Index_int_int.l0]
  rw [if_neg (by omega)]
  exact ⟨_, rfl⟩
 | d + 1, i, k, h, hk => by
  unfold Small at hl
  obtain ⟨k, rfl⟩ : ∃ m, k = m + 1 := ⟨k - 1, by omega⟩
  simp only [slices_Index_int_int.l0]
  rw [if_pos (by omega), if_pos (by omega), if_pos (by omega)]
  split
  ·exact ⟨_, rfl⟩
  ·rw [wsucc (by omega)]
   exact index_l0 l a hl d (i + 1) k (by omega) (by omega)
theorem contains_is (l : List Int) (a : Int) (hl : Small l) (k : Nat) (hk : l.length + 1 ≤ k) : ∃ b, slices_Contains_int_int.f k l a = some b := by
 obtain ⟨r, h⟩ := index_l0 l a hl l.length 0 k (by omega) hk
 refine ⟨decide (r ≥ 0), ?_⟩
 unfold slices_Contains_int_int.f slices_Index_int_int.f
 rw [show ((0 : Nat) : Int) = 0 from rfl] at h
 rw [h]; rfl
/-- What is told of a window that is right behind the one ahead of it. -/
def Fit (fr a b : Int) (p q : Int) : Prop := 1 ≤ b ∧ 0 ≤ a ∧ a ≤ fr ∧ b ≤ wrap64 (fr - a) ∧ p ≤ a ∧ wrap64 (p + q) ≤ a
theorem wrong_j (k : Nat) (ids : List Int) (hk : ids.length + 1 ≤ k) (hl : Small ids) (id fr : Int) (ws : List S30) (ns : List S87) (v a b u p q : Int) :
  ∃ r, window_wrong.j0 (k + 1) ids id fr ws ns v a b u p q = some r ∧ (r = 0 → Fit fr a b p q) ∧ (r = 0 ∨ r = 9 ∨ r = 10 ∨ r = 11 ∨ r = 12) := by
 obtain ⟨c, hc⟩ := contains_is ids v hl k hk
 simp only [window_wrong.j0]
 rw [hc, Option.bind_some]
 cases c
 ·exact ⟨10, rfl, fun h => by omega, by omega⟩
 ·rw [if_pos rfl]
  unfold window_fits.f
  by_cases c1 : b > 0
  ·rw [if_pos c1]
   by_cases c2 : a ≥ 0
   ·rw [if_pos c2]
    by_cases c3 : a ≤ fr
    ·rw [if_pos c3, Option.bind_some]
     by_cases c4 : b ≤ wrap64 (fr - a)
     ·rw [if_pos (decide_eq_true c4)]
      by_cases c5 : a < p
      ·rw [if_pos c5]; exact ⟨_, rfl, fun h => by omega, by omega⟩
      ·rw [if_neg c5]
       by_cases c6 : a < wrap64 (p + q)
       ·rw [if_pos c6]; exact ⟨_, rfl, fun h => by omega, by omega⟩
       ·rw [if_neg c6]; exact ⟨_, rfl, fun _ => ⟨by omega, c2, c3, c4, by omega, by omega⟩, by omega⟩
     ·rw [decide_eq_false c4]; exact ⟨_, rfl, fun h => by omega, by omega⟩
    ·rw [if_neg c3, Option.bind_some]; exact ⟨_, rfl, fun h => by omega, by omega⟩
   ·rw [if_neg c2, Option.bind_some]; exact ⟨_, rfl, fun h => by omega, by omega⟩
  ·rw [if_neg c1, Option.bind_some]; exact ⟨_, rfl, fun h => by omega, by omega⟩
/-- The end of the window ahead; nought ahead of the first. -/
def endB (ws : List S30) (i : Nat) : Int := if i = 0 then 0 else (ws.getD (i - 1) z30).f1 + (ws.getD (i - 1) z30).f2
/-- A window that is right. -/
def OkW (fr : Int) (ws : List S30) (i : Nat) : Prop := 1 ≤ (ws.getD i z30).f2 ∧ endB ws i ≤ (ws.getD i z30).f1 ∧ (ws.getD i z30).f1 + (ws.getD i z30).f2 ≤ fr
theorem wrong_is (id fr : Int) (ws : List S30) (ns : List S87) (ids : List Int) (hl : Small ids) (hf0 : 0 ≤ fr) (hf : fr ≤ 4000000) (hw : ws.length ≤ 100000) (i : Nat) (hi : i < ws.length) (hp : ∀ j : Nat, j < i → OkW fr ws j) (h0 : ∀ j : Nat, j < ws.length → 0 ≤ (ws.getD j z30).f1) (k : Nat) (hk : ids.length + 2 ≤ k) :
  ∃ r, window_wrong.f k id fr ws ns (i : Int) ids = some r ∧ (r = 0 → OkW fr ws i) ∧ (r = 0 ∨ r = 9 ∨ r = 10 ∨ r = 11 ∨ r = 12) := by
 obtain ⟨k, rfl⟩ : ∃ m, k = m + 1 := ⟨k - 1, by omega⟩
 unfold window_wrong.f
 rw [if_pos (by omega), if_pos (by omega)]
 have e : rd_T30 ws (i : Int) = ws.getD i z30 := by unfold rd_T30; rw [Int.toNat_natCast]
 have fin : ∀ (u p q : Int), 0 ≤ p → 0 ≤ q → p + q = endB ws i → p + q ≤ 4000000 → ∃ r, window_wrong.j0 (k + 1) ids id fr ws ns (rd_T30 ws (i : Int)).f0 (rd_T30 ws (i : Int)).f1 (rd_T30 ws (i : Int)).f2 u p q = some r ∧ (r = 0 → OkW fr ws i) ∧ (r = 0 ∨ r = 9 ∨ r = 10 ∨ r = 11 ∨ r = 12) := by
  intro u p q hp0 hq0 hpe hpl
  obtain ⟨r, h1, h2, h3⟩ := wrong_j k ids (by omega) hl id fr ws ns (rd_T30 ws (i : Int)).f0 (rd_T30 ws (i : Int)).f1 (rd_T30 ws (i : Int)).f2 u p q
  refine ⟨r, h1, fun hr => ?_, h3⟩
  obtain ⟨a1, a2, a3, a4, a5, a6⟩ := h2 hr
  rw [e] at a1 a2 a3 a4 a5 a6
  have e1 : wrap64 (fr - (ws.getD i z30).f1) = fr - (ws.getD i z30).f1 := by unfold wrap64; omega
  have e2 : wrap64 (p + q) = p + q := by unfold wrap64; omega
  rw [e1] at a4
  rw [e2, hpe] at a6
  exact ⟨a1, a6, by omega⟩
 by_cases hi0 : (i : Int) > 0
 ·obtain ⟨g1, g2, g3⟩ := hp (i - 1) (by omega)
  have g4 := h0 (i - 1) (by omega)
  have hw1 : wrap64 ((i : Int) - 1) = ((i - 1 : Nat) : Int) := by unfold wrap64; omega
  have e3 : rd_T30 ws ((i - 1 : Nat) : Int) = ws.getD (i - 1) z30 := by unfold rd_T30; rw [Int.toNat_natCast]
  rw [if_pos hi0, hw1, if_pos (by omega), if_pos (by omega), e3]
  exact fin _ _ _ g4 (by omega) (by unfold endB; rw [if_neg (by omega)]) (by omega)
 ·rw [if_neg hi0]
  exact fin _ _ _ (Int.le_refl _) (Int.le_refl _) (by unfold endB; rw [if_pos (by omega)]; rfl) (by omega)
/-- The runs that the first windows make. -/
def mkR (ws : List S30) : Nat → List S44
 | 0 => []
 | k + 1 => grw (grw (mkR ws k) (-1) (endB ws k) ((ws.getD k z30).f1 - endB ws k)) (ws.getD k z30).f0 (ws.getD k z30).f1 (ws.getD k z30).f2
/-- All of them. -/
def allR (fr : Int) (ws : List S30) : List S44 := grw (mkR ws ws.length) (-1) (endB ws ws.length) (fr - endB ws ws.length)
theorem endB_succ (ws : List S30) (k : Nat) : endB ws (k + 1) = (ws.getD k z30).f1 + (ws.getD k z30).f2 := by unfold endB; rw [if_neg (by omega), Nat.add_sub_cancel]
theorem endB_le {fr : Int} {ws : List S30} (hok : ∀ j : Nat, j < ws.length → OkW fr ws j) (hf : 0 ≤ fr) : ∀ k : Nat, k ≤ ws.length → 0 ≤ endB ws k ∧ endB ws k ≤ fr
 | 0, _ => by unfold endB; rw [if_pos rfl]; omega
 | k + 1, h => by
  have h1 := endB_le hok hf k (by omega)
  obtain ⟨a, b, c⟩ := hok k (by omega)
  rw [endB_succ]; omega
theorem ownW_skip {fr : Int} {ws : List S30} (hok : ∀ j : Nat, j < ws.length → OkW fr ws j) (hf : 0 ≤ fr) (hf2 : fr ≤ 4000000) {k : Nat} (hk : k ≤ ws.length) (t : Int) (ht : endB ws k ≤ t) : ∀ i : Nat, i ≤ k → ownW (ws.drop i) t = ownW (ws.drop k) t := by
 intro i hi
 induction k with
 | zero =>
  obtain rfl : i = 0 := by omega
  rfl
 | succ k ih =>
  have hb := endB_le hok hf k (by omega)
  obtain ⟨a, b, c⟩ := hok k (by omega)
  rw [endB_succ] at ht
  rcases Nat.lt_or_ge i (k + 1) with h1 | h1
  ·rw [ih (by omega) (by omega) (by omega), dropD ws z30 k (by omega)]
   show (if _ then _ else _) = _
   have e : wrap64 ((ws.getD (k : Int).toNat z30).f1 + (ws.getD (k : Int).toNat z30).f2) = (ws.getD k z30).f1 + (ws.getD k z30).f2 := by rw [Int.toNat_natCast]; unfold wrap64; omega
   rw [e, if_neg (by omega)]
  ·obtain rfl : i = k + 1 := by omega
   rfl
theorem ownW_gap {fr : Int} {ws : List S30} (hok : ∀ j : Nat, j < ws.length → OkW fr ws j) (hf : 0 ≤ fr) (hf2 : fr ≤ 4000000) : ∀ (d k : Nat), k + d = ws.length → ∀ t : Int, (k < ws.length → t < (ws.getD k z30).f1) → ownW (ws.drop k) t = -1
 | 0, k, h, t, ht => by rw [List.drop_of_length_le (by omega)]; rfl
 | d + 1, k, h, t, ht => by
  have h1 := ht (by omega)
  rw [dropD ws z30 k (by omega)]
  show (if _ then _ else _) = _
  rw [Int.toNat_natCast, if_neg (by omega)]
  refine ownW_gap hok hf hf2 d (k + 1) (by omega) t (fun hk => ?_)
  obtain ⟨a, b, c⟩ := hok (k + 1) hk
  obtain ⟨a', b', c'⟩ := hok k (by omega)
  rw [endB_succ] at b
  omega
theorem mkH_is {fr : Int} {ws : List S30} (hok : ∀ j : Nat, j < ws.length → OkW fr ws j) (hf : 0 ≤ fr) (hf2 : fr ≤ 4000000) (k : Nat) (hk : k < ws.length) (h : Runs (ownW ws) (mkR ws k) (endB ws k)) :
  Runs (ownW ws) (grw (mkR ws k) (-1) (endB ws k) ((ws.getD k z30).f1 - endB ws k)) (ws.getD k z30).f1 := by
 obtain ⟨a, b, c⟩ := hok k hk
 have hb := endB_le hok hf k (by omega)
 have h1 := h.grow (-1) ((ws.getD k z30).f1 - endB ws k) (by omega) (fun t ht1 ht2 => by
  have := ownW_skip hok hf hf2 (k := k) (by omega) t ht1 0 (by omega)
  rw [List.drop_zero] at this
  rw [this]
  exact ownW_gap hok hf hf2 (ws.length - k) k (by omega) t (fun _ => by omega))
 rw [show endB ws k + ((ws.getD k z30).f1 - endB ws k) = (ws.getD k z30).f1 by omega] at h1
 exact h1
theorem mkR_is {fr : Int} {ws : List S30} (hok : ∀ j : Nat, j < ws.length → OkW fr ws j) (hf : 0 ≤ fr) (hf2 : fr ≤ 4000000) : ∀ k : Nat, k ≤ ws.length → Runs (ownW ws) (mkR ws k) (endB ws k)
 | 0, _ => by have h := Runs.nil (ownW ws); unfold endB mkR; rw [if_pos rfl]; exact h
 | k + 1, hk => by
  obtain ⟨a, b, c⟩ := hok k (by omega)
  have hb := endB_le hok hf k (by omega)
  have h2 := (mkH_is hok hf hf2 k hk (mkR_is hok hf hf2 k (by omega))).grow (ws.getD k z30).f0 (ws.getD k z30).f2 (by omega) (fun t ht1 ht2 => by
   have := ownW_skip hok hf hf2 (k := k) (by omega) t (by omega) 0 (by omega)
   rw [List.drop_zero] at this
   rw [this, dropD ws z30 k (by omega)]
   show (if _ then _ else _) = _
   have e : wrap64 ((ws.getD (k : Int).toNat z30).f1 + (ws.getD (k : Int).toNat z30).f2) = (ws.getD k z30).f1 + (ws.getD k z30).f2 := by rw [Int.toNat_natCast]; unfold wrap64; omega
   rw [e, Int.toNat_natCast, if_pos (by omega)])
  rw [endB_succ]
  exact h2
theorem Runs.bd {own : Int → Int} {rs : List S44} {at_ : Int} (h : Runs own rs at_) (ha : at_ ≤ 4000000) : ∀ r ∈ rs, 0 ≤ r.f2 ∧ r.f2 ≤ 4000000 := by
 intro r hr
 have h1 := h.pos r hr
 have h2 := h.low r hr
 omega
theorem allR_is {fr : Int} {ws : List S30} (hok : ∀ j : Nat, j < ws.length → OkW fr ws j) (hf : 0 ≤ fr) (hf2 : fr ≤ 4000000) : Runs (ownW ws) (allR fr ws) fr := by
 have h := mkR_is hok hf hf2 ws.length (Nat.le_refl _)
 have hb := endB_le hok hf ws.length (Nat.le_refl _)
 have h1 := h.grow (-1) (fr - endB ws ws.length) (by omega) (fun t ht1 ht2 => by
  have := ownW_skip hok hf hf2 (k := ws.length) (Nat.le_refl _) t ht1 0 (by omega)
  rw [List.drop_zero] at this
  rw [this, List.drop_length]; rfl)
 rw [show endB ws ws.length + (fr - endB ws ws.length) = fr by omega] at h1
 exact h1
theorem grw_len (rs : List S44) (id a b : Int) : (grw rs id a b).length ≤ rs.length + 1 := by
 unfold grw
 split
 ·omega
 ·rcases nil_or_app rs with rfl | ⟨q, r, rfl⟩
  ·simp
  ·rw [List.getLast?_concat]
   simp only
   split
   ·rw [List.dropLast_concat]; simp
   ·simp
theorem mkR_len (ws : List S30) : ∀ k, (mkR ws k).length ≤ 2 * k
 | 0 => by simp [mkR]
 | k + 1 => by
  have h1 := mkR_len ws k
  have h2 := grw_len (mkR ws k) (-1) (endB ws k) ((ws.getD k z30).f1 - endB ws k)
  have h3 := grw_len (grw (mkR ws k) (-1) (endB ws k) ((ws.getD k z30).f1 - endB ws k)) (ws.getD k z30).f0 (ws.getD k z30).f1 (ws.getD k z30).f2
  unfold mkR; omega
end Go.Proofs.Ytnpjbdaaoknkbaa.Tab
