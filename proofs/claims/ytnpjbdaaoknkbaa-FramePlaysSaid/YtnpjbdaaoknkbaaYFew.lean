/- Which schedules may be asked about, in plain words; of those table.New tells nothing wrong. -/
import Derived.Test.YtnpjbdaaoknkbaaYWfA
import Derived.Test.YtnpjbdaaoknkbaaYTabD
namespace Go.Proofs.Ytnpjbdaaoknkbaa.Frm
open Go.RowKit Go.Proofs.YtnpjbdaaoknkbaaW.PrintWords Go.Proofs.YtnpjbdaaoknkbaaW.PrintLast Go.Proofs.YtnpjbdaaoknkbaaW.PrintMore Go.Proofs.Ytnpjbdaaoknkbaa.PTableFrames
open Go.Proofs.Ytnpjbdaaoknkbaa.Tab (Small SchedIn S46 right_is wsucc OkW endB BadW dropD WinIn)
set_option linter.unusedVariables false
set_option linter.unusedSimpArgs false
/-- A window that is right, of an id that there is. -/
def ChkW (fr : Int) (ws : List S30) (ids : List Int) (i : Nat) : Prop := (ws.getD i z30).f0 ∈ ids ∧ OkW fr ws i
theorem in13_l0 (l : List Int) (a : Int) (hl : Small l) : ∀ (d i k : Nat), i + d = l.length → d + 1 ≤ k → countwheelref13_in.l0 k l a (i : Int) = some (decide (a ∈ l.drop i))
 | 0, i, k, h, hk => by
  obtain ⟨k, rfl⟩ : ∃ m, k = m + 1 := ⟨k - 1, by omega⟩
  simp only [countwheelref13_in.l0]
  rw [if_neg (by omega), List.drop_of_length_le (by omega)]
  simp
 | d + 1, i, k, h, hk => by
  unfold Small at hl
  obtain ⟨k, rfl⟩ : ∃ m, k = m + 1 := ⟨k - 1, by omega⟩
  simp only [countwheelref13_in.l0]
  rw [if_pos (by omega), if_pos (by omega), wsucc (by omega), in13_l0 l a hl d (i + 1) k (by omega) (by omega), dropD l 0 i (by omega)]
  unfold rd
  by_cases c : l.getD (i : Int).toNat 0 = a
  ·rw [if_pos c, decide_eq_true (List.mem_cons.2 (.inl c.symm))]
  ·rw [if_neg c]
   have c2 : ¬ a = l.getD (i : Int).toNat 0 := fun h => c h.symm
   simp only [List.mem_cons, c2, false_or]
theorem in13_is (l : List Int) (a : Int) (hl : Small l) (k : Nat) (hk : l.length + 1 ≤ k) : countwheelref13_in.f k l a = some (decide (a ∈ l)) := by
 have := in13_l0 l a hl l.length 0 k (by omega) hk
 simpa [countwheelref13_in.f] using this
theorem index_mem (l : List Int) (a : Int) (hl : Small l) : ∀ (d i k : Nat), i + d = l.length → d + 1 ≤ k → ∃ r : Int, slices_Index_int_int.l0 k l a (l.length : Int) (i : Int) = some r ∧ (a ∈ l.drop i → 0 ≤ r)
 | 0, i, k, h, hk => by
  obtain ⟨k, rfl⟩ : ∃ m, k = m + 1 := ⟨k - 1, by omega⟩
  simp only [slices_Index_int_int.l0]
  rw [if_neg (by omega)]
  exact ⟨_, rfl, fun hm => by rw [List.drop_of_length_le (by omega)] at hm; cases hm⟩
 | d + 1, i, k, h, hk => by
  have hl2 := hl
  unfold Small at hl2
  obtain ⟨k, rfl⟩ : ∃ m, k = m + 1 := ⟨k - 1, by omega⟩
  simp only [slices_Index_int_int.l0]
  rw [if_pos (by omega), if_pos (by omega), if_pos (by omega)]
  split
  ·exact ⟨_, rfl, fun _ => by omega⟩
  ·rename_i hne
   rw [wsucc (by omega)]
   obtain ⟨r, h1, h2⟩ := index_mem l a hl d (i + 1) k (by omega) (by omega)
   refine ⟨r, h1, fun hm => h2 ?_⟩
   rw [dropD l 0 i (by omega)] at hm
   rcases List.mem_cons.1 hm with e | e
   ·exact absurd e hne
   ·exact e
theorem contains_mem (l : List Int) (a : Int) (hl : Small l) (hm : a ∈ l) (k : Nat) (hk : l.length + 1 ≤ k) : slices_Contains_int_int.f k l a = some true := by
 obtain ⟨r, h1, h2⟩ := index_mem l a hl l.length 0 k (by omega) hk
 have h0 : 0 ≤ r := h2 (by simpa using hm)
 unfold slices_Contains_int_int.f slices_Index_int_int.f
 rw [show ((0 : Nat) : Int) = 0 from rfl] at h1
 rw [h1]
 show some (decide (r ≥ 0)) = _
 rw [decide_eq_true h0]
/-- Nothing is wrong with a window that is right. -/
theorem wrong_none (id fr : Int) (ws : List S30) (ns : List S87) (ids : List Int) (hl : Small ids) (hf0 : 0 ≤ fr) (hf : fr ≤ 4000000) (hw : ws.length ≤ 100000) (hok : ∀ j : Nat, j < ws.length → ChkW fr ws ids j) (h0 : ∀ j : Nat, j < ws.length → 0 ≤ (ws.getD j z30).f1) (i : Nat) (hi : i < ws.length) (k : Nat) (hk : ids.length + 2 ≤ k) :
  window_wrong.f k id fr ws ns (i : Int) ids = some 0 := by
 obtain ⟨k, rfl⟩ : ∃ m, k = m + 1 := ⟨k - 1, by omega⟩
 obtain ⟨hm, a1, a2, a3⟩ := hok i hi
 have g0 := h0 i hi
 have e : rd_T30 ws (i : Int) = ws.getD i z30 := by unfold rd_T30; rw [Int.toNat_natCast]
 have fin : ∀ (u p q : Int), 0 ≤ p → 0 ≤ q → p + q = endB ws i → window_wrong.j0 (k + 1) ids id fr ws ns (rd_T30 ws (i : Int)).f0 (rd_T30 ws (i : Int)).f1 (rd_T30 ws (i : Int)).f2 u p q = some 0 := by
  intro u p q hp hq hpe
  simp only [window_wrong.j0]
  rw [e, contains_mem ids _ hl hm k (by omega), Option.bind_some, if_pos rfl]
  unfold window_fits.f
  have e1 : wrap64 (fr - (ws.getD i z30).f1) = fr - (ws.getD i z30).f1 := by unfold wrap64; omega
  have e2 : wrap64 (p + q) = p + q := by unfold wrap64; omega
  rw [if_pos (by omega), if_pos (by omega), if_pos (by omega), Option.bind_some, if_pos (decide_eq_true (by rw [e1]; omega)), if_neg (by omega), if_neg (by rw [e2]; omega)]
 unfold window_wrong.f
 rw [if_pos (by omega), if_pos (by omega)]
 by_cases hi0 : (i : Int) > 0
 ·obtain ⟨_, g1, g2, g3⟩ := hok (i - 1) (by omega)
  have g4 := h0 (i - 1) (by omega)
  have ew : wrap64 ((i : Int) - 1) = ((i - 1 : Nat) : Int) := by unfold wrap64; omega
  rw [if_pos hi0, if_pos (by rw [ew]; omega), if_pos (by rw [ew]; omega), ew]
  have e3 : rd_T30 ws ((i - 1 : Nat) : Int) = ws.getD (i - 1) z30 := by unfold rd_T30; rw [Int.toNat_natCast]
  exact fin _ _ _ (by rw [e3]; exact g4) (by rw [e3]; omega) (by rw [e3]; unfold endB; rw [if_neg (by omega)])
 ·rw [if_neg hi0]
  exact fin _ _ _ (by omega) (by omega) (by unfold endB; rw [if_pos (by omega)]; rfl)
theorem not_bad (id fr : Int) (ws : List S30) (ns : List S87) (ids : List Int) (hl : Small ids) (hf0 : 0 ≤ fr) (hf : fr ≤ 4000000) (hw : ws.length ≤ 100000) (hok : ∀ j : Nat, j < ws.length → ChkW fr ws ids j) (h0 : ∀ j : Nat, j < ws.length → 0 ≤ (ws.getD j z30).f1) : ¬ BadW id fr ws ns ids := by
 rintro ⟨j, r, hj, hr, h⟩
 rw [wrong_none id fr ws ns ids hl hf0 hf hw hok h0 j hj _ (Nat.le_refl _)] at h
 injection h with h
 exact hr h.symm
theorem check_l0 {id fr : Int} {ws : List S30} {ns : List S87} {ids : List Int} (hl : Small ids) (hf0 : 0 ≤ fr) (hf : fr ≤ 4000000) (hw : ws.length ≤ 256) (hb : ∀ w ∈ ws, WinIn w) : ∀ (d i k : Nat), i + d = ws.length → 3 * d + ids.length + 3 ≤ k →
  (∀ j : Nat, j < i → ChkW fr ws ids j) → ∃ p, countwheelref13_Check.l0 k ids (i : Int) id fr ws ns = some p ∧ (p.2 = 0 → ∀ j : Nat, j < ws.length → ChkW fr ws ids j)
 | 0, i, k, h, hk, hp => by
  obtain ⟨k, rfl⟩ : ∃ m, k = m + 1 := ⟨k - 1, by omega⟩
  simp only [countwheelref13_Check.l0]
  rw [if_neg (by omega)]
  exact ⟨_, rfl, fun _ j hj => hp j (by omega)⟩
 | d + 1, i, k, h, hk, hp => by
  obtain ⟨k, rfl⟩ : ∃ m, k = m + 3 := ⟨k - 3, by omega⟩
  have hi : i < ws.length := by omega
  have e : rd_T30 ws (i : Int) = ws.getD i z30 := by unfold rd_T30; rw [Int.toNat_natCast]
  have hbi : ∀ j : Nat, j < ws.length → WinIn (ws.getD j z30) := fun j hj => hb _ (by rw [List.getD_eq_getElem?_getD, List.getElem?_eq_getElem hj]; exact List.getElem_mem hj)
  have hbw := hbi i hi
  unfold WinIn at hbw
  obtain ⟨_, _, w1, w2, w3, w4⟩ := hbw
  simp only [countwheelref13_Check.l0]
  rw [if_pos (by omega), if_pos (by omega), in13_is ids _ hl (k + 2) (by omega), Option.bind_some, e]
  by_cases cm : (ws.getD i z30).f0 ∈ ids
  ·rw [if_pos (decide_eq_true cm)]
   have next : 1 ≤ (ws.getD i z30).f2 → (ws.getD i z30).f1 + (ws.getD i z30).f2 ≤ fr → endB ws i ≤ (ws.getD i z30).f1 →
     ∃ p, countwheelref13_Check.l0 k ids (wrap64 ((i : Int) + 1)) id fr ws ns = some p ∧ (p.2 = 0 → ∀ j : Nat, j < ws.length → ChkW fr ws ids j) := by
    intro a1 a2 a3
    rw [wsucc (by omega)]
    refine check_l0 hl hf0 hf hw hb d (i + 1) k (by omega) (by omega) ?_
    intro j hj
    rcases Nat.lt_or_ge j i with q | q
    ·exact hp j q
    ·obtain rfl : j = i := by omega
     exact ⟨cm, a1, a3, a2⟩
   by_cases c1 : (ws.getD i z30).f2 < 1
   ·rw [if_pos c1]; simp only [countwheelref13_Check.j1]; rw [if_pos trivial]; exact ⟨_, rfl, fun h => by cases h⟩
   ·rw [if_neg c1, if_neg (by omega)]
    by_cases c2 : (ws.getD i z30).f1 > fr
    ·rw [if_pos c2]; simp only [countwheelref13_Check.j1]; rw [if_pos trivial]; exact ⟨_, rfl, fun h => by cases h⟩
    ·rw [if_neg c2]
     have e1 : wrap64 (fr - (ws.getD i z30).f1) = fr - (ws.getD i z30).f1 := by unfold wrap64; omega
     rw [e1]
     simp only [countwheelref13_Check.j1, decide_eq_true_eq]
     by_cases c3 : (ws.getD i z30).f2 > fr - (ws.getD i z30).f1
     ·rw [if_pos c3]; exact ⟨_, rfl, fun h => by cases h⟩
     ·rw [if_neg c3]
      by_cases c4 : (i : Int) > 0
      ·have ew : wrap64 ((i : Int) - 1) = ((i - 1 : Nat) : Int) := by unfold wrap64; omega
       have e3 : rd_T30 ws ((i - 1 : Nat) : Int) = ws.getD (i - 1) z30 := by unfold rd_T30; rw [Int.toNat_natCast]
       rw [if_pos c4, ew, if_pos (by omega), if_pos (by omega), e3]
       simp only [countwheelref13_Check.j2, decide_eq_true_eq]
       by_cases c5 : (ws.getD i z30).f1 < (ws.getD (i - 1) z30).f1
       ·rw [if_pos c5]; exact ⟨_, rfl, fun h => by cases h⟩
       ·rw [if_neg c5, if_pos c4, ew, if_pos (by omega), if_pos (by omega), e3]
        have hbp := hbi (i - 1) (by omega)
        unfold WinIn at hbp
        have e4 : wrap64 ((ws.getD (i - 1) z30).f1 + (ws.getD (i - 1) z30).f2) = (ws.getD (i - 1) z30).f1 + (ws.getD (i - 1) z30).f2 := by unfold wrap64; omega
        rw [e4]
        by_cases c6 : (ws.getD i z30).f1 < (ws.getD (i - 1) z30).f1 + (ws.getD (i - 1) z30).f2
        ·rw [if_pos c6]; exact ⟨_, rfl, fun h => by cases h⟩
        ·rw [if_neg c6]
         exact next (by omega) (by omega) (by unfold endB; rw [if_neg (by omega)]; omega)
      ·rw [if_neg c4]
       simp only [countwheelref13_Check.j2]
       rw [if_neg (by simp), if_neg c4]
       exact next (by omega) (by omega) (by unfold endB; rw [if_pos (by omega)]; omega)
  ·rw [if_neg (by simpa using cm)]
   exact ⟨_, rfl, fun h => by cases h⟩
/-- A schedule that may be asked about. -/
structure Ask (ids : List Int) (s : S25) : Prop where
 inn : SchedIn ⟨s.f0, s.f1, s.f2, s.f3⟩
 fr : s.f1 ≤ 60
 len : s.f2.length ≤ 30
 ok : ∀ j : Nat, j < s.f2.length → ChkW s.f1 s.f2 ids j
theorem few_l0 {l : List S25} {ids : List Int} (hl : Small l) (hi : Small ids) (hs : ∀ s ∈ l, Small s.f2 ∧ Small s.f3) (B : Nat) (hB : ∀ s ∈ l, s.f2.length + s.f3.length + 3 ≤ B) : ∀ (d i k : Nat), i + d = l.length → 2 * d + B + 3 * 256 + ids.length + 10 ≤ k →
  (∀ j : Nat, j < i → Ask ids (l.getD j z25)) → ∃ r, countwheellaw18_few.l0 k l ids l (l.length : Int) (i : Int) = some r ∧ (r = true → l.length ≤ 8 ∧ ids.length ≤ 40 ∧ ∀ j : Nat, j < l.length → Ask ids (l.getD j z25))
 | 0, i, k, h, hk, hp => by
  obtain ⟨k, rfl⟩ : ∃ m, k = m + 1 := ⟨k - 1, by omega⟩
  simp only [countwheellaw18_few.l0]
  rw [if_neg (by omega)]
  split
  ·refine ⟨_, rfl, fun h2 => ?_⟩
   have h3 := of_decide_eq_true h2
   exact ⟨by omega, by omega, fun j hj => hp j (by omega)⟩
  ·exact ⟨_, rfl, fun h2 => by cases h2⟩
 | d + 1, i, k, h, hk, hp => by
  obtain ⟨k, rfl⟩ : ∃ m, k = m + 2 := ⟨k - 2, by omega⟩
  have hl2 := hl
  unfold Small at hl2
  have hii : i < l.length := by omega
  have e : rd_T25 l (i : Int) = l.getD i z25 := by unfold rd_T25; rw [Int.toNat_natCast]
  have hm : l.getD i z25 ∈ l := by rw [List.getD_eq_getElem?_getD, List.getElem?_eq_getElem hii]; exact List.getElem_mem hii
  obtain ⟨hs1, hs2⟩ := hs _ hm
  have hBi := hB _ hm
  simp only [countwheellaw18_few.l0]
  rw [if_pos (by omega), if_pos (by omega), if_pos (by omega), e]
  obtain ⟨r, hr, hr0⟩ := right_is ⟨(l.getD i z25).f0, (l.getD i z25).f1, (l.getD i z25).f2, (l.getD i z25).f3⟩ hs1 hs2 (k + 1) (by show (l.getD i z25).f2.length + (l.getD i z25).f3.length + 3 ≤ k + 1; omega)
  rw [show countwheelref09_Right.f (k + 1) (l.getD i z25).f0 (l.getD i z25).f1 (l.getD i z25).f2 (l.getD i z25).f3 = some r from hr, Option.bind_some]
  by_cases c0 : r = 0
  ·rw [if_pos c0]
   have hin := hr0 c0
   by_cases c1 : (l.getD i z25).f1 > 60
   ·rw [if_pos c1]; simp only [countwheellaw18_few.j1]; rw [if_pos trivial]; exact ⟨_, rfl, fun h => by cases h⟩
   ·rw [if_neg c1]
    simp only [countwheellaw18_few.j1, decide_eq_true_eq]
    by_cases c2 : ((l.getD i z25).f2.length : Int) > 30
    ·rw [if_pos c2]; exact ⟨_, rfl, fun h => by cases h⟩
    ·rw [if_neg c2]
     obtain ⟨p, h1, h2⟩ := check_l0 (id := (l.getD i z25).f0) (fr := (l.getD i z25).f1) (ws := (l.getD i z25).f2) (ns := (l.getD i z25).f3) hi (by have h3 := hin.fr0; have h4 : 1 ≤ (l.getD i z25).f1 := h3; omega) (by have h4 : (l.getD i z25).f1 ≤ 1048576 := hin.fr1; omega) hin.ws hin.win (l.getD i z25).f2.length 0 k (by omega) (by have h4 : (l.getD i z25).f2.length ≤ 256 := hin.ws; omega) (fun j hj => absurd hj (Nat.not_lt_zero _))
     rw [show countwheelref13_Check.f k (l.getD i z25).f0 (l.getD i z25).f1 (l.getD i z25).f2 (l.getD i z25).f3 ids = some p from h1, Option.bind_some]
     by_cases c3 : p.2 = 0
     ·rw [if_pos c3, wsucc (by omega)]
      refine few_l0 hl hi hs B hB d (i + 1) k (by omega) (by omega) ?_
      intro j hj
      rcases Nat.lt_or_ge j i with q | q
      ·exact hp j q
      ·obtain rfl : j = i := by omega
       exact ⟨hin, by omega, by omega, h2 c3⟩
     ·rw [if_neg c3]; exact ⟨_, rfl, fun h => by cases h⟩
  ·rw [if_neg c0]; simp only [countwheellaw18_few.j1]; rw [if_pos trivial]; exact ⟨_, rfl, fun h => by cases h⟩
/-- A bound of the schedules' rows. -/
def bound : List S25 → Nat
 | [] => 0
 | s :: l => s.f2.length + s.f3.length + 3 + bound l
theorem bound_ge : ∀ (l : List S25), ∀ s ∈ l, s.f2.length + s.f3.length + 3 ≤ bound l
 | [], s, h => by cases h
 | t :: l, s, h => by
  rcases List.mem_cons.1 h with rfl | h
  ·unfold bound; omega
  ·have := bound_ge l s h
   unfold bound; omega
theorem few_is (l : List S25) (ids : List Int) (hl : Small l) (hi : Small ids) (hs : ∀ s ∈ l, Small s.f2 ∧ Small s.f3) : ∃ k r, countwheellaw18_few.f k l ids = some r ∧ (r = true → l.length ≤ 8 ∧ ids.length ≤ 40 ∧ ∀ s ∈ l, Ask ids s) := by
 obtain ⟨r, h1, h2⟩ := few_l0 hl hi hs (bound l) (bound_ge l) l.length 0 (2 * l.length + bound l + 3 * 256 + ids.length + 10) (by omega) (Nat.le_refl _) (fun j hj => absurd hj (Nat.not_lt_zero _))
 refine ⟨_, r, h1, fun hr => ?_⟩
 obtain ⟨a, b, c⟩ := h2 hr
 refine ⟨a, b, fun s hm => ?_⟩
 obtain ⟨j, hj, rfl⟩ := List.getElem_of_mem hm
 have := c j hj
 rwa [List.getD_eq_getElem?_getD, List.getElem?_eq_getElem hj] at this
end Go.Proofs.Ytnpjbdaaoknkbaa.Frm
