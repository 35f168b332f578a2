/- May a module be asked about: the checks of a schedule, of transitions (plain). -/
import Derived.Test.YtnniejaknnpcjaaYFin0
namespace Go.Proofs.Ytnniejaknnpcjaa.Fin
open Go.RowKit Go.Proofs.YtnniejaknnpcjaaW.PrintWords Go.Proofs.YtnniejaknnpcjaaW.PrintLast Go.Proofs.YtnniejaknnpcjaaW.PrintMore Go.Proofs.Ytnniejaknnpcjaa.Mine Go.Proofs.Ytnniejaknnpcjaa.PHyperNumbers
set_option linter.unusedVariables false
set_option linter.unusedSimpArgs false
theorem in09 (a b c : Int) : countwheelref09_in.f a b c = some (decide (b ≤ a ∧ a ≤ c)) := by
 unfold countwheelref09_in.f
 split
 ·rename_i h; congr 1; rw [decide_eq_decide]; omega
 ·congr 1; symm; rw [decide_eq_false_iff_not]; omega
def WinIn (w : S120) : Prop := 0 ≤ w.f0 ∧ w.f0 ≤ 255 ∧ 0 ≤ w.f1 ∧ w.f1 ≤ 1048576 ∧ 0 ≤ w.f2 ∧ w.f2 ≤ 1048576
def NeedIn (w : S69) : Prop := 0 ≤ w.f0 ∧ w.f0 ≤ 255 ∧ 0 ≤ w.f1 ∧ w.f1 ≤ 1048576 ∧ 0 ≤ w.f2 ∧ w.f2 ≤ 1048576
structure SchedIn (s : S46) : Prop where
 id0 : 0 ≤ s.f0
 id1 : s.f0 ≤ 255
 fr0 : 1 ≤ s.f1
 fr1 : s.f1 ≤ 1048576
 ws : s.f2.length ≤ 256
 ns : s.f3.length ≤ 32
 win : ∀ w ∈ s.f2, WinIn w
 need : ∀ n ∈ s.f3, NeedIn n
theorem right_l1 {a b : Int} {ws : List S120} {ns : List S69} (hn : Small ns) : ∀ (d i k : Nat), i + d = ns.length → d + 1 ≤ k →
  ∃ r, countwheelref09_Right.l1 k (i : Int) a b ws ns = some r ∧ (r = 0 → ∀ n ∈ ns.drop i, NeedIn n)
 | 0, i, k, h, hk => by
  obtain ⟨k, rfl⟩ : ∃ m, k = m + 1 := ⟨k - 1, by omega⟩
  simp only [countwheelref09_Right.l1]
  rw [if_neg (by omega)]
  exact ⟨_, rfl, fun _ n hn => by rw [List.drop_of_length_le (by omega)] at hn; cases hn⟩
 | d + 1, i, k, h, hk => by
  have hs2 := hn
  unfold Small at hs2
  obtain ⟨k, rfl⟩ : ∃ m, k = m + 1 := ⟨k - 1, by omega⟩
  simp only [countwheelref09_Right.l1, in09, Option.bind_some, decide_eq_true_eq]
  rw [if_pos (by omega), if_pos (by omega), wsucc (by omega)]
  obtain ⟨r, hr, hg⟩ := right_l1 (a := a) (b := b) (ws := ws) hn d (i + 1) k (by omega) (by omega)
  split
  ·split
   ·split
    ·refine ⟨r, hr, fun h0 n hn => ?_⟩
     rw [dropD ns z69 i (by omega)] at hn
     rcases List.mem_cons.1 hn with rfl | hn
     ·unfold NeedIn; simp only [rd_T69] at *; omega
     ·exact hg h0 n hn
    ·exact ⟨_, rfl, fun h => by omega⟩
   ·exact ⟨_, rfl, fun h => by omega⟩
  ·exact ⟨_, rfl, fun h => by omega⟩
theorem right_l0 {a b : Int} {ws : List S120} {ns : List S69} (hw : Small ws) (hn : Small ns) : ∀ (d i k : Nat), i + d = ws.length → d + ns.length + 2 ≤ k →
  ∃ r, countwheelref09_Right.l0 k (i : Int) a b ws ns = some r ∧ (r = 0 → (∀ w ∈ ws.drop i, WinIn w) ∧ ns.length ≤ 32 ∧ ∀ n ∈ ns, NeedIn n)
 | 0, i, k, h, hk => by
  obtain ⟨k, rfl⟩ : ∃ m, k = m + 1 := ⟨k - 1, by omega⟩
  simp only [countwheelref09_Right.l0]
  rw [if_neg (by omega)]
  split
  ·exact ⟨_, rfl, fun h => by omega⟩
  ·obtain ⟨r, hr, hg⟩ := right_l1 (a := a) (b := b) (ws := ws) hn ns.length 0 k (by omega) (by omega)
   exact ⟨r, hr, fun h0 => ⟨(fun n hn => by rw [List.drop_of_length_le (by omega)] at hn; cases hn), by omega, by simpa using hg h0⟩⟩
 | d + 1, i, k, h, hk => by
  have hs2 := hw
  unfold Small at hs2
  obtain ⟨k, rfl⟩ : ∃ m, k = m + 1 := ⟨k - 1, by omega⟩
  simp only [countwheelref09_Right.l0, in09, Option.bind_some, decide_eq_true_eq]
  rw [if_pos (by omega), if_pos (by omega), wsucc (by omega)]
  obtain ⟨r, hr, hg⟩ := right_l0 (a := a) (b := b) hw hn d (i + 1) k (by omega) (by omega)
  split
  ·split
   ·split
    ·refine ⟨r, hr, fun h0 => ⟨fun n hn => ?_, (hg h0).2⟩⟩
     rw [dropD ws z120 i (by omega)] at hn
     rcases List.mem_cons.1 hn with rfl | hn
     ·unfold WinIn; simp only [rd_T120] at *; omega
     ·exact (hg h0).1 n hn
    ·exact ⟨_, rfl, fun h => by omega⟩
   ·exact ⟨_, rfl, fun h => by omega⟩
  ·exact ⟨_, rfl, fun h => by omega⟩
theorem right_is (s : S46) (hw : Small s.f2) (hn : Small s.f3) (k : Nat) (hk : s.f2.length + s.f3.length + 3 ≤ k) : ∃ r, countwheelref09_Right.f k s.f0 s.f1 s.f2 s.f3 = some r ∧ (r = 0 → SchedIn s) := by
 obtain ⟨k, rfl⟩ : ∃ m, k = m + 1 := ⟨k - 1, by omega⟩
 simp only [countwheelref09_Right.f, in09, Option.bind_some, decide_eq_true_eq, countwheelref09_Right.j0]
 obtain ⟨r, hr, hg⟩ := right_l0 (a := s.f0) (b := s.f1) hw hn s.f2.length 0 k (by omega) (by omega)
 split
 ·split
  ·exact ⟨_, rfl, fun h => by omega⟩
  ·rename_i h1 h2
   have h3 : 1 ≤ s.f1 ∧ s.f1 ≤ 1048576 := by
    by_cases h : 1 ≤ s.f1 ∧ s.f1 ≤ 1048576
    ·exact h
    ·exact absurd (by simp [h]) h2
   split
   ·exact ⟨_, rfl, fun h => by omega⟩
   ·refine ⟨r, hr, fun h0 => ?_⟩
    obtain ⟨g1, g2, g3⟩ := hg h0
    exact ⟨h1.1, h1.2, h3.1, h3.2, by omega, g2, by simpa using g1, g3⟩
 ·exact ⟨_, rfl, fun h => by simp at h⟩
-- windows
/-- The windows' order, one behind the other. -/
structure Wins (fr : Int) (ws : List S120) (ids : List Int) : Prop where
 each : ∀ w ∈ ws, w.f0 ∈ ids ∧ 1 ≤ w.f2 ∧ 0 ≤ w.f1 ∧ w.f1 + w.f2 ≤ fr
 next : ∀ j : Nat, j + 1 < ws.length → (ws.getD j z120).f1 + (ws.getD j z120).f2 ≤ (ws.getD (j + 1) z120).f1
def winAt (fr : Int) (ws : List S120) (ids : List Int) (j : Nat) : Prop :=
 (ws.getD j z120).f0 ∈ ids ∧ 1 ≤ (ws.getD j z120).f2 ∧ 0 ≤ (ws.getD j z120).f1 ∧ (ws.getD j z120).f1 ≤ fr ∧ (ws.getD j z120).f2 ≤ wrap64 (fr - (ws.getD j z120).f1) ∧
 (0 < j → wrap64 ((ws.getD (j - 1) z120).f1 + (ws.getD (j - 1) z120).f2) ≤ (ws.getD j z120).f1)
theorem check13_loop {a fr : Int} {ws : List S120} {ns : List S69} {ids : List Int} (hw : Small ws) (hi : Small ids) : ∀ (d i k : Nat), i + d = ws.length → 3 * d + ids.length + 4 ≤ k →
  ∃ r1 r2, countwheelref13_Check.l0 k ids (i : Int) a fr ws ns = some (r1, r2) ∧ (r2 = 0 → ∀ j, i ≤ j → j < ws.length → winAt fr ws ids j)
 | 0, i, k, h, hk => by
  obtain ⟨k, rfl⟩ : ∃ m, k = m + 1 := ⟨k - 1, by omega⟩
  simp only [countwheelref13_Check.l0]
  rw [if_neg (by omega)]
  exact ⟨_, _, rfl, fun _ j h1 h2 => by omega⟩
 | d + 1, i, k, h, hk => by
  have hs2 := hw
  unfold Small at hs2
  obtain ⟨k, rfl⟩ : ∃ m, k = m + 1 + 1 + 1 := ⟨k - 3, by omega⟩
  simp only [countwheelref13_Check.l0, in13_is _ _ hi _ (show ids.length + 1 ≤ k + 1 + 1 by omega), Option.bind_some, decide_eq_true_eq]
  rw [if_pos (by omega), if_pos (by omega)]
  obtain ⟨r1, r2, hr, hg⟩ := check13_loop (a := a) (fr := fr) (ns := ns) hw hi d (i + 1) k (by omega) (by omega)
  have bad : ∀ e : Int, e ≠ 0 → ∃ r1 r2, some ((i : Int), e) = some (r1, r2) ∧ (r2 = 0 → ∀ j, i ≤ j → j < ws.length → winAt fr ws ids j) := fun e he => ⟨_, _, rfl, fun h => absurd h he⟩
  have jt : ∀ x y z, ∃ r1 r2, countwheelref13_Check.j1 (k + 1 + 1) ids (i : Int) true a fr ws ns x y z = some (r1, r2) ∧ (r2 = 0 → ∀ j, i ≤ j → j < ws.length → winAt fr ws ids j) := by
   intro x y z
   simp only [countwheelref13_Check.j1, if_true]
   exact bad 11 (by decide)
  split
  ·rename_i c1
   split
   ·exact jt _ _ _
   ·split
    ·exact jt _ _ _
    ·split
     ·exact jt _ _ _
     ·rename_i c2 c3 c4
      simp only [countwheelref13_Check.j1, decide_eq_true_eq]
      split
      ·exact bad 11 (by decide)
      ·rename_i c5
       by_cases c6 : 0 < i
       ·rw [if_pos (by omega)]
        simp only [wpred (show i < 9223372036854775807 by omega) c6]
        rw [if_pos (by omega), if_pos (by omega)]
        simp only [countwheelref13_Check.j2, decide_eq_true_eq]
        split
        ·exact bad 9 (by decide)
        ·rw [if_pos (by omega)]
         simp only [wpred (show i < 9223372036854775807 by omega) c6]
         rw [if_pos (by omega), if_pos (by omega)]
         split
         ·exact bad 12 (by decide)
         ·rename_i c7 c8
          rw [wsucc (by omega)]
          refine ⟨r1, r2, hr, fun h0 j h1 h2 => ?_⟩
          by_cases e : j = i
          ·subst e
           simp only [rd_T120, Int.toNat_natCast] at *
           exact ⟨c1, by omega, by omega, by omega, by omega, fun _ => by omega⟩
          ·exact hg h0 j (by omega) h2
       ·rw [if_neg (by omega)]
        simp only [countwheelref13_Check.j2]
        rw [if_neg (by decide), if_neg (by omega), wsucc (by omega)]
        refine ⟨r1, r2, hr, fun h0 j h1 h2 => ?_⟩
        by_cases e : j = i
        ·subst e
         simp only [rd_T120, Int.toNat_natCast] at *
         exact ⟨c1, by omega, by omega, by omega, by omega, fun _ => by omega⟩
        ·exact hg h0 j (by omega) h2
  ·exact bad 10 (by decide)
theorem check13_is (s : S46) (ids : List Int) (hw : Small s.f2) (hi : Small ids) (k : Nat) (hk : 3 * s.f2.length + ids.length + 4 ≤ k) :
  ∃ r1 r2, countwheelref13_Check.f k s.f0 s.f1 s.f2 s.f3 ids = some (r1, r2) ∧ (r2 = 0 → s.f1 ≤ 1048576 → Wins s.f1 s.f2 ids) := by
 obtain ⟨r1, r2, hr, hg⟩ := check13_loop (a := s.f0) (fr := s.f1) (ns := s.f3) hw hi s.f2.length 0 k (by omega) (by omega)
 refine ⟨r1, r2, hr, fun h0 hf => ⟨fun w hm => ?_, fun j hj => ?_⟩⟩
 ·obtain ⟨j, hj, rfl⟩ := List.mem_iff_getElem.1 hm
  have := hg h0 j (by omega) hj
  unfold winAt at this
  rw [List.getD_eq_getElem?_getD, List.getElem?_eq_getElem hj, Option.getD_some] at this
  obtain ⟨g1, g2, g3, g4, g5, _⟩ := this
  have : wrap64 (s.f1 - s.f2[j].f1) = s.f1 - s.f2[j].f1 := by unfold wrap64; omega
  exact ⟨g1, g2, g3, by omega⟩
 ·have h1 := hg h0 j (by omega) (by omega)
  have h2 := (hg h0 (j + 1) (by omega) hj).2.2.2.2.2 (by omega)
  unfold winAt at h1
  obtain ⟨g1, g2, g3, g4, g5, _⟩ := h1
  rw [Nat.add_sub_cancel] at h2
  generalize s.f2.getD j z120 = w at *
  have e1 : wrap64 (s.f1 - w.f1) = s.f1 - w.f1 := by unfold wrap64; omega
  have e2 : wrap64 (w.f1 + w.f2) = w.f1 + w.f2 := by unfold wrap64; omega
  rw [e2] at h2
  exact h2
-- the word
/-- Whose a tick is, by windows. -/
def ownW : List S120 → Int → Int
 | [], _ => -1
 | w :: r, t => if w.f1 ≤ t ∧ t < wrap64 (w.f1 + w.f2) then w.f0 else ownW r t
theorem owner_loop {a fr t : Int} {ws : List S120} {ns : List S69} (hw : Small ws) : ∀ (d i k : Nat), i + d = ws.length → d + 1 ≤ k → countwheelref13_Owner.l0 k t (i : Int) a fr ws ns = some (ownW (ws.drop i) t)
 | 0, i, k, h, hk => by
  obtain ⟨k, rfl⟩ : ∃ m, k = m + 1 := ⟨k - 1, by omega⟩
  simp only [countwheelref13_Owner.l0]
  rw [if_neg (by omega), List.drop_of_length_le (by omega)]; rfl
 | d + 1, i, k, h, hk => by
  have hs2 := hw
  unfold Small at hs2
  obtain ⟨k, rfl⟩ : ∃ m, k = m + 1 := ⟨k - 1, by omega⟩
  simp only [countwheelref13_Owner.l0]
  rw [if_pos (by omega), if_pos (by omega), wsucc (by omega), owner_loop hw d (i + 1) k (by omega) (by omega), dropD ws z120 i (by omega)]
  unfold rd_T120
  rw [Int.toNat_natCast]
  show _ = some (if _ then _ else _)
  by_cases c1 : (ws.getD i z120).f1 ≤ t
  ·rw [if_pos c1]
   by_cases c2 : t < wrap64 ((ws.getD i z120).f1 + (ws.getD i z120).f2)
   ·rw [if_pos c2, if_pos ⟨c1, c2⟩]
   ·rw [if_neg c2, if_neg (fun h => c2 h.2)]
  ·rw [if_neg (by omega), if_neg (fun h => c1 h.1)]
theorem owner_is {a fr t : Int} {ws : List S120} {ns : List S69} (hw : Small ws) (k : Nat) (hk : ws.length + 2 ≤ k) : countwheelref13_Owner.f k a fr ws ns t = some (if t < 0 ∨ fr ≤ t then -1 else ownW ws t) := by
 obtain ⟨k, rfl⟩ : ∃ m, k = m + 1 := ⟨k - 1, by omega⟩
 simp only [countwheelref13_Owner.f, countwheelref13_Owner.j0, decide_eq_true_eq]
 by_cases c1 : t < 0
 ·simp only [c1, if_true, true_or]
 ·rw [if_neg c1]
  by_cases c2 : t ≥ fr
  ·have c3 : fr ≤ t := c2
   simp only [c2, if_true, c3, or_true]
  ·rw [if_neg c2, if_neg (by omega)]
   have := owner_loop (a := a) (fr := fr) (t := t) (ns := ns) hw ws.length 0 k (by omega) (by omega)
   simpa using this
/-- The word of a schedule. -/
def wordW (fr : Int) (ws : List S120) : List Int := (List.range fr.toNat).map fun t : Nat => ownW ws (t : Int)
theorem wordW_len (fr : Int) (ws : List S120) : (wordW fr ws).length = fr.toNat := by unfold wordW; simp
theorem word_loop {a fr : Int} {ws : List S120} {ns : List S69} (hw : Small ws) (hf : fr ≤ 1048576) : ∀ (d i k : Nat), i + d = fr.toNat → d + ws.length + 3 ≤ k → countwheelref13_Word.l0 k ((List.range i).map fun t : Nat => ownW ws (t : Int)) (i : Int) a fr ws ns = some (wordW fr ws)
 | 0, i, k, h, hk => by
  obtain ⟨k, rfl⟩ : ∃ m, k = m + 1 := ⟨k - 1, by omega⟩
  simp only [countwheelref13_Word.l0]
  rw [if_neg (by omega)]
  obtain rfl : i = fr.toNat := by omega
  rfl
 | d + 1, i, k, h, hk => by
  obtain ⟨k, rfl⟩ : ∃ m, k = m + 1 := ⟨k - 1, by omega⟩
  simp only [countwheelref13_Word.l0]
  rw [if_pos (by omega), owner_is hw k (by omega), Option.bind_some, if_neg (show ¬ ((i : Int) < 0 ∨ fr ≤ (i : Int)) by omega), if_pos (show ((List.range i).map fun t : Nat => ownW ws (t : Int)).length < 17592186044416 by rw [List.length_map, List.length_range]; omega), wsucc (by omega), ← word_loop (a := a) (ns := ns) hw hf d (i + 1) k (by omega) (by omega), List.range_succ, List.map_append]
  rfl
theorem word13_is {a fr : Int} {ws : List S120} {ns : List S69} (hw : Small ws) (hf : fr ≤ 1048576) (k : Nat) (hk : fr.toNat + ws.length + 3 ≤ k) : countwheelref13_Word.f k a fr ws ns = some (wordW fr ws) :=
 word_loop hw hf fr.toNat 0 k (by omega) (by omega)
-- needs
theorem supply_loop (l : List Int) (id a b : Int) (hl : Small l) : ∀ (d i k : Nat) (n : Int), i + d = l.length → d + 1 ≤ k → ∃ r, countwheelref14_Supply.l0 k l id a b n (i : Int) = some r
 | 0, i, k, n, h, hk => by
  obtain ⟨k, rfl⟩ : ∃ m, k = m + 1 := ⟨k - 1, by omega⟩
  simp only [countwheelref14_Supply.l0]
  rw [if_neg (by omega)]
  exact ⟨_, rfl⟩
 | d + 1, i, k, n, h, hk => by
  have hs2 := hl
  unfold Small at hs2
  obtain ⟨k, rfl⟩ : ∃ m, k = m + 1 := ⟨k - 1, by omega⟩
  simp only [countwheelref14_Supply.l0]
  rw [if_pos (by omega), wsucc (by omega)]
  have ih := fun n => supply_loop l id a b hl d (i + 1) k n (by omega) (by omega)
  split
  ·split
   ·rw [if_pos (by omega)]
    split <;> exact ih _
   ·exact ih _
  ·exact ih _
theorem supply_is (l : List Int) (id a b : Int) (hl : Small l) (k : Nat) (hk : l.length + 1 ≤ k) : ∃ r, countwheelref14_Supply.f k l id a b = some r :=
 supply_loop l id a b hl l.length 0 k 0 (by omega) hk
theorem least_loop (l : List Int) (id : Int) (p : Nat) (hl : l.length ≤ 1048576) (hp : 1 ≤ p) (hp2 : p ≤ 1048576) : ∀ (d t k : Nat) (n : Int), l.length ≤ t + d → t ≤ l.length + p → d + l.length + 2 ≤ k → ∃ r, countwheelref14_Least.l0 k l id (p : Int) n (t : Int) = some r
 | 0, i, k, n, h, ht, hk => by
  obtain ⟨k, rfl⟩ : ∃ m, k = m + 1 := ⟨k - 1, by omega⟩
  simp only [countwheelref14_Least.l0]
  rw [if_neg (by omega)]
  exact ⟨_, rfl⟩
 | d + 1, i, k, n, h, ht, hk => by
  obtain ⟨k, rfl⟩ : ∃ m, k = m + 1 := ⟨k - 1, by omega⟩
  simp only [countwheelref14_Least.l0]
  by_cases c : (i : Int) < l.length
  ·rw [if_pos c]
   have e : wrap64 ((i : Int) + (p : Int)) = ((i + p : Nat) : Int) := by unfold wrap64; omega
   rw [e]
   obtain ⟨s, hs⟩ := supply_is l id (i : Int) ((i + p : Nat) : Int) (by unfold Small; omega) k (by omega)
   rw [hs]
   simp only [Option.bind_some]
   have ih := fun n => least_loop l id p hl hp hp2 d (i + p) k n (by omega) (by omega) (by omega)
   split <;> exact ih _
  ·rw [if_neg c]
   exact ⟨_, rfl⟩
theorem least_is (l : List Int) (id p : Int) (hl : l.length ≤ 1048576) (hp : 1 ≤ p) (hp2 : p ≤ 1048576) (k : Nat) (hk : 2 * l.length + 2 ≤ k) : ∃ r, countwheelref14_Least.f k l id p = some r := by
 obtain ⟨q, rfl⟩ : ∃ q : Nat, p = (q : Int) := ⟨p.toNat, by omega⟩
 exact least_loop l id q hl (by omega) (by omega) l.length 0 k _ (by omega) (by omega) (by omega)
theorem check14_loop {a fr : Int} {ws : List S120} {ns : List S69} {ids word : List Int} (hn : Small ns) (hi : Small ids) (hwd : word.length ≤ 1048576) (hb : ∀ n ∈ ns, NeedIn n) : ∀ (d i k : Nat), i + d = ns.length → 3 * d + ids.length + 2 * word.length + 4 ≤ k →
  ∃ r1 r2, countwheelref14_Check.l0 k ids word (i : Int) a fr ws ns = some (r1, r2)
 | 0, i, k, h, hk => by
  obtain ⟨k, rfl⟩ : ∃ m, k = m + 1 := ⟨k - 1, by omega⟩
  simp only [countwheelref14_Check.l0]
  rw [if_neg (by omega)]
  exact ⟨_, _, rfl⟩
 | d + 1, i, k, h, hk => by
  have hs2 := hn
  unfold Small at hs2
  obtain ⟨k, rfl⟩ : ∃ m, k = m + 1 + 1 + 1 := ⟨k - 3, by omega⟩
  have hnb : NeedIn (ns.getD i z69) := hb _ (by have := memD ns z69 i (by omega); rwa [Int.toNat_natCast] at this)
  have ih := check14_loop (a := a) (fr := fr) (ws := ws) hn hi hwd hb d (i + 1) k (by omega) (by omega)
  have j2 : ∀ b, ∃ r1 r2, countwheelref14_Check.j2 (k + 1) ids word (i : Int) b a fr ws ns (ns.getD i z69).f0 (ns.getD i z69).f1 (ns.getD i z69).f2 = some (r1, r2) ∨ (b = false ∧ (ns.getD i z69).f1 < 1) := by
   intro b
   by_cases hp : 1 ≤ (ns.getD i z69).f1
   ·simp only [countwheelref14_Check.j2]
    split
    ·exact ⟨_, _, .inl rfl⟩
    ·split
     ·exact ⟨_, _, .inl rfl⟩
     ·split
      ·exact ⟨_, _, .inl rfl⟩
      ·obtain ⟨q, hq⟩ := least_is word (ns.getD i z69).f0 (ns.getD i z69).f1 hwd hp hnb.2.2.2.1 k (by omega)
       rw [hq]
       simp only [Option.bind_some]
       split
       ·exact ⟨_, _, .inl rfl⟩
       ·rw [wsucc (by omega)]
        obtain ⟨r1, r2, h⟩ := ih
        exact ⟨r1, r2, .inl h⟩
   ·cases b with
    | true => simp only [countwheelref14_Check.j2, if_true]; exact ⟨_, _, .inl rfl⟩
    | false => exact ⟨0, 0, .inr ⟨rfl, by omega⟩⟩
  have j1 : ∀ b, ∃ r1 r2, countwheelref14_Check.j1 (k + 1 + 1) ids word (i : Int) b a fr ws ns (ns.getD i z69).f0 (ns.getD i z69).f1 (ns.getD i z69).f2 = some (r1, r2) := by
   intro b
   simp only [countwheelref14_Check.j1]
   split
   ·exact ⟨_, _, rfl⟩
   ·split
    ·obtain ⟨r1, r2, h | h⟩ := j2 true
     ·exact ⟨r1, r2, h⟩
     ·cases h.1
    ·rw [if_neg (by omega)]
     obtain ⟨r1, r2, h | h⟩ := j2 (Int.tmod fr (ns.getD i z69).f1 != 0)
     ·exact ⟨r1, r2, h⟩
     ·omega
  simp only [countwheelref14_Check.l0, in14_is _ _ hi _ (show ids.length + 1 ≤ k + 1 + 1 by omega), Option.bind_some, decide_eq_true_eq]
  rw [if_pos (by omega), if_pos (by omega)]
  by_cases c1 : (rd_T69 ns (i : Int)).f0 ∈ ids
  ·rw [if_pos c1]
   simp only [rd_T69, Int.toNat_natCast]
   by_cases c6 : 0 < i
   ·rw [if_pos (by omega)]
    simp only [wpred (show i < 9223372036854775807 by omega) c6]
    rw [if_pos (by omega), if_pos (by omega)]
    exact j1 _
   ·rw [if_neg (by omega)]
    exact j1 _
  ·rw [if_neg c1]; exact ⟨_, _, rfl⟩
theorem check14_is (s : S46) (ids : List Int) (hs : SchedIn s) (hi : Small ids) (k : Nat) (hk : s.f2.length + 3 * s.f3.length + ids.length + 2 * s.f1.toNat + 7 ≤ k) : ∃ r1 r2, countwheelref14_Check.f k s.f0 s.f1 s.f2 s.f3 ids = some (r1, r2) := by
 have h1 := hs.fr1
 have h2 := hs.ws
 have h3 := hs.ns
 unfold countwheelref14_Check.f
 rw [word13_is (by unfold Small; omega) h1 k (by omega), Option.bind_some]
 exact check14_loop (by unfold Small; omega) hi (by rw [wordW_len]; omega) hs.need s.f3.length 0 k (by omega) (by rw [wordW_len]; omega)
-- transitions
/-- Transitions lead from a schedule to another one, and rise. -/
structure PairsOk (qs : List S95) (ids : List Int) : Prop where
 each : ∀ q ∈ qs, q.f0 ∈ ids ∧ q.f1 ∈ ids ∧ q.f0 ≠ q.f1
 next : ∀ j : Nat, j + 1 < qs.length → (qs.getD j z95).f0 < (qs.getD (j + 1) z95).f0 ∨ (qs.getD j z95).f0 = (qs.getD (j + 1) z95).f0 ∧ (qs.getD j z95).f1 < (qs.getD (j + 1) z95).f1
theorem less10 (a b c d : Int) : countwheelref10_Less.f a b c d = some (decide (a < c ∨ a = c ∧ b < d)) := by
 unfold countwheelref10_Less.f
 split
 ·congr 1; symm; rw [decide_eq_true_eq]; omega
 ·split
  ·congr 1; rw [decide_eq_decide]; omega
  ·congr 1; symm; rw [decide_eq_false_iff_not]; omega
theorem check15_loop {qs : List S95} {ids : List Int} (hq : Small qs) (hi : Small ids) : ∀ (d i k : Nat), i + d = qs.length → 2 * d + ids.length + 3 ≤ k →
  ∃ r1 r2, countwheelref15_Check.l0 k qs ids (i : Int) = some (r1, r2) ∧ (r2 = 0 → ∀ j, i ≤ j → j < qs.length → ((qs.getD j z95).f0 ∈ ids ∧ (qs.getD j z95).f1 ∈ ids ∧ (qs.getD j z95).f0 ≠ (qs.getD j z95).f1) ∧ (0 < j → (qs.getD (j - 1) z95).f0 < (qs.getD j z95).f0 ∨ (qs.getD (j - 1) z95).f0 = (qs.getD j z95).f0 ∧ (qs.getD (j - 1) z95).f1 < (qs.getD j z95).f1))
 | 0, i, k, h, hk => by
  obtain ⟨k, rfl⟩ : ∃ m, k = m + 1 := ⟨k - 1, by omega⟩
  simp only [countwheelref15_Check.l0]
  rw [if_neg (by omega)]
  exact ⟨_, _, rfl, fun _ j h1 h2 => by omega⟩
 | d + 1, i, k, h, hk => by
  have hs2 := hq
  unfold Small at hs2
  obtain ⟨k, rfl⟩ : ∃ m, k = m + 1 + 1 := ⟨k - 2, by omega⟩
  obtain ⟨r1, r2, hr, hg⟩ := check15_loop hq hi d (i + 1) k (by omega) (by omega)
  simp only [countwheelref15_Check.l0, in_is _ _ hi _ (show ids.length + 1 ≤ k + 1 by omega), Option.bind_some, decide_eq_true_eq]
  rw [if_pos (by omega), if_pos (by omega)]
  by_cases c1 : (rd_T95 qs (i : Int)).f0 ∈ ids
  ·rw [if_pos c1]
   simp only [countwheelref15_Check.j1]
   by_cases c2 : (rd_T95 qs (i : Int)).f1 ∈ ids
   ·rw [if_neg (by simp [c2]), if_pos (by omega), if_pos (by omega)]
    by_cases c3 : (rd_T95 qs (i : Int)).f0 = (rd_T95 qs (i : Int)).f1
    ·rw [if_pos c3]; exact ⟨_, _, rfl, fun h => by omega⟩
    ·rw [if_neg c3]
     by_cases c6 : 0 < i
     ·rw [if_pos (by omega)]
      simp only [wpred (show i < 9223372036854775807 by omega) c6, less10, Option.bind_some, decide_eq_true_eq, Int.toNat_natCast]
      rw [if_pos (by omega), if_pos (by omega)]
      by_cases c7 : (rd_T95 qs ((i - 1 : Nat) : Int)).f0 < (rd_T95 qs (i : Int)).f0 ∨ (rd_T95 qs ((i - 1 : Nat) : Int)).f0 = (rd_T95 qs (i : Int)).f0 ∧ (rd_T95 qs ((i - 1 : Nat) : Int)).f1 < (rd_T95 qs (i : Int)).f1
      ·rw [if_pos c7]
       simp only [rd_T95, Int.toNat_natCast] at c1 c2 c3 c7
       rw [wsucc (by omega)]
       refine ⟨r1, r2, hr, fun h0 j h1 h2 => ?_⟩
       by_cases e : j = i
       ·subst e; exact ⟨⟨c1, c2, c3⟩, fun _ => c7⟩
       ·exact hg h0 j (by omega) h2
      ·rw [if_neg c7]; exact ⟨_, _, rfl, fun h => by omega⟩
     ·simp only [rd_T95, Int.toNat_natCast] at c1 c2 c3
      rw [if_neg (by omega), wsucc (by omega)]
      refine ⟨r1, r2, hr, fun h0 j h1 h2 => ?_⟩
      by_cases e : j = i
      ·subst e; exact ⟨⟨c1, c2, c3⟩, fun _ => by omega⟩
      ·exact hg h0 j (by omega) h2
   ·rw [if_pos (by simp [c2])]
    exact ⟨_, _, rfl, fun h => by omega⟩
  ·rw [if_neg c1]
   simp only [countwheelref15_Check.j1, if_true]
   exact ⟨_, _, rfl, fun h => by omega⟩
theorem check15_is (qs : List S95) (ids : List Int) (hq : Small qs) (hi : Small ids) (k : Nat) (hk : 2 * qs.length + ids.length + 3 ≤ k) :
  ∃ r1 r2, countwheelref15_Check.f k qs ids = some (r1, r2) ∧ (r2 = 0 → PairsOk qs ids) := by
 obtain ⟨r1, r2, hr, hg⟩ := check15_loop hq hi qs.length 0 k (by omega) (by omega)
 refine ⟨r1, r2, hr, fun h0 => ⟨fun q hm => ?_, fun j hj => ?_⟩⟩
 ·obtain ⟨j, hj, rfl⟩ := List.mem_iff_getElem.1 hm
  have := (hg h0 j (by omega) hj).1
  rwa [List.getD_eq_getElem?_getD, List.getElem?_eq_getElem hj, Option.getD_some] at this
 ·have := (hg h0 (j + 1) (by omega) hj).2 (by omega)
  rwa [Nat.add_sub_cancel] at this
end Go.Proofs.Ytnniejaknnpcjaa.Fin
