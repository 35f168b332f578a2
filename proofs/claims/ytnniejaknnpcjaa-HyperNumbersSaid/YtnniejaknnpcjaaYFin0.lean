/- May a module be asked about: what the document's own checks answer, and that they answer (plain). -/
import Derived.Test.YtnniejaknnpcjaaYQ5
import Derived.Test.YtnniejaknnpcjaaYQ7
import Derived.Test.YtnniejaknnpcjaaYQ8
import Derived.Test.YtnniejaknnpcjaaYMine
namespace Go.Proofs.Ytnniejaknnpcjaa.Fin
open Go.RowKit Go.Proofs.YtnniejaknnpcjaaW.PrintWords Go.Proofs.YtnniejaknnpcjaaW.PrintLast Go.Proofs.YtnniejaknnpcjaaW.PrintMore Go.Proofs.Ytnniejaknnpcjaa.Mine Go.Proofs.Ytnniejaknnpcjaa.PHyperNumbers
set_option linter.unusedVariables false
set_option linter.unusedSimpArgs false
theorem wsucc {i : Nat} (h : i < 9223372036854775807) : wrap64 ((i : Int) + 1) = ((i + 1 : Nat) : Int) := by unfold wrap64; omega
theorem wpred {i : Nat} (h : i < 9223372036854775807) (h0 : 0 < i) : wrap64 ((i : Int) - 1) = ((i - 1 : Nat) : Int) := by unfold wrap64; omega
theorem dropD {α : Type} (l : List α) (z : α) (i : Nat) (h : i < l.length) : l.drop i = l.getD (i : Int).toNat z :: l.drop (i + 1) := by
 rw [Int.toNat_natCast, List.drop_eq_getElem_cons h, List.getD_eq_getElem?_getD, List.getElem?_eq_getElem h]; rfl
theorem memD {α : Type} (l : List α) (z : α) (i : Nat) (h : i < l.length) : l.getD (i : Int).toNat z ∈ l := by
 rw [Int.toNat_natCast, List.getD_eq_getElem?_getD, List.getElem?_eq_getElem h]; exact List.getElem_mem h
def Small {α : Type} (l : List α) : Prop := l.length ≤ 9223372036854775807
-- In
theorem in_loop (l : List Int) (v : Int) (hl : Small l) : ∀ (d i k : Nat), i + d = l.length → d + 1 ≤ k → countwheelref15_In.l0 k l v (i : Int) = some (decide (v ∈ l.drop i))
 | 0, i, k, h, hk => by
  unfold Small at hl
  obtain ⟨k, rfl⟩ : ∃ m, k = m + 1 := ⟨k - 1, by omega⟩
  simp only [countwheelref15_In.l0]
  rw [if_neg (by omega), List.drop_of_length_le (by omega)]; simp
 | d + 1, i, k, h, hk => by
  have hl2 := hl
  unfold Small at hl2
  obtain ⟨k, rfl⟩ : ∃ m, k = m + 1 := ⟨k - 1, by omega⟩
  simp only [countwheelref15_In.l0]
  rw [if_pos (by omega), if_pos (by omega), dropD l 0 i (by omega)]
  by_cases e : rd l i = v
  ·rw [if_pos e]; unfold rd at e; rw [e]; simp
  ·rw [if_neg e, wsucc (by omega), in_loop l v hl d (i + 1) k (by omega) (by omega)]
   unfold rd at e
   simp only [List.mem_cons]
   congr 1
   rw [decide_eq_decide]
   exact ⟨.inr, fun h => h.elim (fun h => absurd h.symm e) id⟩
theorem in_is (l : List Int) (v : Int) (hl : Small l) (k : Nat) (hk : l.length + 1 ≤ k) : countwheelref15_In.f k l v = some (decide (v ∈ l)) := by
 have := in_loop l v hl l.length 0 k (by omega) hk
 simpa [countwheelref15_In.f] using this
theorem in13_loop (l : List Int) (v : Int) (hl : Small l) : ∀ (d i k : Nat), i + d = l.length → d + 1 ≤ k → countwheelref13_in.l0 k l v (i : Int) = some (decide (v ∈ l.drop i))
 | 0, i, k, h, hk => by
  unfold Small at hl
  obtain ⟨k, rfl⟩ : ∃ m, k = m + 1 := ⟨k - 1, by omega⟩
  simp only [countwheelref13_in.l0]
  rw [if_neg (by omega), List.drop_of_length_le (by omega)]; simp
 | d + 1, i, k, h, hk => by
  have hl2 := hl
  unfold Small at hl2
  obtain ⟨k, rfl⟩ : ∃ m, k = m + 1 := ⟨k - 1, by omega⟩
  simp only [countwheelref13_in.l0]
  rw [if_pos (by omega), if_pos (by omega), dropD l 0 i (by omega)]
  by_cases e : rd l i = v
  ·rw [if_pos e]; unfold rd at e; rw [e]; simp
  ·rw [if_neg e, wsucc (by omega), in13_loop l v hl d (i + 1) k (by omega) (by omega)]
   unfold rd at e
   simp only [List.mem_cons]
   congr 1
   rw [decide_eq_decide]
   exact ⟨.inr, fun h => h.elim (fun h => absurd h.symm e) id⟩
theorem in13_is (l : List Int) (v : Int) (hl : Small l) (k : Nat) (hk : l.length + 1 ≤ k) : countwheelref13_in.f k l v = some (decide (v ∈ l)) := by
 have := in13_loop l v hl l.length 0 k (by omega) hk
 simpa [countwheelref13_in.f] using this
theorem in14_loop (l : List Int) (v : Int) (hl : Small l) : ∀ (d i k : Nat), i + d = l.length → d + 1 ≤ k → countwheelref14_in.l0 k l v (i : Int) = some (decide (v ∈ l.drop i))
 | 0, i, k, h, hk => by
  unfold Small at hl
  obtain ⟨k, rfl⟩ : ∃ m, k = m + 1 := ⟨k - 1, by omega⟩
  simp only [countwheelref14_in.l0]
  rw [if_neg (by omega), List.drop_of_length_le (by omega)]; simp
 | d + 1, i, k, h, hk => by
  have hl2 := hl
  unfold Small at hl2
  obtain ⟨k, rfl⟩ : ∃ m, k = m + 1 := ⟨k - 1, by omega⟩
  simp only [countwheelref14_in.l0]
  rw [if_pos (by omega), if_pos (by omega), dropD l 0 i (by omega)]
  by_cases e : rd l i = v
  ·rw [if_pos e]; unfold rd at e; rw [e]; simp
  ·rw [if_neg e, wsucc (by omega), in14_loop l v hl d (i + 1) k (by omega) (by omega)]
   unfold rd at e
   simp only [List.mem_cons]
   congr 1
   rw [decide_eq_decide]
   exact ⟨.inr, fun h => h.elim (fun h => absurd h.symm e) id⟩
theorem in14_is (l : List Int) (v : Int) (hl : Small l) (k : Nat) (hk : l.length + 1 ≤ k) : countwheelref14_in.f k l v = some (decide (v ∈ l)) := by
 have := in14_loop l v hl l.length 0 k (by omega) hk
 simpa [countwheelref14_in.f] using this
-- Long, Large
theorem long_l1 {ep fi : Int} {ps : List S84} {ss : List S46} {qs : List S95} {av : List S125} (hs : Small ss) : ∀ (d i k : Nat) (n : Int), i + d = ss.length → d + 1 ≤ k →
  ∃ b, countwheelref12_Long.l1 k n (i : Int) ep fi ps ss qs av = some b ∧ (b = false → ps.length ≤ 40 ∧ ss.length ≤ 20 ∧ qs.length ≤ 250 ∧ av.length ≤ 520)
 | 0, i, k, n, h, hk => by
  obtain ⟨k, rfl⟩ : ∃ m, k = m + 1 := ⟨k - 1, by omega⟩
  simp only [countwheelref12_Long.l1]
  rw [if_neg (by omega)]
  split
  ·exact ⟨_, rfl, fun h => by cases h⟩
  ·split
   ·exact ⟨_, rfl, fun h => by cases h⟩
   ·split
    ·exact ⟨_, rfl, fun h => by cases h⟩
    ·split
     ·exact ⟨_, rfl, fun h => by cases h⟩
     ·exact ⟨_, rfl, fun _ => by omega⟩
 | d + 1, i, k, n, h, hk => by
  have hs2 := hs
  unfold Small at hs2
  obtain ⟨k, rfl⟩ : ∃ m, k = m + 1 := ⟨k - 1, by omega⟩
  simp only [countwheelref12_Long.l1]
  rw [if_pos (by omega), if_pos (by omega), wsucc (by omega)]
  exact long_l1 hs d (i + 1) k _ (by omega) (by omega)
theorem long_l0 {ep fi : Int} {ps : List S84} {ss : List S46} {qs : List S95} {av : List S125} (hp : Small ps) (hs : Small ss) : ∀ (d i k : Nat) (n : Int), i + d = ps.length → d + ss.length + 2 ≤ k →
  ∃ b, countwheelref12_Long.l0 k n (i : Int) ep fi ps ss qs av = some b ∧ (b = false → ps.length ≤ 40 ∧ ss.length ≤ 20 ∧ qs.length ≤ 250 ∧ av.length ≤ 520)
 | 0, i, k, n, h, hk => by
  obtain ⟨k, rfl⟩ : ∃ m, k = m + 1 := ⟨k - 1, by omega⟩
  simp only [countwheelref12_Long.l0]
  rw [if_neg (by omega)]
  exact long_l1 hs ss.length 0 k n (by omega) (by omega)
 | d + 1, i, k, n, h, hk => by
  have hs2 := hp
  unfold Small at hs2
  obtain ⟨k, rfl⟩ : ∃ m, k = m + 1 := ⟨k - 1, by omega⟩
  simp only [countwheelref12_Long.l0]
  rw [if_pos (by omega), if_pos (by omega), wsucc (by omega)]
  exact long_l0 hp hs d (i + 1) k _ (by omega) (by omega)
/-- A module is not long, nor are its frames. -/
structure NotLarge (ps : List S84) (ss : List S46) (qs : List S95) (av : List S125) : Prop where
 hps : ps.length ≤ 40
 hss : ss.length ≤ 20
 hqs : qs.length ≤ 250
 hav : av.length ≤ 520
 each : ∀ s ∈ ss, s.f1 ≤ 200 ∧ s.f2.length ≤ 40
theorem large_l0 {ep fi : Int} {ps : List S84} {ss : List S46} {qs : List S95} {av : List S125} (hp : Small ps) (hs : Small ss) : ∀ (d i k : Nat), i + d = ss.length → d + ps.length + ss.length + 3 ≤ k →
  ∃ b, countwheelref16_Large.l0 k (i : Int) ep fi ps ss qs av = some b ∧ (b = false → (∀ s ∈ ss.drop i, s.f1 ≤ 200 ∧ s.f2.length ≤ 40) ∧ ps.length ≤ 40 ∧ ss.length ≤ 20 ∧ qs.length ≤ 250 ∧ av.length ≤ 520)
 | 0, i, k, h, hk => by
  obtain ⟨k, rfl⟩ : ∃ m, k = m + 1 := ⟨k - 1, by omega⟩
  simp only [countwheelref16_Large.l0]
  rw [if_neg (by omega)]
  obtain ⟨b, hb, hf⟩ := long_l0 (ep := ep) (fi := fi) (qs := qs) (av := av) hp hs ps.length 0 k 0 (by omega) (by omega)
  refine ⟨b, ?_, fun h => ⟨fun s hs => ?_, hf h⟩⟩
  ·unfold countwheelref12_Long.f
   rw [show ((0 : Nat) : Int) = 0 from rfl] at hb
   rw [hb]; rfl
  ·rw [List.drop_of_length_le (by omega)] at hs; cases hs
 | d + 1, i, k, h, hk => by
  have hs2 := hs
  unfold Small at hs2
  obtain ⟨k, rfl⟩ : ∃ m, k = m + 1 := ⟨k - 1, by omega⟩
  simp only [countwheelref16_Large.l0]
  rw [if_pos (by omega), if_pos (by omega), wsucc (by omega)]
  split
  ·exact ⟨_, rfl, fun h => by cases h⟩
  ·rename_i c1
   split
   ·exact ⟨_, rfl, fun h => by cases h⟩
   ·rename_i c2
    obtain ⟨b, hb, hf⟩ := large_l0 (ep := ep) (fi := fi) (qs := qs) (av := av) hp hs d (i + 1) k (by omega) (by omega)
    refine ⟨b, hb, fun h => ⟨fun s hs => ?_, (hf h).2⟩⟩
    rw [dropD ss z46 i (by omega)] at hs
    rcases List.mem_cons.1 hs with rfl | hs
    ·exact ⟨by unfold rd_T46 at c1; omega, by unfold rd_T46 at c2; omega⟩
    ·exact (hf h).1 s hs
theorem large_is {ep fi : Int} {ps : List S84} {ss : List S46} {qs : List S95} {av : List S125} (hp : Small ps) (hs : Small ss) (k : Nat) (hk : ps.length + 2 * ss.length + 3 ≤ k) :
  ∃ b, countwheelref16_Large.f k ep fi ps ss qs av = some b ∧ (b = false → NotLarge ps ss qs av) := by
 obtain ⟨b, hb, hf⟩ := large_l0 (ep := ep) (fi := fi) (qs := qs) (av := av) hp hs ss.length 0 k (by omega) (by omega)
 exact ⟨b, hb, fun h => by obtain ⟨h1, h2, h3, h4, h5⟩ := hf h; exact ⟨h2, h3, h4, h5, by simpa using h1⟩⟩
-- Scheds, Parts
theorem scheds_l0 {ep fi : Int} {ps : List S84} {ss : List S46} {qs : List S95} {av : List S125} (hs : ss.length ≤ 1000) : ∀ (d i k : Nat), i + d = ss.length → d + 1 ≤ k →
  countwheelref16_Scheds.l0 k ((ss.take i).map S46.f0) (i : Int) ep fi ps ss qs av = some (ss.map S46.f0)
 | 0, i, k, h, hk => by
  obtain ⟨k, rfl⟩ : ∃ m, k = m + 1 := ⟨k - 1, by omega⟩
  simp only [countwheelref16_Scheds.l0]
  rw [if_neg (by omega), List.take_of_length_le (by omega)]
 | d + 1, i, k, h, hk => by
  obtain ⟨k, rfl⟩ : ∃ m, k = m + 1 := ⟨k - 1, by omega⟩
  simp only [countwheelref16_Scheds.l0]
  rw [if_pos (by omega), if_pos (by omega), if_pos (by rw [List.length_map, List.length_take]; omega), wsucc (by omega)]
  have e : (ss.take i).map S46.f0 ++ [(rd_T46 ss i).f0] = (ss.take (i + 1)).map S46.f0 := by
   rw [List.take_succ_eq_append_getElem (by omega), List.map_append]
   unfold rd_T46
   rw [Int.toNat_natCast, List.getD_eq_getElem?_getD, List.getElem?_eq_getElem (by omega)]
   rfl
  rw [e]
  exact scheds_l0 hs d (i + 1) k (by omega) (by omega)
theorem scheds_is {ep fi : Int} {ps : List S84} {ss : List S46} {qs : List S95} {av : List S125} (hs : ss.length ≤ 1000) (k : Nat) (hk : ss.length + 1 ≤ k) : countwheelref16_Scheds.f k ep fi ps ss qs av = some (ss.map S46.f0) :=
 scheds_l0 hs ss.length 0 k (by omega) hk
theorem parts_l0 {ep fi : Int} {ps : List S84} {ss : List S46} {qs : List S95} {av : List S125} (hs : ps.length ≤ 1000) : ∀ (d i k : Nat), i + d = ps.length → d + 1 ≤ k →
  countwheelref16_Parts.l0 k ((ps.take i).map S84.f0) (i : Int) ep fi ps ss qs av = some (ps.map S84.f0)
 | 0, i, k, h, hk => by
  obtain ⟨k, rfl⟩ : ∃ m, k = m + 1 := ⟨k - 1, by omega⟩
  simp only [countwheelref16_Parts.l0]
  rw [if_neg (by omega), List.take_of_length_le (by omega)]
 | d + 1, i, k, h, hk => by
  obtain ⟨k, rfl⟩ : ∃ m, k = m + 1 := ⟨k - 1, by omega⟩
  simp only [countwheelref16_Parts.l0]
  rw [if_pos (by omega), if_pos (by omega), if_pos (by rw [List.length_map, List.length_take]; omega), wsucc (by omega)]
  have e : (ps.take i).map S84.f0 ++ [(rd_T84 ps i).f0] = (ps.take (i + 1)).map S84.f0 := by
   rw [List.take_succ_eq_append_getElem (by omega), List.map_append]
   unfold rd_T84
   rw [Int.toNat_natCast, List.getD_eq_getElem?_getD, List.getElem?_eq_getElem (by omega)]
   rfl
  rw [e]
  exact parts_l0 hs d (i + 1) k (by omega) (by omega)
theorem parts_is {ep fi : Int} {ps : List S84} {ss : List S46} {qs : List S95} {av : List S125} (hs : ps.length ≤ 1000) (k : Nat) (hk : ps.length + 1 ≤ k) : countwheelref16_Parts.f k ep fi ps ss qs av = some (ps.map S84.f0) :=
 parts_l0 hs ps.length 0 k (by omega) hk
-- a partition's check
theorem name_l0 (s : ByteArray) (hs : s.size ≤ 9223372036854775807) : ∀ (d i k : Nat), i + d = s.size → d + 1 ≤ k → ∃ b, countwheelref06_Right.l0 k s (i : Int) = some b
 | 0, i, k, h, hk => by
  obtain ⟨k, rfl⟩ : ∃ m, k = m + 1 := ⟨k - 1, by omega⟩
  simp only [countwheelref06_Right.l0]
  rw [if_neg (by omega)]
  exact ⟨_, rfl⟩
 | d + 1, i, k, h, hk => by
  obtain ⟨k, rfl⟩ : ∃ m, k = m + 1 := ⟨k - 1, by omega⟩
  simp only [countwheelref06_Right.l0]
  rw [if_pos (by omega), if_pos (by omega), wsucc (by omega)]
  have ih := name_l0 s hs d (i + 1) k (by omega) (by omega)
  obtain ⟨t, ht⟩ : ∃ t, countwheelref06_letter.f (bt s i) = some t := by unfold countwheelref06_letter.f; split <;> exact ⟨_, rfl⟩
  rw [ht]
  simp only [Option.bind_some]
  repeat (first | exact ih | exact ⟨_, rfl⟩ | split)
theorem name_is (s : ByteArray) (hs : s.size ≤ 9223372036854775807) (k : Nat) (hk : s.size + 3 ≤ k) : ∃ b, countwheelref06_Right.f k s = some b := by
 obtain ⟨k, rfl⟩ : ∃ m, k = m + 1 := ⟨k - 1, by omega⟩
 have j : ∀ b, ∃ r, countwheelref06_Right.j0 (k + 1) s b = some r := by
  intro b
  simp only [countwheelref06_Right.j0]
  split
  ·exact ⟨_, rfl⟩
  ·exact name_l0 s hs s.size 0 k (by omega) (by omega)
 unfold countwheelref06_Right.f
 split
 ·exact j _
 ·split
  ·exact j _
  ·rw [if_pos]
   ·obtain ⟨t, ht⟩ : ∃ t, countwheelref06_letter.f (bt s 0) = some t := by unfold countwheelref06_letter.f; split <;> exact ⟨_, rfl⟩
    rw [ht]
    exact j _
   ·rename_i h1 h2
    rcases Nat.eq_zero_or_pos s.size with h | h
    ·exact absurd (by rw [show s = ByteArray.empty by simpa using h]; unfold ByteArray.toList; unfold ByteArray.toList.loop; rw [if_neg (by decide)]; rfl) h1
    ·omega
theorem part_is (p : S84) (hs : p.f1.size ≤ 9223372036854775807) (k : Nat) (hk : p.f1.size + 4 ≤ k) : ∃ r, countwheelref08_Right.f k p.f0 p.f1 p.f2 p.f3 = some r := by
 obtain ⟨k, rfl⟩ : ∃ m, k = m + 1 := ⟨k - 1, by omega⟩
 have j : ∀ b, ∃ r, countwheelref08_Right.j0 (k + 1) b p.f0 p.f1 p.f2 p.f3 = some r := by
  intro b
  simp only [countwheelref08_Right.j0]
  split
  ·exact ⟨_, rfl⟩
  ·obtain ⟨t, ht⟩ := name_is p.f1 hs k (by omega)
   rw [ht]
   simp only [Option.bind_some]
   repeat (first | exact ⟨_, rfl⟩ | split)
 unfold countwheelref08_Right.f
 split <;> exact j _
end Go.Proofs.Ytnniejaknnpcjaa.Fin
