/- Reading signs: what the program reads is what the document reads; the signs of ids from -1 to 35 are read as these. -/
import Derived.Test.YtolokohgphdngaaGnp
namespace Go.Proofs.Ytolokohgphdngaa.Gnt
open Go.RowKit Go.Proofs.YtolokohgphdngaaW.PrintWords Go.Proofs.YtolokohgphdngaaW.PrintLast Go.Proofs.YtolokohgphdngaaW.PrintMore Go.Proofs.Ytolokohgphdngaa.PGanttReads
set_option linter.unusedVariables false
set_option linter.unusedSimpArgs false
/-- The bytes of a text. -/
def bys (s : ByteArray) : List Nat := s.data.toList.map UInt8.toNat
theorem bys_lt (s : ByteArray) : ∀ b ∈ bys s, b < 256 := by
  intro b hb
  obtain ⟨x, _, rfl⟩ := List.mem_map.1 hb
  exact x.toNat_lt
theorem bys_len (s : ByteArray) : (bys s).length = s.size := by unfold bys; rw [List.length_map, Array.length_toList]; rfl
theorem bys_app (s t : ByteArray) : bys (s ++ t) = bys s ++ bys t := by unfold bys; simp [ByteArray.data_append]
theorem bt_bys (s : ByteArray) (i : Nat) (h : i < s.size) : bt s (i : Int) = (((bys s)[i]'(by rw [bys_len]; exact h) : Nat) : Int) := by
  unfold bt bys
  rw [Int.toNat_natCast, dif_pos h]
  simp [ByteArray.getElem_eq_getElem_data]
/-- The id of a sign. -/
def idOf (b : Nat) : Option Int := if b = 46 then some (-1) else if 48 ≤ b ∧ b ≤ 57 then some ((b : Int) - 48) else if 97 ≤ b ∧ b ≤ 122 then some ((b : Int) - 87) else none
def idOut : Option Int → Int × Bool
  | some v => (v, true)
  | none => (0, false)
theorem id_all : ∀ b : Fin 256, gantt_id.f 1 ((b.1 : Nat) : Int) = some (idOut (idOf b.1)) := by decide +kernel
theorem id_is (k b : Nat) (h : b < 256) : gantt_id.f (k + 1) (b : Int) = some (idOut (idOf b)) := by
  rw [← id_all ⟨b, h⟩]
  unfold gantt_id.f
  simp only [gantt_id.j0]
/-- What is read. -/
def readL : List Nat → List Int → List Int × Bool
  | [], acc => (acc, true)
  | b :: l, acc => match idOf b with
    | some v => readL l (acc ++ [v])
    | none => ([], false)
theorem read_loop (s : ByteArray) (hs : s.size ≤ 1000000) : ∀ (m : Nat) (acc : List Int), m ≤ s.size → acc.length + m ≤ 1000000 → gantt_Read.l0 (m + 2) s acc (s.size : Int) ((s.size - m : Nat) : Int) = some (readL ((bys s).drop (s.size - m)) acc)
  | 0, acc, _, _ => by
    unfold gantt_Read.l0
    rw [if_neg (by omega), Nat.sub_zero, List.drop_of_length_le (by rw [bys_len]; omega)]
    rfl
  | m + 1, acc, hm, hl => by
    have hi : s.size - (m + 1) < s.size := by omega
    rw [show m + 1 + 2 = (m + 2) + 1 from rfl]
    unfold gantt_Read.l0
    rw [if_pos (by omega), if_pos (by omega), if_pos (by omega), bt_bys s _ hi]
    have hb := bys_lt s _ (List.getElem_mem (by rw [bys_len]; exact hi : s.size - (m + 1) < (bys s).length))
    rw [List.drop_eq_getElem_cons (by rw [bys_len]; exact hi)]
    generalize (bys s)[s.size - (m + 1)]'(by rw [bys_len]; exact hi) = b at *
    have e3 : wrap64 (((s.size - (m + 1) : Nat) : Int) + 1) = ((s.size - m : Nat) : Int) := by unfold wrap64; omega
    rw [show m + 2 = (m + 1) + 1 from rfl, id_is (m + 1) b hb, Option.bind_some, e3]
    unfold readL
    cases ho : idOf b with
    | none => simp [idOut]
    | some v =>
      simp only [idOut, if_pos]
      rw [if_pos (by omega), read_loop s hs m (acc ++ [v]) (by omega) (by rw [List.length_append, List.length_singleton]; omega), show s.size - (m + 1) + 1 = s.size - m by omega]
theorem read_is (s : ByteArray) (hs : s.size ≤ 1000) : gantt_Read.f (s.size + 2) s = some (readL (bys s) []) := by
  have := read_loop s (by omega) s.size [] (Nat.le_refl _) (by simp; omega)
  rw [Nat.sub_self, List.drop_zero] at this
  exact this
def allB : ByteArray := ⟨#[46, 48, 49, 50, 51, 52, 53, 54, 55, 56, 57, 97, 98, 99, 100, 101, 102, 103, 104, 105, 106, 107, 108, 109, 110, 111, 112, 113, 114, 115, 116, 117, 118, 119, 120, 121, 122]⟩
theorem all_is : countwheelref36_all.f = some allB := rfl
/-- The place of a byte among the signs, looked for from the (37 - n)th on. -/
def look (b : Nat) : Nat → Int → Int
  | 0, a => a
  | n + 1, a => look b n (if bt allB ((37 - (n + 1) : Nat) : Int) = (b : Int) then ((37 - (n + 1) : Nat) : Int) else a)
theorem look_all : ∀ b : Fin 256, look b.1 37 (-1) = match idOf b.1 with | some v => v + 1 | none => -1 := by decide +kernel
theorem look_is (b : Nat) (h : b < 256) : look b 37 (-1) = match idOf b with | some v => v + 1 | none => -1 := look_all ⟨b, h⟩
theorem idOf_range {b : Nat} {v : Int} (h : idOf b = some v) : -1 ≤ v ∧ v ≤ 35 := by
  unfold idOf at h
  split at h
  · cases h; omega
  · split at h
    · cases h; omega
    · split at h
      · cases h; omega
      · cases h
theorem same_loop (l : List Int) (hl : l.length ≤ 1000000) : ∀ (m : Nat), m ≤ l.length → countwheelref10_SameInts.l0 (m + 1) l l ((l.length - m : Nat) : Int) = some true
  | 0, _ => by
    unfold countwheelref10_SameInts.l0
    rw [if_neg (by omega)]
  | m + 1, hm => by
    unfold countwheelref10_SameInts.l0
    have e3 : wrap64 (((l.length - (m + 1) : Nat) : Int) + 1) = ((l.length - m : Nat) : Int) := by unfold wrap64; omega
    rw [if_pos (by omega), if_pos (by omega), if_pos (by omega), if_pos rfl, e3]
    exact same_loop l hl m (by omega)
theorem same_is (l : List Int) (hl : l.length ≤ 1000000) : countwheelref10_SameInts.f (l.length + 1) l l = some true := by
  unfold countwheelref10_SameInts.f
  rw [if_pos rfl]
  have := same_loop l hl l.length (Nat.le_refl _)
  rw [Nat.sub_self] at this
  exact this
/-- The sign of an id from -1 to 35. -/
def signB (v : Int) : Nat := if v = -1 then 46 else if v ≤ 9 then (v + 48).toNat else (v + 87).toNat
theorem idOf_sign {v : Int} (h0 : -1 ≤ v) (h1 : v ≤ 35) : idOf (signB v) = some v := by
  unfold signB
  by_cases c : v = -1
  · subst c; rfl
  · rw [if_neg c]
    by_cases d : v ≤ 9
    · rw [if_pos d]; unfold idOf; rw [if_neg (by omega), if_pos (by omega)]; congr 1; omega
    · rw [if_neg d]; unfold idOf; rw [if_neg (by omega), if_neg (by omega), if_pos (by omega)]; congr 1; omega
theorem readL_signs : ∀ (l : List Int) (acc : List Int), (∀ v ∈ l, -1 ≤ v ∧ v ≤ 35) → readL (l.map signB) acc = (acc ++ l, true)
  | [], acc, _ => by simp [readL]
  | v :: l, acc, h => by
    rw [List.map_cons]
    unfold readL
    rw [idOf_sign (h v (by simp)).1 (h v (by simp)).2]
    simp only
    rw [readL_signs l (acc ++ [v]) (fun x hx => h x (by simp [hx]))]
    simp
theorem sign_all : ∀ j : Fin 37, bys (allB.extract j.1 (j.1 + 1)) = [signB ((j.1 : Int) - 1)] := by decide +kernel
theorem refsign_is (v : Int) (h0 : -1 ≤ v) (h1 : v ≤ 35) : ∃ t, countwheelref36_Sign.f v = some t ∧ bys t = [signB v] := by
  obtain ⟨j, hj⟩ : ∃ j : Nat, v = (j : Int) - 1 := ⟨(v + 1).toNat, by omega⟩
  have hjl : j < 37 := by omega
  refine ⟨allB.extract j (j + 1), ?_, by rw [hj]; exact sign_all ⟨j, hjl⟩⟩
  unfold countwheelref36_Sign.f
  have e1 : wrap64 (v + 1) = (j : Int) := by unfold wrap64; omega
  have e2 : wrap64 (v + 2) = ((j + 1 : Nat) : Int) := by unfold wrap64; omega
  have hz : (allB.size : Int) = 37 := rfl
  rw [if_neg (by omega), if_neg (by omega), all_is, Option.bind_some, e1, e2, hz, if_pos (by omega), if_pos (by omega), if_pos (by omega), Int.toNat_natCast, Int.toNat_natCast]
theorem rd_at (l : List Int) (i : Nat) (h : i < l.length) : rd l (i : Int) = l[i] := by unfold rd; rw [Int.toNat_natCast, List.getD_eq_getElem?_getD, List.getElem?_eq_getElem h]; rfl
theorem signs_loop (l : List Int) (hl : l.length ≤ 1000000) (hv : ∀ v ∈ l, -1 ≤ v ∧ v ≤ 35) : ∀ (m : Nat) (acc : ByteArray), m ≤ l.length → acc.size + m ≤ 1000000 → ∃ t, countwheelref36_Signs.l0 (m + 1) l acc ((l.length - m : Nat) : Int) = some t ∧ bys t = bys acc ++ (l.drop (l.length - m)).map signB
  | 0, acc, _, _ => by
    refine ⟨acc, ?_, by rw [Nat.sub_zero, List.drop_length]; simp⟩
    unfold countwheelref36_Signs.l0
    rw [if_neg (by omega)]
  | m + 1, acc, hm, ha => by
    have hi : l.length - (m + 1) < l.length := by omega
    have e3 : wrap64 (((l.length - (m + 1) : Nat) : Int) + 1) = ((l.length - m : Nat) : Int) := by unfold wrap64; omega
    obtain ⟨u, hu, hub⟩ := refsign_is l[l.length - (m + 1)] (hv _ (List.getElem_mem hi)).1 (hv _ (List.getElem_mem hi)).2
    have hus : u.size = 1 := by rw [← bys_len, hub]; rfl
    obtain ⟨t, ht, htb⟩ := signs_loop l hl hv m (acc ++ u) (by omega) (by rw [ByteArray.size_append, hus]; omega)
    refine ⟨t, ?_, ?_⟩
    · unfold countwheelref36_Signs.l0
      rw [if_pos (by omega), if_pos (by omega), rd_at l _ hi, hu, Option.bind_some, if_pos (by omega), e3]
      exact ht
    · rw [htb, bys_app, hub, List.drop_eq_getElem_cons hi, show l.length - (m + 1) + 1 = l.length - m by omega]
      simp
theorem signs_is (l : List Int) (hl : l.length ≤ 1000000) (hv : ∀ v ∈ l, -1 ≤ v ∧ v ≤ 35) : ∃ t, countwheelref36_Signs.f (l.length + 1) l = some t ∧ bys t = l.map signB := by
  obtain ⟨t, ht, hb⟩ := signs_loop l hl hv l.length ⟨#[]⟩ (Nat.le_refl _) (by show 0 + l.length ≤ 1000000; omega)
  rw [Nat.sub_self] at ht hb
  exact ⟨t, ht, by rw [hb]; rfl⟩
end Go.Proofs.Ytolokohgphdngaa.Gnt
