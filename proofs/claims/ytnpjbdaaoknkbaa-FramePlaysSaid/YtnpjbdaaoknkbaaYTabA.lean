/- Runs of a schedule, in plain words: how they grow, that they lie side by side, and which one a tick is in. -/
import Derived.Test.YtnpjbdaaoknkbaaYQ2
import Derived.Test.YtnpjbdaaoknkbaaYQ3
import Derived.Lib.Hide
namespace Go.Proofs.Ytnpjbdaaoknkbaa.Tab
open Go.RowKit Go.Proofs.YtnpjbdaaoknkbaaW.PrintWords Go.Proofs.YtnpjbdaaoknkbaaW.PrintLast Go.Proofs.YtnpjbdaaoknkbaaW.PrintMore Go.Proofs.Ytnpjbdaaoknkbaa.PTableFrames
set_option linter.unusedVariables false
set_option linter.unusedSimpArgs false
theorem wsucc {i : Nat} (h : i < 9223372036854775807) : wrap64 ((i : Int) + 1) = ((i + 1 : Nat) : Int) := by unfold wrap64; omega
theorem nil_or_app {α : Type} (l : List α) : l = [] ∨ ∃ q r, l = q ++ [r] := by
 rcases List.eq_nil_or_concat l with h | ⟨q, r, h⟩
 ·exact .inl h
 ·exact .inr ⟨q, r, by rw [h, List.concat_eq_append]⟩
/-- Ticks of an owner behind runs. -/
def grw (rs : List S44) (id at_ len : Int) : List S44 :=
 if len ≤ 0 then rs else match rs.getLast? with
 | none => [⟨id, at_, len⟩]
 | some r => if r.f0 = id then rs.dropLast ++ [⟨r.f0, r.f1, r.f2 + len⟩] else rs ++ [⟨id, at_, len⟩]
theorem rd_last {rs : List S44} {r : S44} (h : rs.getLast? = some r) : rd_T44 rs ((rs.length : Int) - 1) = r := by
 unfold rd_T44
 have h2 : ((rs.length : Int) - 1).toNat = rs.length - 1 := by omega
 rw [h2, List.getD_eq_getElem?_getD, ← List.getLast?_eq_getElem?, h]; rfl
theorem set_last {α : Type} (l : List α) (x y : α) : (l ++ [x]).set l.length y = l ++ [y] := by
 rw [List.set_append_right _ _ (Nat.le_refl _), Nat.sub_self]; rfl
theorem grow_is (rs : List S44) (id at_ len : Int) (hn : rs.length ≤ 100000) (hl : ∀ r ∈ rs, 0 ≤ r.f2 ∧ r.f2 ≤ 4000000) (h1 : len ≤ 4000000) : table_grow.f rs id at_ len = some (grw rs id at_ len) := by
 unfold table_grow.f grw
 by_cases c0 : len ≤ 0
 ·rw [if_pos c0, if_pos c0]
 ·rw [if_neg c0, if_neg c0]
  rcases nil_or_app rs with rfl | ⟨q, r, rfl⟩
  ·rw [if_neg (by simp), if_pos (by simp)]; rfl
  ·have hr := rd_last (rs := q ++ [r]) (r := r) (by simp)
   have hlen : (q ++ [r]).length = q.length + 1 := by simp
   rw [hlen] at hn
   have hw : wrap64 (((q ++ [r]).length : Int) - 1) = ((q ++ [r]).length : Int) - 1 := by rw [hlen]; unfold wrap64; omega
   have hb := hl r (by simp)
   rw [if_pos (by rw [hlen]; omega), hw, if_pos (by rw [hlen]; omega), if_pos (by omega), hr, List.getLast?_concat]
   simp only
   by_cases c1 : r.f0 = id
   ·rw [if_pos c1, if_pos c1, List.dropLast_concat]
    have hw2 : wrap64 (r.f2 + len) = r.f2 + len := by unfold wrap64; omega
    have ht : (((q ++ [r]).length : Int) - 1).toNat = q.length := by rw [hlen]; omega
    rw [hw2, ht, set_last]
   ·rw [if_neg c1, if_neg c1, if_pos (by rw [hlen]; omega)]
/-- Runs lie side by side from nought to a tick; no two side by side are one owner's; each one's ticks are its owner's. -/
structure Runs (own : Int → Int) (rs : List S44) (at_ : Int) : Prop where
 zero : rs = [] → at_ = 0
 first : ∀ r, rs[0]? = some r → r.f1 = 0
 step : ∀ k r q, rs[k]? = some r → rs[k + 1]? = some q → q.f1 = r.f1 + r.f2 ∧ q.f0 ≠ r.f0
 last : ∀ r, rs.getLast? = some r → r.f1 + r.f2 = at_
 pos : ∀ r ∈ rs, 1 ≤ r.f2
 own : ∀ r ∈ rs, ∀ t, r.f1 ≤ t → t < r.f1 + r.f2 → own t = r.f0
 low : ∀ r ∈ rs, 0 ≤ r.f1 ∧ r.f1 + r.f2 ≤ at_
variable {own : Int → Int} {rs : List S44} {at_ : Int}
theorem Runs.nil (own : Int → Int) : Runs own [] 0 :=
 ⟨fun _ => rfl, fun r h => by simp at h, fun k r q h => by simp at h, fun r h => by simp at h, fun r h => by simp at h, fun r h => by simp at h, fun r h => by simp at h⟩
theorem Runs.at_ge (h : Runs own rs at_) : 0 ≤ at_ := by
 rcases nil_or_app rs with rfl | ⟨q, r, rfl⟩
 ·have := h.zero rfl; omega
 ·have h1 := h.low r (by simp)
  have h2 := h.pos r (by simp)
  omega
theorem get_concat {α : Type} (q : List α) (r x : α) (k : Nat) (h : (q ++ [r])[k]? = some x) : (k < q.length ∧ q[k]? = some x) ∨ (k = q.length ∧ x = r) := by
 rcases Nat.lt_trichotomy k q.length with h1 | h1 | h1
 ·rw [List.getElem?_append_left h1] at h; exact .inl ⟨h1, h⟩
 ·subst h1; rw [List.getElem?_append_right (Nat.le_refl _)] at h; simp at h; exact .inr ⟨rfl, h.symm⟩
 ·rw [List.getElem?_append_right (by omega)] at h
  rw [List.getElem?_eq_none (by simp; omega)] at h; cases h
theorem Runs.grow (h : Runs own rs at_) (id len : Int) (h0 : 0 ≤ len) (ho : ∀ t, at_ ≤ t → t < at_ + len → own t = id) : Runs own (grw rs id at_ len) (at_ + len) := by
 unfold grw
 by_cases c0 : len ≤ 0
 ·rw [if_pos c0]
  obtain rfl : len = 0 := by omega
  rw [Int.add_zero]; exact h
 ·rw [if_neg c0]
  have hat := h.at_ge
  rcases nil_or_app rs with rfl | ⟨q, r, rfl⟩
  ·have hz := h.zero rfl
   simp only [List.getLast?_nil]
   refine ⟨fun e => by simp at e, fun x hx => ?_, fun k x y hx hy => by simp at hy, fun x hx => ?_, fun x hx => ?_, fun x hx t ht1 ht2 => ?_, fun x hx => ?_⟩
   ·simp at hx; subst hx; exact hz
   ·simp at hx; subst hx; rfl
   ·simp at hx; subst hx; show 1 ≤ len; omega
   ·simp at hx; subst hx; exact ho t ht1 ht2
   ·simp at hx; subst hx; exact ⟨hat, Int.le_refl _⟩
  ·rw [List.getLast?_concat]
   simp only
   have hlast := h.last r (by simp)
   have hrp := h.pos r (by simp)
   have hrl := h.low r (by simp)
   by_cases c1 : r.f0 = id
   ·rw [if_pos c1, List.dropLast_concat]
    refine ⟨fun e => by simp at e, fun x hx => ?_, fun k x y hx hy => ?_, fun x hx => ?_, fun x hx => ?_, fun x hx t ht1 ht2 => ?_, fun x hx => ?_⟩
    ·rcases get_concat _ _ _ _ hx with ⟨h1, h2⟩ | ⟨h1, rfl⟩
     ·exact h.first x (by rw [List.getElem?_append_left h1]; exact h2)
     ·have := h.first r (by rw [h1, List.getElem?_append_right (Nat.le_refl _)]; simp)
      exact this
    ·rcases get_concat _ _ _ _ hy with ⟨h1, h2⟩ | ⟨h1, rfl⟩
     ·rcases get_concat _ _ _ _ hx with ⟨h3, h4⟩ | ⟨h3, _⟩
      ·exact h.step k x y (by rw [List.getElem?_append_left h3]; exact h4) (by rw [List.getElem?_append_left h1]; exact h2)
      ·omega
     ·rcases get_concat _ _ _ _ hx with ⟨h3, h4⟩ | ⟨h3, _⟩
      ·exact h.step k x r (by rw [List.getElem?_append_left h3]; exact h4) (by rw [h1, List.getElem?_append_right (Nat.le_refl _)]; simp)
      ·omega
    ·rw [List.getLast?_concat] at hx; injection hx with hx; subst hx; show r.f1 + (r.f2 + len) = at_ + len; omega
    ·rcases List.mem_append.1 hx with hx | hx
     ·exact h.pos x (by simp [hx])
     ·simp at hx; subst hx; show 1 ≤ r.f2 + len; omega
    ·rcases List.mem_append.1 hx with hx | hx
     ·exact h.own x (by simp [hx]) t ht1 ht2
     ·simp at hx; subst hx
      have ht1' : r.f1 ≤ t := ht1
      have ht2' : t < r.f1 + (r.f2 + len) := ht2
      rcases Int.lt_or_le t at_ with h5 | h5
      ·exact h.own r (by simp) t ht1' (by omega)
      ·rw [ho t h5 (by omega)]; exact c1.symm
    ·rcases List.mem_append.1 hx with hx | hx
     ·have := h.low x (by simp [hx]); omega
     ·simp at hx; subst hx; show 0 ≤ r.f1 ∧ r.f1 + (r.f2 + len) ≤ at_ + len; omega
   ·rw [if_neg c1]
    refine ⟨fun e => by simp at e, fun x hx => ?_, fun k x y hx hy => ?_, fun x hx => ?_, fun x hx => ?_, fun x hx t ht1 ht2 => ?_, fun x hx => ?_⟩
    ·rcases get_concat _ _ _ _ hx with ⟨h1, h2⟩ | ⟨h1, rfl⟩
     ·exact h.first x h2
     ·simp at h1
    ·rcases get_concat _ _ _ _ hy with ⟨h1, h2⟩ | ⟨h1, rfl⟩
     ·rcases get_concat _ _ _ _ hx with ⟨h3, h4⟩ | ⟨h3, _⟩
      ·exact h.step k x y h4 h2
      ·omega
     ·rcases get_concat _ _ _ _ hx with ⟨h3, h4⟩ | ⟨h3, _⟩
      ·have hk : k = q.length := by simp at h1; omega
       subst hk
       rw [List.getElem?_append_right (Nat.le_refl _)] at h4
       simp at h4; subst h4
       exact ⟨by show at_ = r.f1 + r.f2; omega, fun e => c1 e.symm⟩
      ·omega
    ·rw [List.getLast?_concat] at hx; injection hx with hx; subst hx; rfl
    ·rcases List.mem_append.1 hx with hx | hx
     ·exact h.pos x hx
     ·simp at hx; subst hx; show 1 ≤ len; omega
    ·rcases List.mem_append.1 hx with hx | hx
     ·exact h.own x hx t ht1 ht2
     ·simp at hx; subst hx; exact ho t ht1 ht2
    ·rcases List.mem_append.1 hx with hx | hx
     ·have := h.low x hx; omega
     ·simp at hx; subst hx; exact ⟨hat, Int.le_refl _⟩
theorem Runs.mono (h : Runs own rs at_) {k m : Nat} (hkm : k < m) {r q : S44} (hr : rs[k]? = some r) (hq : rs[m]? = some q) : r.f1 + r.f2 ≤ q.f1 := by
 induction m generalizing q with
 | zero => omega
 | succ m ih =>
  have hm : m < rs.length := by have := (List.getElem?_eq_some_iff.1 hq).1; omega
  have e := (h.step m rs[m] q (List.getElem?_eq_getElem hm) hq).1
  rcases Nat.lt_or_ge k m with h1 | h1
  ·have h2 := ih h1 (List.getElem?_eq_getElem hm)
   have h3 := h.pos rs[m] (List.getElem_mem hm)
   omega
  ·obtain rfl : k = m := by omega
   rw [List.getElem?_eq_getElem hm] at hr
   injection hr with hr
   rw [hr] at e; omega
/-- Which run is a tick in. -/
structure In (rs : List S44) (t : Int) (j : Nat) : Prop where
 lt : j < rs.length
 lo : (rd_T44 rs (j : Int)).f1 ≤ t
 hi : t < (rd_T44 rs (j : Int)).f1 + (rd_T44 rs (j : Int)).f2
theorem rd_get (rs : List S44) (j : Nat) (h : j < rs.length) : rs[j]? = some (rd_T44 rs (j : Int)) := by
 unfold rd_T44
 rw [Int.toNat_natCast, List.getD_eq_getElem?_getD, List.getElem?_eq_getElem h]; rfl
theorem rd_mem (rs : List S44) (j : Nat) (h : j < rs.length) : rd_T44 rs (j : Int) ∈ rs := List.mem_of_getElem? (rd_get rs j h)
theorem Runs.in_lo (h : Runs own rs at_) {t : Int} {j : Nat} (hi : In rs t j) (k : Nat) (hk : k ≤ j) : (rd_T44 rs (k : Int)).f1 ≤ t := by
 rcases Nat.lt_or_ge k j with h1 | h1
 ·have h2 := h.mono h1 (rd_get rs k (by have := hi.lt; omega)) (rd_get rs j hi.lt)
  have h3 := h.pos _ (rd_mem rs k (by have := hi.lt; omega))
  have := hi.lo
  omega
 ·obtain rfl : k = j := by omega
  exact hi.lo
theorem Runs.in_hi (h : Runs own rs at_) {t : Int} {j : Nat} (hi : In rs t j) (k : Nat) (hk : j < k) (hl : k < rs.length) : t < (rd_T44 rs (k : Int)).f1 := by
 have h2 := h.mono hk (rd_get rs j hi.lt) (rd_get rs k hl)
 have := hi.hi
 omega
theorem Runs.in_own (h : Runs own rs at_) {t : Int} {j : Nat} (hi : In rs t j) : own t = (rd_T44 rs (j : Int)).f0 := h.own _ (rd_mem rs j hi.lt) t hi.lo hi.hi
theorem Runs.in_zero (h : Runs own rs at_) (hp : 0 < at_) : In rs 0 0 := by
 have hne : rs ≠ [] := fun e => by have := h.zero e; omega
 have hl := List.length_pos_iff.2 hne
 have h1 := h.first _ (rd_get rs 0 hl)
 have h2 := h.pos _ (rd_mem rs 0 hl)
 exact ⟨hl, by rw [h1]; exact Int.le_refl _, by omega⟩
theorem Runs.in_next (h : Runs own rs at_) {t : Int} {j : Nat} (hi : In rs t j) (hlt : t + 1 < at_) :
  In rs (t + 1) (if t + 1 < (rd_T44 rs (j : Int)).f1 + (rd_T44 rs (j : Int)).f2 then j else j + 1) := by
 have h1 := hi.lo
 have h2 := hi.hi
 by_cases c : t + 1 < (rd_T44 rs (j : Int)).f1 + (rd_T44 rs (j : Int)).f2
 ·rw [if_pos c]; exact ⟨hi.lt, by omega, c⟩
 ·rw [if_neg c]
  have hj : j + 1 < rs.length := by
   rcases Nat.lt_or_ge (j + 1) rs.length with h3 | h3
   ·exact h3
   ·exfalso
    have h4 : rs.getLast? = some (rd_T44 rs (j : Int)) := by rw [List.getLast?_eq_getElem?, show rs.length - 1 = j by have := hi.lt; omega]; exact rd_get rs j hi.lt
    have := h.last _ h4
    omega
  have h5 := (h.step j _ _ (rd_get rs j hi.lt) (rd_get rs (j + 1) hj)).1
  have h6 := h.pos _ (rd_mem rs (j + 1) hj)
  exact ⟨hj, by omega, by omega⟩
end Go.Proofs.Ytnpjbdaaoknkbaa.Tab
