/- The plain laws: Len, Add. -/
import Derived.Test.YtolokohgphdngaaStrD
namespace Go.Proofs.Ytolokohgphdngaa.Str
open Go.RowKit Go.Proofs.YtolokohgphdngaaW.PrintWords Go.Proofs.YtolokohgphdngaaW.PrintLast Go.Proofs.YtolokohgphdngaaW.PrintMore Go.Proofs.Ytolokohgphdngaa.Mine Go.Proofs.Ytolokohgphdngaa.PStripAdds
open Go.Proofs.Ytolokohgphdngaa.Sl (SL Stp Chg St No)
set_option linter.unusedVariables false
set_option linter.unusedSimpArgs false
attribute [local go_sem] max2_int min2_int max_two min_two max_three min_three max_four min_four
variable {l : List SL} {w0 w : World} {g : Nat} {rs : List S95}
def cv (rs : List S95) : List S99 := rs.map fun r => (⟨r.f0, r.f1⟩ : S99)
theorem cv_len (rs : List S95) : (cv rs).length = rs.length := by unfold cv; simp
theorem cv_app (a b : List S95) : cv (a ++ b) = cv a ++ cv b := by unfold cv; simp
theorem rd99 (pre suf : List S95) (r : S95) : rd_T99 (cv (pre ++ r :: suf)) ((pre.length : Nat) : Int) = ⟨r.f0, r.f1⟩ := by
  unfold rd_T99 cv
  rw [Int.toNat_natCast, List.getD_eq_getElem?_getD, List.getElem?_map, List.getElem?_append_right (Nat.le_refl _), Nat.sub_self]
  rfl
theorem rd95 (pre suf : List S95) (r : S95) : rd_T95 (pre ++ r :: suf) ((pre.length : Nat) : Int) = r := by
  unfold rd_T95
  rw [Int.toNat_natCast, List.getD_eq_getElem?_getD, List.getElem?_append_right (Nat.le_refl _), Nat.sub_self]
  rfl
theorem wrapN {x : Int} (h0 : 0 ≤ x) (h1 : x ≤ 9223372036854775807) : wrap64 x = x := by unfold wrap64; omega
theorem total_nil : total [] = 0 := rfl
theorem total_cons (r : S95) (l : List S95) : total (r :: l) = r.f1 + total l := by simp [total]
theorem app_assoc1 (pre suf : List S95) (r : S95) : pre ++ r :: suf = (pre ++ [r]) ++ suf := by simp
theorem Oks.mid {pre suf : List S95} {r : S95} (h : Oks (pre ++ r :: suf)) : 1 ≤ r.f1 ∧ 0 ≤ total pre ∧ 0 ≤ total suf ∧ total pre + r.f1 + total suf ≤ 1073741824 := by
  have h1 := h.pos r (by simp)
  have h2 := total_ge (rs := pre) (fun x hx => h.pos x (by simp [hx]))
  have h3 := total_ge (rs := suf) (fun x hx => h.pos x (by simp [hx]))
  have h4 := h.top
  rw [total_app, total_cons] at h4
  omega
theorem len_loop : ∀ (suf pre : List S95) (k : Nat), Oks (pre ++ suf) → suf.length + 1 ≤ k → countwheelref27_Len.l0 k (cv (pre ++ suf)) (total pre) ((pre.length : Nat) : Int) = some (total (pre ++ suf))
  | [], pre, 0, _, h => by simp at h
  | [], pre, k + 1, hk, _ => by
    unfold countwheelref27_Len.l0
    rw [if_neg (by rw [cv_len]; simp), List.append_nil]
  | r :: suf, pre, 0, _, h => by simp at h
  | r :: suf, pre, k + 1, hk, h => by
    unfold countwheelref27_Len.l0
    have hm := hk.mid
    have hl := hk.len
    simp only [List.length_append, List.length_cons] at hl h
    rw [if_pos (by rw [cv_len]; simp; omega), if_pos (by omega), rd99, wrapN (by simp only; omega) (by simp only; omega), wrapN (by omega) (by omega)]
    have e1 : total pre + (⟨r.f0, r.f1⟩ : S99).f1 = total (pre ++ [r]) := by rw [total_app]; simp [total]
    have e2 : ((pre.length : Nat) : Int) + 1 = (((pre ++ [r]).length : Nat) : Int) := by simp
    rw [e1, e2, app_assoc1]
    exact len_loop suf (pre ++ [r]) k (by rw [← app_assoc1]; exact hk) (by omega)
theorem len_is (hk : Oks rs) (k : Nat) (h : rs.length + 1 ≤ k) : countwheelref27_Len.f k (cv rs) = some (total rs) := len_loop rs [] k hk h
theorem cv_set (pre : List S95) (q r : S95) : (cv (pre ++ [q])).set pre.length (⟨r.f0, r.f1⟩ : S99) = cv (pre ++ [r]) := by
  rw [cv_app, List.set_append_right _ _ (by rw [cv_len]; exact Nat.le_refl _), cv_len, Nat.sub_self, cv_app]
  rfl
theorem add_is (hk : Oks rs) (k : Nat) (id n : Int) (h : rs.length + 3 ≤ k) (hn : -9223372036854775808 ≤ n ∧ n ≤ 9223372036854775807) : countwheelref27_Add.f k (cv rs) id n = some (cv (addR rs id n).1, (addR rs id n).2) := by
  obtain ⟨j, rfl⟩ : ∃ j, k = j + 1 := ⟨k - 1, by omega⟩
  have ht0 := hk.t0
  have ht1 := hk.top
  have hl := hk.len
  unfold countwheelref27_Add.f addR
  by_cases c1 : n < 0
  · rw [if_pos c1, if_pos (.inl c1)]
    rfl
  · rw [if_neg c1, len_is hk _ (by omega), Option.bind_some, wrapN (x := 1073741824 - total rs) (by omega) (by omega)]
    by_cases c2 : 1073741824 - total rs < n
    · rw [if_pos (.inr c2), decide_eq_true c2]
      rfl
    · rw [if_neg (by omega), decide_eq_false c2]
      simp only [countwheelref27_Add.j0, Bool.false_eq_true, if_false]
      by_cases c3 : n = 0
      · rw [if_pos c3, if_pos c3]
      · rw [if_neg c3, if_neg c3, Option.bind_some, if_pos (by simp only [List.length_nil, cv_len]; omega), Option.bind_some, List.nil_append]
        unfold grow
        cases hq : rs.getLast? with
        | none =>
          rw [List.getLast?_eq_none_iff] at hq
          subst hq
          have hw : wrap64 (((cv ([] : List S95)).length : Int) - 1) = -1 := by decide +kernel
          rw [hw, if_neg (by decide), if_pos (by decide)]
          rfl
        | some q =>
          have hs := last_split hq
          generalize rs.dropLast = pre at hs ⊢
          subst hs
          have hw : wrap64 (((cv (pre ++ [q])).length : Int) - 1) = ((pre.length : Nat) : Int) := by rw [cv_len, wrapN (by simp) (by rw [List.length_append] at hl ⊢; simp at hl ⊢; omega)]; simp
          rw [hw, if_pos (by omega), if_pos (by omega), if_pos (by rw [cv_len]; simp; omega)]
          have hr := rd99 pre [] q
          rw [show pre ++ q :: [] = pre ++ [q] from rfl] at hr
          rw [hr]
          simp only
          by_cases c4 : q.f0 = id
          · rw [if_pos c4, if_pos c4]
            have hm := Oks.mid (pre := pre) (suf := []) (r := q) hk
            rw [total_app, total_cons, total_nil] at c2
            rw [total_nil] at hm
            rw [wrapN (by omega) (by omega), Int.toNat_natCast, ← c4]
            have := cv_set pre q ⟨q.f0, q.f1 + n⟩
            simp only at this
            rw [this]
          · rw [if_neg c4, if_neg c4, if_pos (by rw [cv_len]; omega)]
            rw [cv_app (pre ++ [q])]
            rfl
end Go.Proofs.Ytolokohgphdngaa.Str
