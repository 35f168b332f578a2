/- The plain laws: At, Part, same. -/
import Derived.Test.YtolokohgphdngaaStrE
namespace Go.Proofs.Ytolokohgphdngaa.Str
open Go.RowKit Go.Proofs.YtolokohgphdngaaW.PrintWords Go.Proofs.YtolokohgphdngaaW.PrintLast Go.Proofs.YtolokohgphdngaaW.PrintMore Go.Proofs.Ytolokohgphdngaa.Mine Go.Proofs.Ytolokohgphdngaa.PStripAdds
open Go.Proofs.Ytolokohgphdngaa.Sl (SL Stp Chg St No)
set_option linter.unusedVariables false
set_option linter.unusedSimpArgs false
attribute [local go_sem] max2_int min2_int max_two min_two max_three min_three max_four min_four
variable {l : List SL} {w0 w : World} {g : Nat} {rs : List S95}
theorem end_mid (pre suf : List S95) (r : S95) : endAt (pre ++ r :: suf) pre.length = total pre + r.f1 := by
  rw [endAt_is _ _ (by simp), app_assoc1, List.take_append_of_le_length (by simp), List.take_of_length_le (by simp), total_snoc]
theorem idx_mid {pre suf : List S95} {r : S95} (hk : Oks (pre ++ r :: suf)) {x : Int} (h0 : total pre ≤ x) (h1 : x < total pre + r.f1) : idxR (pre ++ r :: suf) x = pre.length := by
  rcases Nat.lt_trichotomy (idxR (pre ++ r :: suf) x) pre.length with h | h | h
  · exfalso
    have h2 := idx_hi hk x (pre.length - 1) (by omega) (by simp; omega)
    rw [endAt_is _ _ (by simp; omega), show pre.length - 1 + 1 = pre.length by omega, List.take_left' rfl] at h2
    omega
  · exact h
  · exfalso
    have h2 := idx_lo (pre ++ r :: suf) x pre.length h
    rw [end_mid] at h2
    exact h2 h1
theorem at_loop : ∀ (suf pre : List S95) (k : Nat) (x : Int), Oks (pre ++ suf) → total pre ≤ x → x ≤ 9223372036854775807 → suf.length + 1 ≤ k → countwheelref27_At.l0 k (cv (pre ++ suf)) (x - total pre) ((pre.length : Nat) : Int) = some (atR (pre ++ suf) x)
  | [], pre, 0, _, _, _, _, h => by simp at h
  | [], pre, k + 1, x, hk, h0, h1, _ => by
    simp only [countwheelref27_At.l0, List.append_nil]
    rw [if_neg (by rw [cv_len]; simp)]
    unfold atR
    rw [if_pos (.inr h0)]
  | r :: suf, pre, 0, _, _, _, _, h => by simp at h
  | r :: suf, pre, k + 1, x, hk, h0, h1, h => by
    have hm := hk.mid
    have hl := hk.len
    simp only [List.length_append, List.length_cons] at hl h
    simp only [countwheelref27_At.l0]
    rw [if_pos (by rw [cv_len]; simp; omega), if_pos (by omega), rd99]
    simp only
    by_cases c : x - total pre < r.f1
    · rw [if_pos c]
      unfold atR
      rw [if_neg (by rw [total_app, total_cons]; omega), idx_mid hk h0 (by omega), rd95]
    · rw [if_neg c, wrapN (by omega) (by omega), wrapN (by omega) (by omega)]
      have e1 : x - total pre - r.f1 = x - total (pre ++ [r]) := by rw [total_snoc]; omega
      have e2 : ((pre.length : Nat) : Int) + 1 = (((pre ++ [r]).length : Nat) : Int) := by simp
      rw [e1, e2, app_assoc1]
      exact at_loop suf (pre ++ [r]) k x (by rw [← app_assoc1]; exact hk) (by rw [total_snoc]; omega) h1 (by omega)
theorem at_is (hk : Oks rs) (k : Nat) (x : Int) (h : rs.length + 1 ≤ k) (hx : x ≤ 9223372036854775807) : countwheelref27_At.f k (cv rs) x = some (atR rs x) := by
  unfold countwheelref27_At.f
  by_cases c : x < 0
  · rw [if_pos c]
    unfold atR
    rw [if_pos (.inl c)]
  · rw [if_neg c]
    have := at_loop rs [] k x hk (by rw [total_nil]; omega) hx h
    rw [total_nil, Int.sub_zero] at this
    exact this
theorem same_loop : ∀ (n m k : Nat), m + n = rs.length → n + 1 ≤ k → rs.length ≤ 1073741824 → countwheellaw27_same.l0 k rs (cv rs) (rs.length : Int) (m : Int) = some true
  | 0, m, 0, _, h, _ => by omega
  | 0, m, k + 1, e, h, _ => by
    simp only [countwheellaw27_same.l0]
    rw [if_neg (by omega)]
  | n + 1, m, 0, _, h, _ => by omega
  | n + 1, m, k + 1, e, h, hl => by
    simp only [countwheellaw27_same.l0]
    have hr : rd_T99 (cv rs) (m : Int) = ⟨(rd_T95 rs (m : Int)).f0, (rd_T95 rs (m : Int)).f1⟩ := by
      unfold rd_T99 rd_T95 cv
      rw [Int.toNat_natCast, List.getD_eq_getElem?_getD, List.getD_eq_getElem?_getD, List.getElem?_map, List.getElem?_eq_getElem (by omega)]
      rfl
    rw [if_pos (by omega), if_pos (by omega), if_pos (by omega), if_pos (by rw [cv_len]; omega), hr]
    simp only [beq_self_eq_true, Bool.not_true, Bool.or_false, Bool.false_eq_true, if_false]
    rw [wrapN (by omega) (by omega)]
    exact same_loop n (m + 1) k (by omega) (by omega) hl
theorem same_is (k : Nat) (h : rs.length + 1 ≤ k) (hl : rs.length ≤ 1073741824) : countwheellaw27_same.f k rs (cv rs) = some true := by
  unfold countwheellaw27_same.f
  rw [if_pos (by rw [cv_len])]
  exact same_loop rs.length 0 k (by omega) h hl
theorem same66_loop : ∀ (n m k : Nat), m + n = rs.length → n + 1 ≤ k → rs.length ≤ 1073741824 → strip_Row_66.l0 k rs rs (rs.length : Int) (m : Int) = some true
  | 0, m, 0, _, h, _ => by omega
  | 0, m, k + 1, e, h, _ => by
    simp only [strip_Row_66.l0]
    rw [if_neg (by omega)]
  | n + 1, m, 0, _, h, _ => by omega
  | n + 1, m, k + 1, e, h, hl => by
    simp only [strip_Row_66.l0]
    rw [if_pos (by omega), if_pos (by omega), if_pos (by omega), if_pos (by omega)]
    simp only [beq_self_eq_true, Bool.not_true, Bool.or_false, Bool.false_eq_true, if_false]
    rw [wrapN (by omega) (by omega)]
    exact same66_loop n (m + 1) k (by omega) (by omega) hl
theorem same66_is (k : Nat) (h : rs.length + 1 ≤ k) (hl : rs.length ≤ 1073741824) : strip_Row_66.f k rs rs = some true := by
  unfold strip_Row_66.f
  rw [if_pos rfl]
  exact same66_loop rs.length 0 k (by omega) h hl
/-- Some of the ticks, row by row. -/
def partP (a b : Int) : Int → List S95 → List S95 → List S95
  | _, [], out => out
  | s, r :: l, out => partP a b (s + r.f1) l (if max s a < min (s + r.f1) b then (addR out r.f0 (min (s + r.f1) b - max s a)).1 else out)
theorem partF_done (rs : List S95) (tt at_ : Int) (h : tt ≤ at_) (n : Nat) (out : List S95) : partF rs tt n at_ out = out := by
  cases n with
  | zero => rfl
  | succ n => unfold partF; rw [if_neg (by omega)]
theorem part_walk (a b : Int) : ∀ (suf pre out : List S95), Oks (pre ++ suf) → partP a b (total pre) suf out = partF (pre ++ suf) (min b (total (pre ++ suf))) (min b (total (pre ++ suf)) - max (total pre) (max a 0)).toNat (max (total pre) (max a 0)) out
  | [], pre, out, hk => by
    rw [partF_done _ _ _ (by rw [List.append_nil]; omega)]
    rfl
  | r :: suf, pre, out, hk => by
    have hm := hk.mid
    obtain ⟨T, hT⟩ : ∃ T, T = min b (total (pre ++ r :: suf)) := ⟨_, rfl⟩
    obtain ⟨z, hz⟩ : ∃ z, z = max (total pre) (max a 0) := ⟨_, rfl⟩
    have hTT : T ≤ total (pre ++ r :: suf) := by omega
    have htt := total_app pre (r :: suf)
    rw [total_cons] at htt
    have e1 : total pre + r.f1 = total (pre ++ [r]) := by rw [total_snoc]
    have ih := part_walk a b suf (pre ++ [r]) (if max (total pre) a < min (total pre + r.f1) b then (addR out r.f0 (min (total pre + r.f1) b - max (total pre) a)).1 else out) (by rw [← app_assoc1]; exact hk)
    rw [← app_assoc1, ← hT, ← e1] at ih
    conv => lhs; unfold partP
    rw [ih, ← hT, ← hz]
    have hlo : max (total pre) a = z := by omega
    have hhi : min (total pre + r.f1) b = min (total pre + r.f1) T := by omega
    rw [hlo, hhi]
    by_cases c : z < min (total pre + r.f1) T
    · rw [if_pos c]
      have hix := idx_mid hk (x := z) (by omega) (by omega)
      have hst := partF_step hk hTT (by omega) (show z < T by omega) out
      have hnx : nextP (pre ++ r :: suf) T z = min (total pre + r.f1) T := by unfold nextP; rw [hix, end_mid]
      rw [hst, hnx, hix, rd95]
      by_cases d : total pre + r.f1 ≤ T
      · rw [show max (total pre + r.f1) (max a 0) = min (total pre + r.f1) T by omega]
      · rw [partF_done _ _ _ (by omega), partF_done _ _ _ (by omega)]
    · rw [if_neg c]
      by_cases d : T ≤ z
      · rw [partF_done _ _ _ (by omega), partF_done _ _ _ (by omega)]
      · rw [show max (total pre + r.f1) (max a 0) = z by omega]
theorem partR_is (hk : Oks rs) (a b : Int) : partP a b 0 rs [] = partR rs a b := by
  have := part_walk a b rs [] [] hk
  rw [total_nil, List.nil_append] at this
  rw [this]
  unfold partR
  rw [show max 0 (max a 0) = max a 0 by omega]
theorem addR_len (rs : List S95) (id n : Int) : (addR rs id n).1.length ≤ rs.length + 1 := by
  unfold addR
  split
  · simp
  · split
    · simp
    · unfold grow
      simp only
      split
      · split <;> simp
      · simp
theorem part_j1 {x0 : List S99} {a b lo e : Int} {m : Nat} {q : S99} {out : List S95} (k : Nat) (hq : rd_T99 x0 (m : Int) = q) (hm : m < x0.length) (hx : x0.length ≤ 1073741824) (ho : Oks out) (hk : out.length + 3 ≤ k) (h0 : 0 ≤ lo) (h1 : e ≤ 1073741824) :
    countwheelref27_Part.j1 (k + 1) x0 a b (cv out) e (m : Int) lo e = countwheelref27_Part.l0 k x0 a b (cv (if lo < min e b then (addR out q.f0 (min e b - lo)).1 else out)) e ((m : Int) + 1) := by
  rw [countwheelref27_Part.j1, hq]
  have w1 : wrap64 ((m : Int) + 1) = (m : Int) + 1 := wrapN (by omega) (by omega)
  have hcl : ((m : Nat) : Int) < (x0.length : Int) := by omega
  rw [w1]
  by_cases c : e > b
  · rw [if_pos c, show min e b = b by omega]
    by_cases d : lo < b
    · rw [if_pos d, if_pos (by omega), if_pos hcl, if_pos d, wrapN (x := b - lo) (by omega) (by omega), add_is ho k _ _ hk (by omega), Option.bind_some]
    · rw [if_neg d, if_neg d]
  · rw [if_neg c, show min e b = e by omega]
    by_cases d : lo < e
    · rw [if_pos d, if_pos (by omega), if_pos hcl, if_pos d, wrapN (x := e - lo) (by omega) (by omega), add_is ho k _ _ hk (by omega), Option.bind_some]
    · rw [if_neg d, if_neg d]
theorem part_loop (a b : Int) (suf : List S95) : ∀ (pre : List S95) (k : Nat) (out : List S95), Oks (pre ++ suf) → Oks out → 3 * suf.length + out.length + 6 ≤ k → countwheelref27_Part.l0 k (cv (pre ++ suf)) a b (cv out) (total pre) ((pre.length : Nat) : Int) = some (cv (partP a b (total pre) suf out)) := by
  induction suf with
  | nil =>
    intro pre k out hk ho h
    obtain ⟨k, rfl⟩ : ∃ j, k = j + 1 := ⟨k - 1, by omega⟩
    rw [countwheelref27_Part.l0, if_neg (by rw [cv_len]; simp)]
    rfl
  | cons r suf ih =>
    intro pre k out hk ho h
    obtain ⟨k, rfl⟩ : ∃ j, k = j + 2 := ⟨k - 2, by simp only [List.length_cons] at h; omega⟩
    have hm := hk.mid
    have hl := hk.len
    simp only [List.length_append, List.length_cons] at hl h
    have e1 : total pre + r.f1 = total (pre ++ [r]) := by rw [total_snoc]
    have e2 : ((pre.length : Nat) : Int) + 1 = (((pre ++ [r]).length : Nat) : Int) := by simp
    have hcl : pre.length < (cv (pre ++ r :: suf)).length := by rw [cv_len]; simp
    have hcx : (cv (pre ++ r :: suf)).length ≤ 1073741824 := by rw [cv_len]; simp; omega
    have key : ∀ lo : Int, 0 ≤ lo → lo = max (total pre) a → countwheelref27_Part.j1 (k + 1) (cv (pre ++ r :: suf)) a b (cv out) (total pre + r.f1) ((pre.length : Nat) : Int) lo (total pre + r.f1) = some (cv (partP a b (total pre) (r :: suf) out)) := by
      intro lo hl0 hlo
      have hR : partP a b (total pre) (r :: suf) out = partP a b (total pre + r.f1) suf (if lo < min (total pre + r.f1) b then (addR out r.f0 (min (total pre + r.f1) b - lo)).1 else out) := by rw [hlo]; rfl
      rw [hR, part_j1 k (rd99 pre suf r) hcl hcx ho (by omega) hl0 (by omega), e1, e2, app_assoc1]
      refine ih (pre ++ [r]) k _ (by rw [← app_assoc1]; exact hk) ?_ ?_
      · split
        · exact addR_ok ho _ _
        · exact ho
      · split
        · have := addR_len out (⟨r.f0, r.f1⟩ : S99).f0 (min (total (pre ++ [r])) b - lo)
          omega
        · omega
    rw [countwheelref27_Part.l0, if_pos (by omega), if_pos (by omega), rd99]
    simp only
    rw [wrapN (x := total pre + r.f1) (by omega) (by omega)]
    by_cases c : total pre < a
    · rw [if_pos c]
      exact key a (by omega) (by omega)
    · rw [if_neg c]
      exact key (total pre) (by omega) (by omega)
theorem part_is (hk : Oks rs) (k : Nat) (a b : Int) (h : 3 * rs.length + 6 ≤ k) : countwheelref27_Part.f k (cv rs) a b = some (cv (partR rs a b)) := by
  unfold countwheelref27_Part.f
  have := part_loop a b rs [] k [] hk ok_nil (by simpa using h)
  rw [total_nil, partR_is hk] at this
  exact this
end Go.Proofs.Ytolokohgphdngaa.Str
