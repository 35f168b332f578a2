/- The plain laws: words. -/
import Derived.Test.YtolokohgphdngaaStrF
namespace Go.Proofs.Ytolokohgphdngaa.Str
open Go.RowKit Go.Proofs.YtolokohgphdngaaW.PrintWords Go.Proofs.YtolokohgphdngaaW.PrintLast Go.Proofs.YtolokohgphdngaaW.PrintMore Go.Proofs.Ytolokohgphdngaa.Mine Go.Proofs.Ytolokohgphdngaa.PStripAdds
open Go.Proofs.Ytolokohgphdngaa.Sl (SL Stp Chg St No)
set_option linter.unusedVariables false
set_option linter.unusedSimpArgs false
attribute [local go_sem] max2_int min2_int max_two min_two max_three min_three max_four min_four
variable {l : List SL} {w0 w : World} {g : Nat} {rs : List S95}
theorem wordR_app (a b : List S95) : wordR (a ++ b) = wordR a ++ wordR b := by unfold wordR; simp
theorem wordR_cons (r : S95) (l : List S95) : wordR (r :: l) = List.replicate r.f1.toNat r.f0 ++ wordR l := by unfold wordR; simp
theorem word_at_loop (x : Int) (suf : List S95) : ∀ pre : List S95, Oks (pre ++ suf) → total pre ≤ x → x < total (pre ++ suf) → (wordR (pre ++ suf))[x.toNat]? = some (atR (pre ++ suf) x).1 := by
  induction suf with
  | nil => intro pre hk h0 h1; rw [List.append_nil] at h1; omega
  | cons r suf ih =>
    intro pre hk h0 h1
    have hm := hk.mid
    by_cases c : x < total pre + r.f1
    · unfold atR
      rw [if_neg (by omega), idx_mid hk h0 c, rd95]
      have hw := wordR_len (rs := pre) (fun y hy => hk.pos y (by simp [hy]))
      rw [wordR_app, List.getElem?_append_right (by omega), wordR_cons, List.getElem?_append_left (by rw [List.length_replicate]; omega), List.getElem?_replicate, if_pos (by omega)]
    · have := ih (pre ++ [r]) (by rw [← app_assoc1]; exact hk) (by rw [total_snoc]; omega) (by rw [← app_assoc1]; exact h1)
      rw [← app_assoc1] at this
      exact this
theorem word_at (hk : Oks rs) (x : Int) (h0 : 0 ≤ x) (h1 : x < total rs) : rd (wordR rs) x = (atR rs x).1 := by
  have := word_at_loop x rs [] hk h0 h1
  unfold rd
  rw [List.getD_eq_getElem?_getD]
  simp only [List.nil_append] at this
  rw [this]
  rfl
/-- Rows side by side are not one owner's. -/
inductive Nf : List S95 → Prop
  | nil : Nf []
  | snoc {rs : List S95} {id n : Int} (h : Nf rs) (hl : ∀ r, rs.getLast? = some r → r.f0 ≠ id) : Nf (rs ++ [⟨id, n⟩])
theorem Nf.inv {pre : List S95} {r : S95} (h : Nf (pre ++ [r])) : Nf pre ∧ ∀ q, pre.getLast? = some q → q.f0 ≠ r.f0 := by
  generalize hz : pre ++ [r] = z at h
  cases h with
  | nil => simp at hz
  | snoc h hl =>
    obtain ⟨rfl, h2⟩ := List.append_inj' hz rfl
    injection h2 with h2
    subst h2
    exact ⟨h, hl⟩
theorem addR_nf (h : Nf rs) (id n : Int) : Nf (addR rs id n).1 := by
  unfold addR
  split
  · exact h
  · split
    · exact h
    · unfold grow
      simp only
      split
      · rename_i r hr
        have hs := last_split hr
        split
        · rename_i hid
          rw [hs] at h
          obtain ⟨h1, h2⟩ := h.inv
          exact .snoc h1 (by rw [← hid]; exact h2)
        · rename_i hid
          exact .snoc h (fun q hq => by rw [hr] at hq; cases hq; exact hid)
      · rename_i hr
        exact .snoc h (fun q hq => by rw [hr] at hq; cases hq)
theorem one_more {pre : List S95} {id : Int} (hl : ∀ r, pre.getLast? = some r → r.f0 ≠ id) (hp : Oks pre) : ∀ m : Nat, total pre + m ≤ 1073741824 → (List.replicate m id).foldl (fun rs id => (addR rs id 1).1) pre = if m = 0 then pre else pre ++ [⟨id, (m : Int)⟩]
  | 0, _ => rfl
  | m + 1, h => by
    have ht := hp.t0
    rw [List.replicate_succ', List.foldl_append, one_more hl hp m (by omega)]
    simp only [List.foldl_cons, List.foldl_nil]
    rw [if_neg (show ¬ m + 1 = 0 by omega)]
    unfold addR
    by_cases c : m = 0
    · subst c
      rw [if_pos rfl, if_neg (by omega), if_neg (by omega)]
      unfold grow
      cases hq : pre.getLast? with
      | none => rfl
      | some q => simp only; rw [if_neg (hl q hq)]; rfl
    · rw [if_neg c, if_neg (by rw [total_snoc]; simp only; omega), if_neg (by omega)]
      unfold grow
      simp
theorem ofR_word (h : Nf rs) (hk : Oks rs) : ofR (wordR rs) = rs := by
  induction h with
  | nil => rfl
  | @snoc rs id n h hl ih =>
    have hk2 : Oks rs := by have := take_ok hk rs.length; rwa [List.take_left' rfl] at this
    have hm := Oks.mid (pre := rs) (suf := []) hk
    rw [wordR_snoc]
    have e1 : ofR (wordR rs ++ List.replicate n.toNat id) = (List.replicate n.toNat id).foldl (fun rs id => (addR rs id 1).1) (ofR (wordR rs)) := by unfold ofR; rw [List.foldl_append]
    simp only [total_nil] at hm
    rw [e1, ih hk2, one_more hl hk2 _ (by omega), if_neg (by omega)]
    rw [show ((n.toNat : Nat) : Int) = n by omega]
/-- All rows of a text, added. -/
def addsR (l : List S95) : List S95 := l.foldl (fun rs r => (addR rs r.f0 r.f1).1) []
theorem addsR_snoc (l : List S95) (r : S95) : addsR (l ++ [r]) = (addR (addsR l) r.f0 r.f1).1 := by unfold addsR; simp
theorem addsR_ok (l : List S95) : Oks (addsR l) := by
  unfold addsR
  have : ∀ (l rs : List S95), Oks rs → Oks (l.foldl (fun rs r => (addR rs r.f0 r.f1).1) rs) := by
    intro l
    induction l with
    | nil => intro rs h; exact h
    | cons r l ih => intro rs h; exact ih _ (addR_ok h _ _)
  exact this l [] ok_nil
theorem addsR_nf (l : List S95) : Nf (addsR l) := by
  unfold addsR
  have : ∀ (l rs : List S95), Nf rs → Nf (l.foldl (fun rs r => (addR rs r.f0 r.f1).1) rs) := by
    intro l
    induction l with
    | nil => intro rs h; exact h
    | cons r l ih => intro rs h; exact ih _ (addR_nf h _ _)
  exact this l [] .nil
theorem addsR_len (l : List S95) : (addsR l).length ≤ l.length := by
  unfold addsR
  have : ∀ (l rs : List S95), (l.foldl (fun rs r => (addR rs r.f0 r.f1).1) rs).length ≤ rs.length + l.length := by
    intro l
    induction l with
    | nil => intro rs; simp
    | cons r l ih => intro rs; have := ih (addR rs r.f0 r.f1).1; have := addR_len rs r.f0 r.f1; simp only [List.foldl_cons, List.length_cons]; omega
  have := this l []
  simpa using this
theorem partR_ok (hk : Oks rs) (a b : Int) : Oks (partR rs a b) := by
  rw [← partR_is hk]
  have : ∀ (l : List S95) (s : Int) (out : List S95), Oks out → Oks (partP a b s l out) := by
    intro l
    induction l with
    | nil => intro s out h; exact h
    | cons r l ih =>
      intro s out h
      unfold partP
      refine ih _ _ ?_
      split
      · exact addR_ok h _ _
      · exact h
  exact this rs 0 [] ok_nil
end Go.Proofs.Ytolokohgphdngaa.Str
