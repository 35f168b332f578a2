/- Ticks are added, as the model says. -/
import Derived.Test.YtolokohgphdngaaStr3
namespace Go.Proofs.Ytolokohgphdngaa.Str
open Go.RowKit Go.Proofs.YtolokohgphdngaaW.PrintWords Go.Proofs.YtolokohgphdngaaW.PrintLast Go.Proofs.YtolokohgphdngaaW.PrintMore Go.Proofs.Ytolokohgphdngaa.Mine Go.Proofs.Ytolokohgphdngaa.PStripAdds
open Go.Proofs.Ytolokohgphdngaa.Sl (SL Stp Chg St No)
set_option linter.unusedVariables false
set_option linter.unusedSimpArgs false
attribute [local go_sem] max2_int min2_int max_two min_two max_three min_three max_four min_four
variable {l : List SL} {w0 w : World} {g : Nat} {rs : List S95}
/-- Ticks of an owner, not none, behind the others. -/
def grow (rs : List S95) (id n : Int) : List S95 := match rs.getLast? with
  | some r => if r.f0 = id then rs.dropLast ++ [⟨id, r.f1 + n⟩] else rs ++ [⟨id, n⟩]
  | none => rs ++ [⟨id, n⟩]
def addR (rs : List S95) (id n : Int) : List S95 × Bool := if n < 0 ∨ 1073741824 - total rs < n then (rs, false) else if n = 0 then (rs, true) else (grow rs id n, true)
theorem total_app (a b : List S95) : total (a ++ b) = total a + total b := by simp [total]
theorem last_split {r : S95} (h : rs.getLast? = some r) : rs = rs.dropLast ++ [r] := by
  obtain ⟨ys, rfl⟩ := List.getLast?_eq_some_iff.1 h
  simp
theorem grow_total (rs : List S95) (id n : Int) : total (grow rs id n) = total rs + n := by
  unfold grow
  split
  · rename_i r hr
    split
    · have := last_split hr
      conv => rhs; rw [this]
      rw [total_app, total_app]
      simp [total]
      omega
    · rw [total_app]; simp [total]
  · rw [total_app]; simp [total]
theorem grow_ok (h : Oks rs) {id n : Int} (hn : 0 < n) (hm : n ≤ 1073741824 - total rs) : Oks (grow rs id n) := by
  refine ⟨fun r hr => ?_, by rw [grow_total]; omega⟩
  unfold grow at hr
  split at hr
  · rename_i q hq
    have h0 := last_split hq
    split at hr
    · rw [List.mem_append, List.mem_singleton] at hr
      rcases hr with hr | rfl
      · exact h.pos r (List.dropLast_subset _ hr)
      · have := h.pos q (by rw [h0]; simp)
        simp only
        omega
    · rw [List.mem_append, List.mem_singleton] at hr
      rcases hr with hr | rfl
      · exact h.pos r hr
      · exact hn
  · rw [List.mem_append, List.mem_singleton] at hr
    rcases hr with hr | rfl
    · exact h.pos r hr
    · exact hn
theorem addR_ok (h : Oks rs) (id n : Int) : Oks (addR rs id n).1 := by
  unfold addR
  split
  · exact h
  · split
    · exact h
    · exact grow_ok h (by omega) (by omega)
theorem add_hd (h : St (stp g rs :: l) w0 w) (hk : Oks rs) (id n : Int) : Calls Try.prog 37 #[.pointer (some ⟨g, 0, none⟩), .int .i64 id, .int .i64 n] w fun e w' => e = .returned (.bool (addR rs id n).2) ∧ St (stp g (addR rs id n).1 :: l) w0 w' := by
  unfold addR
  by_cases c1 : n < 0
  · rw [if_pos (.inl c1)]; exact add_neg h hk id n c1
  · by_cases c2 : 1073741824 - total rs < n
    · rw [if_pos (.inr c2)]; exact add_many h hk id n (by omega) c2
    · rw [if_neg (by omega)]
      by_cases c3 : n = 0
      · subst c3; rw [if_pos rfl]; exact add_none h hk id
      · rw [if_neg c3]
        unfold grow
        cases hl : rs.getLast? with
        | none => exact add_new h hk id n (by omega) (by omega) (fun r hr => by rw [hl] at hr; cases hr)
        | some r =>
          simp only
          by_cases c4 : r.f0 = id
          · rw [if_pos c4]; subst c4; exact add_same h (last_split hl) hk n (by omega) (by omega)
          · rw [if_neg c4]; exact add_new h hk id n (by omega) (by omega) (fun q hq => by rw [hl] at hq; cases hq; exact c4)
theorem add_st (h : St l w0 w) (k : Nat) (e : l[k]? = some (stp g rs)) (hk : Oks rs) (id n : Int) : Calls Try.prog 37 #[.pointer (some ⟨g, 0, none⟩), .int .i64 id, .int .i64 n] w fun e w' => e = .returned (.bool (addR rs id n).2) ∧ St (l.set k (stp g (addR rs id n).1)) w0 w' :=
  (add_hd (h.front k _ e) hk id n).mono fun _ _ ⟨he, hS⟩ => ⟨he, St.back k (List.getElem?_eq_some_iff.1 e).1 hS⟩
end Go.Proofs.Ytolokohgphdngaa.Str
