/- A copy into numbers of one's own. -/
import Derived.Test.YtolokohgphdngaaStrA
namespace Go.Proofs.Ytolokohgphdngaa.Str
open Go.RowKit Go.Proofs.YtolokohgphdngaaW.PrintWords Go.Proofs.YtolokohgphdngaaW.PrintLast Go.Proofs.YtolokohgphdngaaW.PrintMore Go.Proofs.Ytolokohgphdngaa.Mine Go.Proofs.Ytolokohgphdngaa.PStripAdds
open Go.Proofs.Ytolokohgphdngaa.Sl (SL Stp Chg St No)
set_option linter.unusedVariables false
set_option linter.unusedSimpArgs false
attribute [local go_sem] max2_int min2_int max_two min_two max_three min_three max_four min_four
variable {l : List SL} {w0 w : World} {g : Nat} {rs : List S95}
open Win (cels cels_size make_ints infoInt cels_get)
section
variable {P : Program} {ops : Array Oper} {rest : List Oper} {o : Oper} {a : Act} {Q : Exit → Act → World → Prop} {Kc : Act → World → Prop} {E : Prop} {l : List SL} {w0 W : World}
theorem copy_run (h : St l w0 W) (n b : Nat) {xs : List Int} (e : l[n]? = some (SL.blk b 3 (cels xs))) (f : Nat) (ys : List Int) (hl : f + ys.length ≤ xs.length) (dp sp : Option Addr) (dLen dCap sLen sCap : Nat) (hn : ys.length = Nat.min sLen dLen)
    (hpos : 0 < ys.length → dp = some ⟨b, f, none⟩ ∧ ∃ ad, sp = some ad ∧ ∀ j, j < ys.length → W.cell? (ad.add j) = some (.int .i64 (ys.getD j 0))) (dT sT ty elem : TypeId) (hu : P.underlying dT = some (.slice elem)) (hs : (P.info? elem).map (·.size) = some 1) :
    ∃ w1, (Builtin.copy_ #[dT, sT] ty #[.slice dp dLen dCap, .slice sp sLen sCap]).run P W = .ok (goInt ((ys.length : Nat) : Int)) w1 ∧ St (l.set n (SL.blk b 3 (cels (xs.take f ++ ys ++ xs.drop (f + ys.length))))) w0 w1 := by
  rcases Nat.eq_zero_or_pos ys.length with h0 | hp
  · obtain rfl := List.eq_nil_of_length_eq_zero h0
    refine ⟨W, run_copy_none W dT sT ty elem dp sp dLen dCap sLen sCap hu hs (by rw [← hn]; rfl), ?_⟩
    have : cels (xs.take f ++ [] ++ xs.drop (f + ([] : List Int).length)) = cels xs := by simp
    rw [this, set_same e]
    exact h
  · obtain ⟨rfl, ad, rfl, hc⟩ := hpos hp
    have hsz : ∀ j, j < (nums .i64 ys).length → f + j < (cels xs).size := fun j hj => by rw [nums_length] at hj; rw [cels_size]; omega
    have hr := run_copy_cells (P := P) W dT sT ty elem b f dLen dCap ad sLen sCap (nums .i64 ys) hu hs (by rw [nums_length]; exact hn)
      (fun j v hv => by
        have hj : j < ys.length := by
          rcases Nat.lt_or_ge j ys.length with h | h
          · exact h
          · rw [List.getElem?_eq_none (by rw [nums_length]; exact h)] at hv; cases hv
        rw [hc j hj, ← hv]
        unfold nums
        simp [hj])
      (fun j hj => by rw [h.cell n b 3 _ e, Array.getElem?_eq_getElem (hsz j hj)]; rfl) (fun j hj => h.free n b 3 _ e _)
      (fun v hv => by unfold nums at hv; rw [List.mem_map] at hv; obtain ⟨q, _, rfl⟩ := hv; rfl)
    rw [nums_length] at hr
    exact ⟨_, hr, set_cells h n b e f hl⟩
theorem copy_st (h : St l w0 W) (n b : Nat) {xs : List Int} (e : l[n]? = some (SL.blk b 3 (cels xs))) (f : Nat) (ys : List Int) (hgd : o.guard = none) (s x : Operand) (t t' elem : TypeId)
    (ho : o.op = .call { callee := .builtin .copy, args := #[s, x], argTypes := #[t, t'] }) (hu : P.underlying t = some (.slice elem)) (hsz : (P.info? elem).map (·.size) = some 1)
    (dp sp : Option Addr) (dLen dCap sLen sCap : Nat) (hs : a.eval s = .slice dp dLen dCap) (hx : a.eval x = .slice sp sLen sCap) (hl : f + ys.length ≤ xs.length) (hn : ys.length = Nat.min sLen dLen)
    (hpos : 0 < ys.length → dp = some ⟨b, f, none⟩ ∧ ∃ ad, sp = some ad ∧ ∀ j, j < ys.length → W.cell? (ad.add j) = some (.int .i64 (ys.getD j 0)))
    (hk : ∀ w1, St (l.set n (SL.blk b 3 (cels (xs.take f ++ ys ++ xs.drop (f + ys.length))))) w0 w1 → wpList P ops Q rest (a.put o.dst (.int .i64 ((ys.length : Nat) : Int))) w1) : wpList P ops Q (o :: rest) a W := by
  obtain ⟨w1, hr, hS⟩ := copy_run h n b e f ys hl dp sp dLen dCap sLen sCap hn hpos t t' o.type elem hu hsz
  refine wpList_plain hgd fun K hK => ?_
  unfold Oper.wp execOp
  simp only [ho, resolve, invoke, builtin, Sem.run_bind, Sem.run_pure, Result.andThen_ok, List.map_toArray, List.map_cons, List.map_nil, hs, hx, hr]
  exact hK _ _ (hk w1 hS)
theorem copy_stp (h : St l w0 W) (n b : Nat) {xs : List Int} (e : l[n]? = some (SL.blk b 3 (cels xs))) (f : Nat) (ys : List Int) (hw : Region.wanted o (yielded ops a.tmps) = true) (s x : Operand) (t t' elem : TypeId)
    (ho : o.op = .call { callee := .builtin .copy, args := #[s, x], argTypes := #[t, t'] }) (hu : P.underlying t = some (.slice elem)) (hsz : (P.info? elem).map (·.size) = some 1)
    (dp sp : Option Addr) (dLen dCap sLen sCap : Nat) (hs : a.eval s = .slice dp dLen dCap) (hx : a.eval x = .slice sp sLen sCap) (hl : f + ys.length ≤ xs.length) (hn : ys.length = Nat.min sLen dLen)
    (hpos : 0 < ys.length → dp = some ⟨b, f, none⟩ ∧ ∃ ad, sp = some ad ∧ ∀ j, j < ys.length → W.cell? (ad.add j) = some (.int .i64 (ys.getD j 0)))
    (hk : ∀ w1, St (l.set n (SL.blk b 3 (cels (xs.take f ++ ys ++ xs.drop (f + ys.length))))) w0 w1 → Kc (a.put o.dst (.int .i64 ((ys.length : Nat) : Int))) w1) :
    if Region.wanted o (yielded ops a.tmps) = true then Oper.wp P o a W Kc Q else Kc (a.put o.dst undef) W := by
  obtain ⟨w1, hr, hS⟩ := copy_run h n b e f ys hl dp sp dLen dCap sLen sCap hn hpos t t' o.type elem hu hsz
  rw [if_pos hw]
  unfold Oper.wp execOp
  simp only [ho, resolve, invoke, builtin, Sem.run_bind, Sem.run_pure, Result.andThen_ok, List.map_toArray, List.map_cons, List.map_nil, hs, hx, hr]
  exact hk w1 hS
end
end Go.Proofs.Ytolokohgphdngaa.Str
