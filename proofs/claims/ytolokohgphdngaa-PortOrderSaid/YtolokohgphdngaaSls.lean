/- Owned rows whose elements are one cell each: an element is read, an element is written. -/
import Derived.Test.YtolokohgphdngaaSlm
namespace Go.Proofs.Ytolokohgphdngaa.Sl
open Go.RowKit Go.Proofs.YtolokohgphdngaaW.PrintWords Go.Proofs.YtolokohgphdngaaW.PrintLast Go.Proofs.YtolokohgphdngaaW.PrintMore Go.Proofs.Ytolokohgphdngaa.Mine
set_option linter.unusedVariables false
set_option linter.unusedSimpArgs false
section
variable {l : List SL} {w0 w : World} {α : Type} {enc : α → Value} {h1 : ∀ x, (enc x).oneCell' = true}
theorem St.putOf (d : α) {ee : Nat} {v : Value} {xs : List α} (h : St l w0 w) (n : Nat) (e : l[n]? = some (SL.row (Kd.scalar enc h1) ee v xs)) (i : Int) (h0 : 0 ≤ i) (hi : i < xs.length) :
    ∃ b cap, v = .slice (some ⟨b, 0, none⟩) xs.length cap ∧ xs.length ≤ cap ∧ w.cell? ⟨b, i.toNat, none⟩ = some (enc (rdOf d xs i)) ∧ w.frozen? ⟨b, i.toNat, none⟩ = false ∧
      ∀ x, St (l.set n (SL.row (Kd.scalar enc h1) ee v (xs.set i.toNat x))) w0 (w.setCell ⟨b, i.toNat, none⟩ (enc x)) := by
  obtain ⟨S1, h2, hk⟩ := h.at_ n _ e
  have ho := Kd.own_of_R h2.1
  obtain ⟨b, cap, hv, hge, hlt⟩ := ho.form (by omega)
  subst hv
  have ha := own_at_of (d := d) ho i h0 (by simpa using hi)
  refine ⟨b, cap, rfl, own_le ho, ha.1, ha.2, fun x => hk _ _ S1 ⟨?_, fun i hi => by simpa [World.setCell] using h2.2 i hi⟩ ⟨(Chg.refl S1 w).setCell (.inl (h2.1.1 b rfl)) _, fun i hi => .inl hi⟩⟩
  have hs := (own_store_of (enc := enc) ho i x).1
  refine Kd.R_of_own ?_ (fun k hk => h2.1.1 k hk)
  simpa using hs
end
section
variable {P : Program} {ops : Array Oper} {rest : List Oper} {o : Oper} {a : Act} {Q : Exit → Act → World → Prop} {Kc : Act → World → Prop} {l : List SL} {w0 W : World} {α : Type} {enc : α → Value} {h1 : ∀ x, (enc x).oneCell' = true}
/-- An element of a row is written. -/
theorem putOf_st (d : α) {ee : Nat} {v : Value} {xs : List α} (HS : St l w0 W) (n : Nat) (e : l[n]? = some (SL.row (Kd.scalar enc h1) ee v xs)) (i : Int) (h0 : 0 ≤ i) (hi : i < xs.length) (x : α) (hgd : o.guard = none) (hN : o.dst = none)
    (hrun : ∀ b cap, v = .slice (some ⟨b, 0, none⟩) xs.length cap → W.cell? ⟨b, i.toNat, none⟩ = some (enc (rdOf d xs i)) → W.frozen? ⟨b, i.toNat, none⟩ = false → (execOp a.eval o).run P W = .ok .skip (W.setCell ⟨b, i.toNat, none⟩ (enc x)))
    (h : ∀ w1, St (l.set n (SL.row (Kd.scalar enc h1) ee v (xs.set i.toNat x))) w0 w1 → wpList P ops Q rest a w1) : wpList P ops Q (o :: rest) a W := by
  obtain ⟨b, cap, hv, _, hc, hf, hk⟩ := HS.putOf d n e i h0 hi
  exact store_run hgd hN (hrun b cap hv hc hf) (h _ (hk x))
/-- The same, in a region that draws. -/
theorem putOf_stp (d : α) {ee : Nat} {v : Value} {xs : List α} (HS : St l w0 W) (n : Nat) (e : l[n]? = some (SL.row (Kd.scalar enc h1) ee v xs)) (i : Int) (h0 : 0 ≤ i) (hi : i < xs.length) (x : α) (hw : Region.wanted o (yielded ops a.tmps) = true) (hN : o.dst = none)
    (hrun : ∀ b cap, v = .slice (some ⟨b, 0, none⟩) xs.length cap → W.cell? ⟨b, i.toNat, none⟩ = some (enc (rdOf d xs i)) → W.frozen? ⟨b, i.toNat, none⟩ = false → (execOp a.eval o).run P W = .ok .skip (W.setCell ⟨b, i.toNat, none⟩ (enc x)))
    (h : ∀ w1, St (l.set n (SL.row (Kd.scalar enc h1) ee v (xs.set i.toNat x))) w0 w1 → Kc a w1) : if Region.wanted o (yielded ops a.tmps) = true then Oper.wp P o a W Kc Q else Kc (a.put none undef) W := by
  obtain ⟨b, cap, hv, _, hc, hf, hk⟩ := HS.putOf d n e i h0 hi
  exact skip_ hw hN (hrun b cap hv hc hf) (h _ (hk x))
end
end Go.Proofs.Ytolokohgphdngaa.Sl
