/- More of maps in owned memory: look-ups as events; the ways out of a piece of code shut behind names. -/
import Derived.Test.YtkmhgolohppliaaSlk
import Derived.Lib.Hide
namespace Go.Proofs.Ytkmhgolohppliaa.Sl
open Go.RowKit Go.Proofs.YtkmhgolohppliaaW.PrintWords Go.Proofs.YtkmhgolohppliaaW.PrintLast Go.Proofs.YtkmhgolohppliaaW.PrintMore Go.Proofs.Ytkmhgolohppliaa.Mine

set_option linter.unusedVariables false
set_option linter.unusedSimpArgs false
/-- The ways out of a piece of code, shut behind names: what is behind it is told by facts. -/
def sealed (N : Act → World → Prop) (X : Nat → Act → World → Prop) (R : Act → World → Prop) : Exit → Act → World → Prop
  | .normal, a, w => N a w
  | .exit i, a, w => X i a w
  | .ret, a, w => R a w
  | _, _, _ => False
theorem wpc_seal {P : Program} {c : Code} {Q : Exit → Act → World → Prop} {a : Act} {w : World} {fn : Func} {R : Ending → World → Prop}
    (hQ : ∀ a w, bodyPost P fn R .ret a w → Q .ret a w)
    (h : ∀ (N : Act → World → Prop) (X : Nat → Act → World → Prop) (Rt : Act → World → Prop), Hid (∀ a w, Q .normal a w → N a w) → Hid (∀ i a w, Q (.exit i) a w → X i a w) →
      Hid (∀ a w v, (results fn a.tmps).run P w = .ok v w → a.defers = [] → R (.returned v) w → Rt a w) → c.wp P (sealed N X Rt) a w) : c.wp P Q a w := by
  refine Code.wp_mono ?_ (h (Q .normal) (fun i => Q (.exit i)) (Q .ret) (Go.Lib.hid fun _ _ h => h) (Go.Lib.hid fun _ _ _ h => h) (Go.Lib.hid fun a w v hr hd hR => hQ a w ⟨hd, v, hr, hR⟩))
  intro e a w h
  cases e <;> first | exact h | exact h.elim
/-- The same at the head of a loop's round. -/
theorem wpc_round {P : Program} {c : Code} {I : Act → World → Prop} {Q : Exit → Act → World → Prop} {a : Act} {w : World} {fn : Func} {R : Ending → World → Prop}
    (hQ : ∀ a w, bodyPost P fn R .ret a w → Q .ret a w)
    (h : ∀ (N : Act → World → Prop) (X : Nat → Act → World → Prop) (Rt : Act → World → Prop), Hid (∀ a w, I a w → N a w) → Hid (∀ i a w, Q (.exit i) a w → X i a w) →
      Hid (∀ a w v, (results fn a.tmps).run P w = .ok v w → a.defers = [] → R (.returned v) w → Rt a w) → c.wp P (sealed N X Rt) a w) : c.wp P (Exit.then I Q) a w := by
  refine wpc_seal (fn := fn) (R := R) (fun a w h => hQ a w h) ?_
  intro N X Rt hn hx hr
  exact h N X Rt (Go.Lib.hid fun a w h => hn.out a w h) (Go.Lib.hid fun i a w h => hx.out i a w h) hr
section
variable {P : Program} {ops : Array Oper} {rest : List Oper} {o : Oper} {act : Act} {Q : Exit → Act → World → Prop} {Kc : Act → World → Prop} {l : List SL} {w0 W : World} {κ : Type} [DecidableEq κ] {k : TypeId}
/-- m[k] -/
theorem lookup_st {K : MK P k κ} {b : Nat} {m : List (κ × Value)} (HS : St l w0 W) (n : Nat) (e : l[n]? = some (SL.map K b m)) (t et : TypeId) (ht : P.underlying t = some (.map k et)) {z : Value} (hz : (zeroValue et).run P W = .ok z W) (a : κ) (ha : K.ok a)
    (hgd : o.guard = none) (x y : Operand) (ho : o.op = .lookup t x y false) (hx : act.eval x = .map (some b)) (hy : act.eval y = K.enc a)
    (h : wpList P ops Q rest (act.put o.dst ((look m a).getD z)) W) : wpList P ops Q (o :: rest) act W := by
  refine Kd.event_run hgd (w1 := W) ?_ h
  simp [execOp, ho, hx, hy, (HS.look n e ht hz a ha).1, Result.andThen]
/-- m[k], and whether it is there -/
theorem lookok_st {K : MK P k κ} {b : Nat} {m : List (κ × Value)} (HS : St l w0 W) (n : Nat) (e : l[n]? = some (SL.map K b m)) (t et : TypeId) (ht : P.underlying t = some (.map k et)) {z : Value} (hz : (zeroValue et).run P W = .ok z W) (a : κ) (ha : K.ok a)
    (hgd : o.guard = none) (x y : Operand) (ho : o.op = .lookup t x y true) (hx : act.eval x = .map (some b)) (hy : act.eval y = K.enc a)
    (h : wpList P ops Q rest (act.put o.dst (.tuple #[(look m a).getD z, .bool (look m a).isSome])) W) : wpList P ops Q (o :: rest) act W := by
  refine Kd.event_run hgd (w1 := W) ?_ h
  simp [execOp, ho, hx, hy, (HS.look n e ht hz a ha).2, Result.andThen]
/-- m[k] = v, in a region that draws -/
theorem mapset_stp {K : MK P k κ} {b : Nat} {m : List (κ × Value)} (HS : St l w0 W) (n : Nat) (e : l[n]? = some (SL.map K b m)) (t et : TypeId) (ht : P.underlying t = some (.map k et)) (a : κ) (v : Value) (ha : K.ok a) (hl : m.length < maxLen)
    (hw : Region.wanted o (yielded ops act.tmps) = true) (hN : o.dst = none) (x y z : Operand) (ho : o.op = .mapUpdate t x y z) (hx : act.eval x = .map (some b)) (hy : act.eval y = K.enc a) (hz : act.eval z = v)
    (h : ∀ w1, St (l.set n (SL.map K b ((a, v) :: m))) w0 w1 → Kc act w1) : if Region.wanted o (yielded ops act.tmps) = true then Oper.wp P o act W Kc Q else Kc (act.put none undef) W := by
  obtain ⟨w1, hrun, hS⟩ := HS.mapSet n e ht hl a ha v
  refine skip_ hw hN (w1 := w1) ?_ (h w1 hS)
  simp [execOp, ho, hx, hy, hz, hrun, Result.andThen]
/-- m[k], in a region that draws -/
theorem lookup_stp {K : MK P k κ} {b : Nat} {m : List (κ × Value)} (HS : St l w0 W) (n : Nat) (e : l[n]? = some (SL.map K b m)) (t et : TypeId) (ht : P.underlying t = some (.map k et)) {z : Value} (hz : (zeroValue et).run P W = .ok z W) (a : κ) (ha : K.ok a)
    (hw : Region.wanted o (yielded ops act.tmps) = true) (x y : Operand) (ho : o.op = .lookup t x y false) (hx : act.eval x = .map (some b)) (hy : act.eval y = K.enc a)
    (h : Kc (act.put o.dst ((look m a).getD z)) W) : if Region.wanted o (yielded ops act.tmps) = true then Oper.wp P o act W Kc Q else Kc (act.put o.dst undef) W := by
  refine event_step hw (w1 := W) ?_ h
  simp [execOp, ho, hx, hy, (HS.look n e ht hz a ha).1, Result.andThen]
end
end Go.Proofs.Ytkmhgolohppliaa.Sl
