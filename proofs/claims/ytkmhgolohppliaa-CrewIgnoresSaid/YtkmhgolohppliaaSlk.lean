/- Maps of the call's own, in owned memory: keys by an encoding, elements as they are. -/
import Derived.Test.YtkmhgolohppliaaSlm
import Derived.Maps.OwnSet
import Derived.Maps.Views
namespace Go.Proofs.Ytkmhgolohppliaa.Sl
open Go.RowKit Go.Proofs.YtkmhgolohppliaaW.PrintWords Go.Proofs.YtkmhgolohppliaaW.PrintLast Go.Proofs.YtkmhgolohppliaaW.PrintMore Go.Proofs.Ytkmhgolohppliaa.Mine
open Go.Maps (Keyed)
open Go.ChangeMaps
set_option linter.unusedVariables false
set_option linter.unusedSimpArgs false
/-- An element, as it is. -/
def tokR (v : Value) : Option (DataW Value × List MemPlace) := some (.held v, [])
/-- How keys are written. -/
structure MK (P : Program) (k : TypeId) (κ : Type) where
  enc : κ → Value
  keyed : Keyed P k
  ok : κ → Prop
  has : ∀ a, ok a → ∃ l, keyOf P k (enc a) = some l
  inj : ∀ a b, enc a = enc b → a = b
/-- What a key reads as. -/
def MK.lit {P : Program} {k : TypeId} {κ : Type} (K : MK P k κ) (a : κ) : Lit := (keyOf P k (K.enc a)).getD (.bool false)
theorem MK.key {P : Program} {k : TypeId} {κ : Type} (K : MK P k κ) (a : κ) (h : K.ok a) : keyOf P k (K.enc a) = some (K.lit a) := by
  obtain ⟨l, hl⟩ := K.has a h
  unfold MK.lit
  rw [hl]; rfl
theorem MK.litInj {P : Program} {k : TypeId} {κ : Type} (K : MK P k κ) {a b : κ} (ha : K.ok a) (hb : K.ok b) (h : K.lit a = K.lit b) : a = b :=
  K.inj a b (K.keyed.inj (K.key a ha) (by rw [h]; exact K.key b hb))
/-- Keys that are numbers. -/
def MK.int {P : Program} {k : TypeId} (q : IntKind) (hk : P.underlying k = some (.int q)) : MK P k Int where
  enc := .int q
  keyed := Go.Maps.int_keyed hk
  ok a := (Lit.int q a).wf = true
  has _ h := ⟨_, Go.Maps.keyOf_int_mk hk h⟩
  inj _ _ h := by injection h
/-- Keys that are structs of two numbers. -/
def MK.two {P : Program} {k : TypeId} (q : IntKind) (hK : Keyed P k) (hk : ∀ a b : Int, (Lit.int q a).wf = true → (Lit.int q b).wf = true → ∃ l, keyOf P k (.agg #[.int q a, .int q b]) = some l) : MK P k (Int × Int) where
  enc p := .agg #[.int q p.1, .int q p.2]
  keyed := hK
  ok p := (Lit.int q p.1).wf = true ∧ (Lit.int q p.2).wf = true
  has p h := hk p.1 p.2 h.1 h.2
  inj p p' h := by
    obtain ⟨a, b⟩ := p
    obtain ⟨c, d⟩ := p'
    simpa using h
theorem key_two {P : Program} {k i : TypeId} {q : IntKind} {d : Nat} {f0 f1 : Field} (hk : P.underlying k = some (.struct #[f0, f1])) (hi : P.underlying i = some (.int q)) (hkt : P.keyType k = true) (hd : P.types.size = d + 1)
    (h2 : P.cellsOf k = 2) (h1 : P.cellsOf i = 1) (t0 : f0.type = i) (t1 : f1.type = i) (o0 : f0.offset = 0) (o1 : f1.offset = 1) (n0 : (f0.name != "_") = true) (n1 : (f1.name != "_") = true)
    (a b : Int) (ha : (Lit.int q a).wf = true) (hb : (Lit.int q b).wf = true) : ∃ l, keyOf P k (.agg #[.int q a, .int q b]) = some l := by
  refine ⟨.string (Go.keyBytes [.int q a, .int q b]), ?_⟩
  unfold keyOf
  rw [hk]
  simp only [hkt, Value.formed, hk, h2, Bool.true_and]
  rw [if_pos (by rfl), hd]
  have e : P.keyLits (d + 1 + 1) k (Value.agg #[.int q a, .int q b]).cells.toList = some [.int q a, .int q b] := by
    unfold Program.keyLits
    simp only [hk, h2]
    rw [if_pos ⟨rfl, by simp [n0, n1]⟩]
    simp [t0, t1, o0, o1, h1, Value.cells, Program.keyLits, hi, ha, hb]
  rw [e]; rfl
section
variable {κ : Type} [DecidableEq κ]
/-- The element of a key: that was written last. -/
def look : List (κ × Value) → κ → Option Value
  | [], _ => none
  | (b, v) :: r, a => if b = a then some v else look r a
theorem look_nil (a : κ) : look [] a = none := rfl
theorem look_same (m : List (κ × Value)) (a : κ) (v : Value) : look ((a, v) :: m) a = some v := by simp [look]
theorem look_other (m : List (κ × Value)) {a b : κ} (v : Value) (h : b ≠ a) : look ((b, v) :: m) a = look m a := by simp [look, h]
variable {P : Program} {k : TypeId} {K : MK P k κ}
/-- A map's datum reads as the list. -/
def Reads (K : MK P k κ) (D : DataW Value) (m : List (κ × Value)) : Prop :=
  ∀ a, K.ok a → ∀ zd, D.atKey (K.lit a) zd = (match look m a with | some v => .held v | none => zd)
theorem Reads.has {D : DataW Value} {m : List (κ × Value)} (h : Reads K D m) {a : κ} (ha : K.ok a) : Go.Maps.has D (K.lit a) = (look m a).isSome := by
  have := h a ha
  cases hl : look m a with
  | none => rw [hl] at this; exact Go.Maps.has_false_of_atKey this
  | some v => rw [hl] at this; exact Go.Maps.has_true_of_atKey this
theorem Reads.put {D : DataW Value} {m : List (κ × Value)} (h : Reads K D m) (hD : Go.Maps.IsMap D) {a : κ} (ha : K.ok a) (v : Value) : Reads K (D.put (K.lit a) (.held v)) ((a, v) :: m) := by
  intro b hb zd
  by_cases e : a = b
  · subst e
    rw [look_same, Go.Maps.atKey_put_same hD (K.keyed.key (K.key a ha))]
  · rw [look_other m v e, Go.Maps.atKey_put_other (fun h2 => e (K.litInj hb ha h2).symm)]
    exact h b hb zd
/-- A map in block b. -/
def SL.map (K : MK P k κ) (b : Nat) (m : List (κ × Value)) : SL where
  P S w := (∃ D, w.ownsMap P k tokR b m.length D ∧ Reads K D m) ∧ ∀ i, S i ↔ i = b
  lt h i hi := by obtain ⟨D, h1, _⟩ := h.1; rw [(h.2 i).1 hi]; exact h1.lt
  move h hm := by
    obtain ⟨⟨D, ⟨es, clock, hb, r⟩, h2⟩, h3⟩ := h
    exact ⟨⟨D, ⟨es, clock, (hm _ ((h3 _).2 rfl)).trans hb, r⟩, h2⟩, h3⟩
variable {l : List SL} {w0 w : World} {b : Nat} {m : List (κ × Value)}
theorem St.mapNew (h : St l w0 w) (K : MK P k κ) : St (SL.map K w.heap.size [] :: l) w0 (w.alloc (.map #[] 0)) :=
  h.add (A := SL.map K w.heap.size []) (S2 := fun i => i = w.heap.size) ⟨⟨_, World.ownsMap_made w P k tokR, fun a _ zd => rfl⟩, fun _ => Iff.rfl⟩
    ⟨Chg.of_below (below_alloc (Below.refl _ _) _), fun i hi => .inr (by rw [hi]; exact Nat.le_refl _)⟩
theorem St.look (h : St l w0 w) (n : Nat) (e : l[n]? = some (SL.map K b m)) {t et : TypeId} (ht : P.underlying t = some (.map k et)) {z : Value} (hz : (zeroValue et).run P w = .ok z w) (a : κ) (ha : K.ok a) :
    (Instr.lookup t (.map (some b)) (K.enc a) false).run P w = .ok ((look m a).getD z) w ∧ (Instr.lookup t (.map (some b)) (K.enc a) true).run P w = .ok (.tuple #[(look m a).getD z, .bool (look m a).isSome]) w := by
  obtain ⟨S1, ⟨⟨D, hO, hR⟩, _⟩, _⟩ := h.at_ n _ e
  have hv : ∀ v ps, tokR v = some (D.atKey (K.lit a) (.held z), ps) → v = (Sl.look m a).getD z := by
    intro v ps hv
    rw [hR a ha] at hv
    simp only [tokR, Option.some.injEq, Prod.mk.injEq] at hv
    cases hl : Sl.look m a <;> rw [hl] at hv <;> simpa using hv.1
  obtain ⟨v, ps, h1, h2⟩ := hO.lookup K.keyed ht hz (zd := .held z) (zp := []) rfl (K.key a ha)
  obtain ⟨v', ps', h3, h4⟩ := hO.look_ok K.keyed ht hz (zd := .held z) (zp := []) rfl (K.key a ha)
  exact ⟨by rw [h1, hv v ps h2], by rw [h3, hv v' ps' h4, hR.has ha]⟩
theorem St.mapSet (h : St l w0 w) (n : Nat) (e : l[n]? = some (SL.map K b m)) {t et : TypeId} (ht : P.underlying t = some (.map k et)) (hl : m.length < maxLen) (a : κ) (ha : K.ok a) (v : Value) :
    ∃ w1, (Instr.mapUpdate t (.map (some b)) (K.enc a) v).run P w = .ok () w1 ∧ St (l.set n (SL.map K b ((a, v) :: m))) w0 w1 := by
  obtain ⟨S1, ⟨⟨D, hO, hR⟩, hS⟩, hk⟩ := h.at_ n _ e
  obtain ⟨w1, hrun, hO2, hg⟩ := hO.update K.keyed ht hl (K.key a ha) (val := v) (d := .held v) (ps := []) rfl
  exact ⟨w1, hrun, hk _ w1 S1 ⟨⟨_, by simpa using hO2, hR.put hO.isMap ha v⟩, hS⟩ ⟨Chg.grown hg (fun j hj => by cases hj; exact (hS b).2 rfl), fun i hi => .inl hi⟩⟩
theorem St.mapLen (h : St l w0 w) (n : Nat) (e : l[n]? = some (SL.map K b [])) {t et : TypeId} (ht : P.underlying t = some (.map k et)) (ty : TypeId) : (Builtin.len_ #[t] ty #[.map (some b)]).run P w = .ok (.int .i64 0) w := by
  obtain ⟨S1, ⟨⟨D, hO, _⟩, _⟩, _⟩ := h.at_ n _ e
  have h2 := hO.size_le
  rw [hO.len ht ty]
  simp at h2
  rw [h2]; rfl
end
section
variable {P : Program} {ops : Array Oper} {rest : List Oper} {o : Oper} {act : Act} {Q : Exit → Act → World → Prop} {Kc : Act → World → Prop} {l : List SL} {w0 W : World} {κ : Type} [DecidableEq κ] {k : TypeId}
/-- make(map[K]V) -/
theorem map_st (K : MK P k κ) (HS : St l w0 W) (hgd : o.guard = none)
    (hrun : (execOp act.eval o).run P W = .ok (.value (.map (some W.heap.size))) (W.alloc (.map #[] 0)))
    (h : ∀ b w1, St (SL.map K b [] :: l) w0 w1 → Below W.heap.size W w1 → wpList P ops Q rest (act.put o.dst (.map (some b))) w1) : wpList P ops Q (o :: rest) act W :=
  Kd.event_run hgd hrun (h _ _ (HS.mapNew K) (below_alloc (Below.refl _ _) _))
/-- m[k] = v -/
theorem mapset_st {K : MK P k κ} {b : Nat} {m : List (κ × Value)} (HS : St l w0 W) (n : Nat) (e : l[n]? = some (SL.map K b m)) (t et : TypeId) (ht : P.underlying t = some (.map k et)) (a : κ) (v : Value) (ha : K.ok a) (hl : m.length < maxLen)
    (hgd : o.guard = none) (hN : o.dst = none) (x y z : Operand) (ho : o.op = .mapUpdate t x y z) (hx : act.eval x = .map (some b)) (hy : act.eval y = K.enc a) (hz : act.eval z = v)
    (h : ∀ w1, St (l.set n (SL.map K b ((a, v) :: m))) w0 w1 → wpList P ops Q rest act w1) : wpList P ops Q (o :: rest) act W := by
  obtain ⟨w1, hrun, hS⟩ := HS.mapSet n e ht hl a ha v
  refine store_run hgd hN (w1 := w1) ?_ (h w1 hS)
  simp [execOp, ho, hx, hy, hz, hrun, Result.andThen]
end
end Go.Proofs.Ytkmhgolohppliaa.Sl
