/- Arrays among owned memory: a zero array's block, an array that is loaded and stored whole, a struct built of one. -/
import Derived.Test.YtomhhaaogenedaaSle
import Derived.Laws.Rows
namespace Go.Proofs.Ytomhhaaogenedaa.Sl
open Go.RowKit Go.Proofs.YtomhhaaogenedaaW.PrintWords Go.Proofs.YtomhhaaogenedaaW.PrintLast Go.Proofs.YtomhhaaogenedaaW.PrintMore Go.Proofs.Ytomhhaaogenedaa.Mine
set_option linter.unusedVariables false
set_option linter.unusedSimpArgs false
section
variable {P : Program} {ops : Array Oper} {rest : List Oper} {o : Oper} {a : Act} {Q : Exit → Act → World → Prop} {l : List SL} {w0 W : World} {ev : Operand → Value}
theorem alloc_run {t : TypeId} {cs : Array Value} (ho : o.op = .alloc t) (hz : (P.info? t).map (·.zero) = some (some (.agg cs))) :
    (execOp ev o).run P W = .ok (.value (.pointer (some ⟨W.heap.size, 0, none⟩))) (W.alloc (.cells cs t (0, 0))) := by
  unfold execOp
  simp only [ho]
  cases hi : P.info? t with
  | none => simp [hi] at hz
  | some i =>
    have hz' : i.zero = some (.agg cs) := by simpa [hi] using hz
    simp [Instr.alloc, zeroValue, typeInfo, hi, hz', newVar, newRow, Value.cells]
theorem box_run {t : TypeId} {x : Operand} {cs : Array Value} (ho : o.op = .box t x) (hx : ev x = .agg cs) :
    (execOp ev o).run P W = .ok (.value (.pointer (some ⟨W.heap.size, 0, none⟩))) (W.alloc (.cells cs t (0, 0))) := by
  unfold execOp
  simp only [ho]
  simp [Instr.box, hx, newVar, newRow, Value.cells]
theorem load_st (HS : St l w0 W) (n g t : Nat) (cs : Array Value) (e : l[n]? = some (SL.blk g t cs)) (hgd : o.guard = none) (ty : TypeId) (x : Operand) (ho : o.op = .load ty x) (hx : a.eval x = .pointer (some ⟨g, 0, none⟩))
    (d : TypeDesc) (hu : P.underlying ty = some d) (hd : (match d with | .struct _ | .array _ _ => true | _ => false) = true) (hi : (P.info? ty).map (·.size) = some cs.size)
    (h : wpList P ops Q rest (a.put o.dst (.agg cs)) W) : wpList P ops Q (o :: rest) a W :=
  wpList_load_row hgd ty x ho g hx t cs (0, 0) d (HS.heap n g t cs e) hu hd hi h
theorem St.setRow {w1 : World} (h : St l w0 W) (n g t : Nat) (cs cs' : Array Value) (e : l[n]? = some (SL.blk g t cs)) : St (l.set n (SL.blk g t cs')) w0 (W.setRow g cs') := by
  obtain ⟨S1, h1, hk⟩ := h.at_ n _ e
  refine hk _ _ S1 ⟨setRow_heap W g cs cs' t _ h1.1, h1.2⟩ ⟨⟨rfl, rfl, rfl, by simp, fun i hi hn => setRow_other W g i cs' (fun e => hn ((h1.2 i).2 e))⟩, fun i hi => .inl hi⟩
theorem build_st (hgd : o.guard = none) (t : TypeId) (parts : Array (Nat × Operand)) (ho : o.op = .build t parts) (vs : List (Nat × Value)) (hv : (parts.map fun (i, x) => (i, a.eval x)).toList = vs) (cs : Array Value) (hb : P.built t vs = some cs)
    (h : wpList P ops Q rest (a.put o.dst (.agg cs)) W) : wpList P ops Q (o :: rest) a W := by
  subst hv
  refine wpList_build hgd t parts ho (by rw [hb]; rfl) ?_
  rw [hb]
  exact h
theorem storeRow_st (HS : St l w0 W) (n g t : Nat) (cs cs' : Array Value) (e : l[n]? = some (SL.blk g t cs)) (hgd : o.guard = none) (ty : TypeId) (x y : Operand) (ho : o.op = .store ty x y) (hx : a.eval x = .pointer (some ⟨g, 0, none⟩)) (hy : a.eval y = .agg cs')
    (hi : (P.info? ty).map (·.size) = some cs'.size) (hs : cs.size = cs'.size) (h1 : cs'.all (·.oneCell') = true)
    (h : ∀ w1, St (l.set n (SL.blk g t cs')) w0 w1 → wpList P ops Q rest (a.put o.dst undef) w1) : wpList P ops Q (o :: rest) a W :=
  wpList_store_row hgd ty x y ho g cs' hx hy t cs (HS.heap n g t cs e) hi hs h1 (h _ (HS.setRow (w1 := W) n g t cs cs' e))
end
/-- Numbers as cells. -/
def nums (k : IntKind) (l : List Nat) : Array Value := (l.map (fun (x : Nat) => Value.int k (x : Int))).toArray
theorem nums_size {k : IntKind} {l : List Nat} : (nums k l).size = l.length := by unfold nums; simp
theorem nums_one {k : IntKind} {l : List Nat} : (nums k l).all (·.oneCell') = true := by
  rw [Array.all_eq_true_iff_forall_mem]
  intro v hv
  obtain ⟨x, _, rfl⟩ := List.mem_map.1 (by simpa [nums] using hv : v ∈ l.map (fun (x : Nat) => Value.int k (x : Int)))
  rfl
theorem nums_set {k : IntKind} {l : List Nat} (i x : Nat) : (nums k l).setIfInBounds i (.int k (x : Int)) = nums k (l.set i x) := by
  unfold nums
  simp [List.map_set]
theorem nums_get {k : IntKind} {l : List Nat} (i : Nat) (h : i < l.length) : (nums k l)[i]? = some (.int k ((l.getD i 0 : Nat) : Int)) := by
  unfold nums
  simp [h]
end Go.Proofs.Ytomhhaaogenedaa.Sl
