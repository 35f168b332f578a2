/- Words of my own beside the print's: rows whose elements hold no rows are copied whole. -/
import Derived.Test.YtkmhgolohppliaaWMore
import Derived.Test.YtkmhgolohppliaaWN
import Derived.Test.YtkmhgolohppliaaWShare
import Derived.Maps.AppendAt
import Derived.Handy
import Derived.Lib.Hide
import Derived.WalkSpells
import Derived.Lib.SliceRun
import Derived.LaidEql
namespace Go.Proofs.Ytkmhgolohppliaa.Mine
open Go.RowKit Go.Proofs.YtkmhgolohppliaaW.PrintWords Go.Proofs.YtkmhgolohppliaaW.PrintLast Go.Proofs.YtkmhgolohppliaaW.PrintMore
set_option linter.unusedVariables false

/-- A kind whose elements hold no rows: what is read can be taken as made. -/
def Flat {α : Type} (d : Kd α) : Prop := ∀ {w w' : World} {base : Nat} {ok : Nat → Prop} {x : α} {cs : List Value}, d.K w x cs → d.M w' base ok x cs
theorem flat_scalar {α : Type} {enc : α → Value} {h1 : ∀ x, (enc x).oneCell' = true} : Flat (Kd.scalar enc h1) := fun h => h
theorem flat_int (k : IntKind) : Flat (Kd.int k) := flat_scalar
theorem flat_bool : Flat Kd.bool := flat_scalar
theorem flat_string : Flat Kd.string := flat_scalar
theorem flat_pair {α β : Type} {a : Kd α} {b : Kd β} (ha : Flat a) (hb : Flat b) : Flat (Kd.pair a b) := by
  rintro w w' base ok x cs ⟨c0, c1, rfl, h0, h1⟩
  exact ⟨c0, c1, rfl, ha h0, hb h1⟩
theorem flat_iso {α β : Type} {d : Kd α} {f : β → α} (h : Flat d) : Flat (Kd.iso d f) := fun hk => h hk

/-- The cells of a row that is read. -/
theorem C_cells {α : Type} {d : Kd α} {w : World} {ad : Addr} {n : Nat} {xs : List α} (h : d.C w (some ad) n xs) :
    ∃ news, news.length = n * d.sz ∧ Reps (d.K w) d.sz xs news ∧ (∀ j u, news[j]? = some u → w.cell? (ad.add j) = some u) := by
  obtain ⟨inner, hr, hc⟩ := ReadsRow.inner_ h
  exact ⟨inner, by rw [hr.1, h.1], hr, hc⟩
theorem Reps.one {α : Type} {d : Kd α} {w : World} {xs : List α} {cs : List Value} (h : Reps (d.K w) d.sz xs cs) (hs : 0 < d.sz) : ∀ u ∈ cs, u.oneCell' = true := by
  intro u hu
  obtain ⟨j, hj, rfl⟩ := List.mem_iff_getElem.1 hu
  have hlen := h.1
  have hjj : j / d.sz < xs.length := by
    rw [Nat.div_lt_iff_lt_mul hs]; omega
  have hk := h.2 (j / d.sz) _ (List.getElem?_eq_getElem hjj)
  refine d.K_one hk _ ?_
  have hm : j % d.sz < d.sz := Nat.mod_lt _ hs
  have hd : j / d.sz * d.sz + j % d.sz = j := Nat.div_add_mod' j d.sz
  have e : ((cs.drop (j / d.sz * d.sz)).take d.sz)[j % d.sz]? = some cs[j] := by
    rw [List.getElem?_take_of_lt hm, List.getElem?_drop, hd]
    exact List.getElem?_eq_getElem hj
  exact List.mem_of_getElem? e
/-- A row of the call's own, out of cells. -/
theorem R_of_cells {α : Type} {d : Kd α} (hf : Flat d) {e : Nat} {w w0 : World} {base : Nat} {ok : Nat → Prop} {v : Value} {xs : List α} {cs : List Value} (hr : Reps (d.K w0) d.sz xs cs) (ho : w.ownsRow base e d.sz v xs.length cs)
    (hok : ∀ k, v.ownBlock = some k → ok k) : d.R e w base ok v xs :=
  ⟨hok, cs, ho, Reps.imp_ hr (fun _ _ hk => hf hk)⟩

/-- The empty row of a literal. -/
theorem own_empty (w : World) (e size : Nat) : (w.alloc (.cells #[] e)).ownsRow w.heap.size e size (.slice (some ⟨w.heap.size, 0, none⟩) 0 0) 0 [] := by
  refine ⟨by simp, .inr ⟨w.heap.size, 0, #[], rfl, Nat.le_refl _, blk_new w _, ?_⟩⟩
  simp [maxLen]

section
variable {P : Program} {ops : Array Oper} {rest : List Oper} {o : Oper} {a : Act} {Q : Exit → Act → World → Prop}
/-- 'append([]T{}, s...)': a row is copied whole. -/
theorem append_clone {α : Type} {d : Kd α} (hf : Flat d) (W0 : World) (hgd : o.guard = none) (s x : Operand) (t e : TypeId) (z : Value) (bytes : Nat)
    (ho : o.op = .call { callee := .builtin .append, args := #[s, x], argTypes := #[t, t] })
    (ht : P.underlying t = some (.slice e)) (hinfo : (P.info? e).map (fun i => (i.zero, i.size, i.bytes)) = some (some z, d.sz, bytes)) (hz : z.cells.size = d.sz) (hsz : 0 < d.sz) (hb0 : 0 < bytes)
    (xs : List α) (ad : Addr) (m c : Nat) (hs : a.eval s = .slice (some ⟨W0.heap.size, 0, none⟩) 0 0) (hx : a.eval x = .slice (some ad) m c)
    (HR : d.C W0 (some ad) m xs) (hl : m * bytes ≤ 140737488355328)
    (h : ∀ v1 w1, d.R e w1 W0.heap.size (fun _ => True) v1 xs → Below W0.heap.size W0 w1 → wpList P ops Q rest (a.put o.dst v1) w1) :
    wpList P ops Q (o :: rest) a (W0.alloc (.cells #[] e)) := by
  obtain ⟨i0, hi, hzz⟩ := Option.map_eq_some_iff.1 hinfo
  simp only [Prod.mk.injEq] at hzz
  obtain ⟨hz0, hz1, hz2⟩ := hzz
  obtain ⟨news, hlen, hr, hc⟩ := C_cells (Kd.C_alloc HR (.cells #[] e))
  have hm : m ≤ 140737488355328 := Nat.le_trans (Nat.le_mul_of_pos_right _ hb0) hl
  have hB0 : Below W0.heap.size W0 (W0.alloc (.cells #[] e)) := below_alloc (Below.refl _ _) _
  refine wpList_append_own_at (P := P) _ hgd s x t ho W0.heap.size e i0 z d.sz bytes ht hi hz0 hz1 hz2 hz hsz _ 0 [] hs (own_empty W0 e d.sz) ad m c news hx hlen hc (Reps.one hr hsz) (by unfold maxLen; omega) (by rw [Nat.zero_add]; exact hl) (by simp) ?_
  intro v' w' hown hg _ _
  have hxl : xs.length = m := HR.1
  refine h v' w' (R_of_cells hf hr (by simpa [hxl] using hown) (fun _ _ => trivial)) ?_
  exact pw_below_grown hB0 _ (by simp) hg (fun k hk => by simp [Value.ownBlock] at hk; omega)
end
end Go.Proofs.Ytkmhgolohppliaa.Mine
