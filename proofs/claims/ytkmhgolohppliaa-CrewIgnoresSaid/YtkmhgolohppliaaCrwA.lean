/- A crew as a model: partitions side by side, their ids, the map of them. -/
import Derived.Test.YtkmhgolohppliaaSht
import Derived.Test.YtkmhgolohppliaaCrwK
import Derived.Test.YtkmhgolohppliaaSlq
namespace Go.Proofs.Ytkmhgolohppliaa.Crw
open Go.RowKit Go.Proofs.Ytkmhgolohppliaa.PCellsPlays Go.Proofs.YtkmhgolohppliaaW.PrintWords Go.Proofs.YtkmhgolohppliaaW.PrintLast Go.Proofs.YtkmhgolohppliaaW.PrintMore Go.Proofs.Ytkmhgolohppliaa.Mine Go.Proofs.Ytkmhgolohppliaa.Cel Go.Proofs.Ytkmhgolohppliaa.Cls
open Go.Proofs.Ytkmhgolohppliaa.Prt (PS new_hd setMode_at act_at write_at shot_at id_st)
open Go.Proofs.Ytkmhgolohppliaa.Sl (SL Stp Chg St No wpc_seal wpc_round sealed MK look)
open Go.Proofs.YtkmhgolohppliaaW.PrintWords (results_list Vals)
set_option linter.unusedVariables false
set_option linter.unusedSimpArgs false
attribute [local go_sem] max2_int min2_int max_two min_two max_three min_three max_four min_four
theorem snoc_ind {α : Type} {p : List α → Prop} (h0 : p []) (h1 : ∀ (l : List α) (x : α), p l → p (l ++ [x])) (l : List α) : p l := by
  have h : ∀ r : List α, p r.reverse := by
    intro r
    induction r with
    | nil => exact h0
    | cons x r ih => rw [List.reverse_cons]; exact h1 _ _ ih
  have := h l.reverse
  rwa [List.reverse_reverse] at this
/-- Keys that are ids. -/
abbrev KI : MK Try.prog 3 Int := MK.int .i64 Try.underlying3
theorem zero65 (w : World) : (zeroValue 65).run Try.prog w = .ok (.pointer none) w := by kernel_rfl
/-- A partition of a crew: its block, what it is of, its state. -/
structure CP where
  g : Nat
  p : S63
  s : PS
def CP.sl (x : CP) : SL := Prt.part x.g x.p.f0 x.p.f1 x.p.f2 x.p.f3 x.s
/-- The partitions' memory, the newest ahead. -/
def partsL (ps : List CP) : List SL := (ps.map CP.sl).reverse
theorem partsL_snoc (ps : List CP) (x : CP) (l : List SL) : partsL (ps ++ [x]) ++ l = x.sl :: (partsL ps ++ l) := by simp [partsL]
theorem partsL_len (ps : List CP) : (partsL ps).length = ps.length := by simp [partsL]
theorem partsL_get (ps : List CP) (l : List SL) (i : Nat) (h : i < ps.length) : (partsL ps ++ l)[ps.length - 1 - i]? = some (ps[i]).sl := by
  rw [List.getElem?_append_left (by rw [partsL_len]; omega)]
  unfold partsL
  rw [List.getElem?_reverse (by rw [List.length_map]; omega), List.length_map, List.getElem?_map, show ps.length - 1 - (ps.length - 1 - i) = i by omega, List.getElem?_eq_getElem h]
  rfl
theorem partsL_set (ps : List CP) (l : List SL) (i : Nat) (h : i < ps.length) (x : CP) : (partsL ps ++ l).set (ps.length - 1 - i) x.sl = partsL (ps.set i x) ++ l := by
  rw [List.set_append_left _ _ (by rw [partsL_len]; omega)]
  congr 1
  unfold partsL
  rw [← List.length_map (f := CP.sl)] at h ⊢
  rw [List.map_set]
  apply List.ext_getElem?
  intro j
  rw [List.getElem?_set]
  by_cases hj : j < (ps.map CP.sl).length
  · rw [List.getElem?_reverse hj, List.getElem?_reverse (by simpa using hj), List.getElem?_set, List.length_set, List.length_reverse]
    by_cases e : (ps.map CP.sl).length - 1 - i = j
    · rw [if_pos e, if_pos (by omega), if_pos (by omega), if_pos (by omega)]
    · rw [if_neg e, if_neg (by omega)]
  · rw [List.getElem?_eq_none (by simpa using hj), List.getElem?_eq_none (by simpa using hj), List.length_reverse]
    rw [if_neg (by omega)]
/-- The crew's map. -/
def mapC (ps : List CP) : List (Int × Value) := (ps.map fun x => (x.p.f0, Value.pointer (some ⟨x.g, 0, none⟩))).reverse
theorem mapC_snoc (ps : List CP) (x : CP) : mapC (ps ++ [x]) = (x.p.f0, .pointer (some ⟨x.g, 0, none⟩)) :: mapC ps := by simp [mapC]
theorem mapC_len (ps : List CP) : (mapC ps).length = ps.length := by simp [mapC]
def idsC (ps : List CP) : List Int := ps.map (·.p.f0)
theorem idsC_snoc (ps : List CP) (x : CP) : idsC (ps ++ [x]) = idsC ps ++ [x.p.f0] := by simp [idsC]
theorem look_none : ∀ (ps : List CP) (id : Int), id ∉ idsC ps → Sl.look (mapC ps) id = none := by
  refine snoc_ind ?_ ?_
  · intro id _; rfl
  · intro ps x ih id h
    rw [mapC_snoc]
    rw [idsC_snoc, List.mem_append] at h
    rw [Sl.look_other _ _ (fun e => h (.inr (by simp [e])))]
    exact ih id (fun h2 => h (.inl h2))
theorem look_at : ∀ (ps : List CP), (idsC ps).Nodup → ∀ (i : Nat) (h : i < ps.length), Sl.look (mapC ps) (ps[i]).p.f0 = some (.pointer (some ⟨(ps[i]).g, 0, none⟩)) := by
  refine snoc_ind ?_ ?_
  · intro _ i h; exact absurd h (Nat.not_lt_zero _)
  · intro ps x ih hn i h
    rw [idsC_snoc, List.nodup_append] at hn
    obtain ⟨h1, _, h2⟩ := hn
    rw [mapC_snoc]
    by_cases hi : i < ps.length
    · rw [List.getElem_append_left hi]
      have hm : (ps[i]).p.f0 ∈ idsC ps := List.mem_map.2 ⟨_, List.getElem_mem hi, rfl⟩
      rw [Sl.look_other _ _ (fun e => h2 _ hm x.p.f0 (by simp) e.symm)]
      exact ih h1 i hi
    · have hi2 : i = ps.length := by rw [List.length_append, List.length_singleton] at h; omega
      subst hi2
      rw [List.getElem_append_right (Nat.le_refl _)]
      simp [Sl.look]
/-- Another state of one of them. -/
theorem mapC_set (ps : List CP) (i : Nat) (h : i < ps.length) (s : PS) : mapC (ps.set i ⟨(ps[i]).g, (ps[i]).p, s⟩) = mapC ps := by
  unfold mapC
  congr 1
  rw [List.map_set]
  apply List.ext_getElem?
  intro j
  rw [List.getElem?_set]
  by_cases e : i = j
  · subst e; rw [if_pos rfl, List.length_map, if_pos h, List.getElem?_map, List.getElem?_eq_getElem h]; rfl
  · rw [if_neg e]
theorem idsC_set (ps : List CP) (i : Nat) (h : i < ps.length) (s : PS) : idsC (ps.set i ⟨(ps[i]).g, (ps[i]).p, s⟩) = idsC ps := by
  unfold idsC
  rw [List.map_set]
  apply List.ext_getElem?
  intro j
  rw [List.getElem?_set]
  by_cases e : i = j
  · subst e; rw [if_pos rfl, List.length_map, if_pos h, List.getElem?_map, List.getElem?_eq_getElem h]; rfl
  · rw [if_neg e]
/-- Ids that rise. -/
def Rise (xs : List S63) (k : Nat) : Prop := ∀ i : Nat, i + 1 < k → (xs.getD i z63).f0 < (xs.getD (i + 1) z63).f0
theorem Rise.lt {xs : List S63} {k : Nat} (h : Rise xs k) : ∀ (d a : Nat), a + d + 1 < k → (xs.getD a z63).f0 < (xs.getD (a + d + 1) z63).f0
  | 0, a, hb => h a hb
  | d + 1, a, hb => Int.lt_trans (Rise.lt h d a (by omega)) (h (a + d + 1) hb)
theorem Rise.nodup {xs : List S63} {k : Nat} (h : Rise xs k) (hk : k ≤ xs.length) : ((xs.take k).map (·.f0)).Nodup := by
  rw [List.nodup_iff_pairwise_ne, List.pairwise_iff_getElem]
  intro a b ha hb hab
  rw [List.length_map, List.length_take] at ha hb
  have h2 := h.lt (b - a - 1) a (by omega)
  rw [show a + (b - a - 1) + 1 = b by omega] at h2
  rw [List.getElem_map, List.getElem_map, List.getElem_take, List.getElem_take]
  rw [List.getD_eq_getElem?_getD, List.getElem?_eq_getElem (by omega), List.getD_eq_getElem?_getD, List.getElem?_eq_getElem (by omega)] at h2
  exact fun e => absurd (show xs[a].f0 < xs[b].f0 from h2) (by rw [e]; exact Int.lt_irrefl _)
theorem ids_nodup {xs : List S63} {k : Nat} (h : Rise xs k) (hk : k ≤ xs.length) {ps : List CP} (hp : ps.map (·.p) = xs.take k) : (idsC ps).Nodup := by
  have e : idsC ps = (xs.take k).map (·.f0) := by rw [← hp]; simp [idsC]
  rw [e]; exact h.nodup hk
/-- A crew's memory. -/
def crewL (gc bm : Nat) (A : Option Addr) (c : Nat) (ids : List Int) (ps : List CP) (l : List SL) : List SL :=
  SL.blk gc 188 #[.slice A ids.length c, .map (some bm)] :: SL.row (Kd.int .i64) 3 (.slice A ids.length c) ids :: SL.map KI bm (mapC ps) :: (partsL ps ++ l)
/-- Partitions that a call may read, whatever is made beside. -/
def PartsAt (l : List SL) (w0 : World) (AL : Option Addr) (xs : List S63) : Prop :=
  ∀ k : Nat, k < xs.length → ∃ ad A3 c3, AL = some ad ∧ (xs.getD k z63).f3.length ≤ c3 ∧ ∀ (lx : List SL) (w1 : World), St (lx ++ l) w0 w1 →
    w1.cell? (ad.add (k * 4)) = some (.int .i64 (xs.getD k z63).f0) ∧ w1.cell? ⟨(ad.add (k * 4)).block, (ad.add (k * 4)).off + 1, none⟩ = some (.string (xs.getD k z63).f1) ∧
    w1.cell? ⟨(ad.add (k * 4)).block, (ad.add (k * 4)).off + 2, none⟩ = some (.bool (xs.getD k z63).f2) ∧ w1.cell? ⟨(ad.add (k * 4)).block, (ad.add (k * 4)).off + 3, none⟩ = some (.slice A3 (xs.getD k z63).f3.length c3) ∧
    k43.C w1 A3 (xs.getD k z63).f3.length (xs.getD k z63).f3
theorem PartsAt.more {l : List SL} {w0 : World} {AL : Option Addr} {xs : List S63} (h : PartsAt l w0 AL xs) (lx : List SL) : PartsAt (lx ++ l) w0 AL xs := by
  intro k hk
  obtain ⟨ad, A3, c3, h1, h2, h4⟩ := h k hk
  exact ⟨ad, A3, c3, h1, h2, fun ly w1 h5 => h4 (ly ++ lx) w1 (by rw [List.append_assoc]; exact h5)⟩
theorem parts_arg {l : List SL} {w0 : World} {AL : Option Addr} {xs : List S63} (h : Kd.C k63 w0 AL xs.length xs) : PartsAt l w0 AL xs := by
  intro k hk
  obtain ⟨ad, A3, c3, e, g0, g1, g2, g3, l3, C3⟩ := at_T63 h (k : Int) (by omega) (by omega)
  have hx : rd_T63 xs (k : Int) = xs.getD k z63 := by unfold rd_T63; rw [Int.toNat_natCast]
  rw [hx, Int.toNat_natCast] at g0 g1 g2 g3
  rw [hx] at l3 C3
  exact ⟨ad, A3, c3, e, l3, fun lx w1 h1 => ⟨h1.old g0, h1.old g1, h1.old g2, h1.old g3, h1.C C3⟩⟩
theorem drop_all : ∀ {l : List SL} {w0 w : World} (lx : List SL), St (lx ++ l) w0 w → St l w0 w
  | _, _, _, [], h => h
  | _, _, _, _ :: lx, h => drop_all lx (St.drop h)
def CrewPost (l : List SL) (w0 : World) (xs : List S63) (e : Ending) (w' : World) : Prop :=
  (Rise xs xs.length ∧ ∃ (gc bm : Nat) (A : Option Addr) (c : Nat) (ids : List Int) (ps : List CP), e = .returned (.tuple #[.pointer (some ⟨gc, 0, none⟩), .int .i64 0]) ∧ ps.map (·.p) = xs ∧ ids = idsC ps ∧ (∀ x ∈ ps, x.s = PS.init x.p.f3) ∧ St (crewL gc bm A c ids ps l) w0 w') ∨
  (¬ Rise xs xs.length ∧ e = .returned (.tuple #[.pointer none, .int .i64 9]) ∧ St l w0 w')
end Go.Proofs.Ytkmhgolohppliaa.Crw
