/- window.Word: whose all ticks are: the windows are laid over the ticks from the last one on. -/
import Derived.Test.YtolokohgphdngaaRnd
namespace Go.Proofs.Ytolokohgphdngaa.Win
open Go.RowKit Go.Shelf Go.Proofs.YtolokohgphdngaaW.PrintWords Go.Proofs.YtolokohgphdngaaW.PrintLast Go.Proofs.YtolokohgphdngaaW.PrintMore Go.Proofs.Ytolokohgphdngaa.Mine
open Go.Proofs.Ytolokohgphdngaa.Sl (SL Stp Chg St No)
set_option linter.unusedVariables false
set_option linter.unusedSimpArgs false
attribute [local go_sem] Oper.semAt_some
attribute [local go_sem] max2_int min2_int max_two min_two max_three min_three max_four min_four
/-- Ticks from a to b are id's. -/
def lay (a b id : Int) (xs : List Int) : List Int := xs.mapIdx fun i x => if a ≤ (i : Int) ∧ (i : Int) < b then id else x
def paint (xs : List Int) (x : Wn) : List Int := lay (max x.off 0) (min (wrap64 (x.off + x.len)) xs.length) x.id xs
def painted (n : Nat) (l : List (Nat × Wn)) : List Int := l.foldl (fun xs p => paint xs p.2) (List.replicate n (-1))
/-- Whose all ticks are. -/
def wordOf (n : Nat) (ws : List Wn) : List Int := painted n (back ws ws.length)
theorem lay_len (a b id : Int) (xs : List Int) : (lay a b id xs).length = xs.length := by unfold lay; simp
theorem paint_len (xs : List Int) (x : Wn) : (paint xs x).length = xs.length := lay_len _ _ _ _
theorem painted_len (n : Nat) (l : List (Nat × Wn)) : (painted n l).length = n := by
  unfold painted
  have : ∀ (l : List (Nat × Wn)) (xs : List Int), (l.foldl (fun xs p => paint xs p.2) xs).length = xs.length := by
    intro l
    induction l with
    | nil => intro xs; rfl
    | cons p l ih => intro xs; rw [List.foldl_cons, ih, paint_len]
  rw [this]; simp
theorem painted_snoc (n : Nat) (l : List (Nat × Wn)) (p : Nat × Wn) : painted n (l ++ [p]) = paint (painted n l) p.2 := by unfold painted; simp
theorem lay_none {a b id : Int} (h : b ≤ a) (xs : List Int) : lay a b id xs = xs := by
  unfold lay
  apply List.ext_getElem
  · simp
  · intro i h1 h2
    rw [List.getElem_mapIdx, if_neg (by omega)]
theorem lay_one {a k id : Int} (xs : List Int) (h0 : 0 ≤ k) (ha : a ≤ k) : (lay a k id xs).set k.toNat id = lay a (k + 1) id xs := by
  unfold lay
  apply List.ext_getElem
  · simp
  · intro i h1 h2
    rw [List.getElem_set, List.getElem_mapIdx, List.getElem_mapIdx]
    by_cases c : k.toNat = i
    · rw [if_pos c, if_pos (by omega)]
    · rw [if_neg c]
      by_cases d : a ≤ (i : Int) ∧ (i : Int) < k
      · rw [if_pos d, if_pos (by omega)]
      · rw [if_neg d, if_neg (by omega)]
/-- Numbers as the cells of a block. -/
def cels (xs : List Int) : Array Value := (nums .i64 xs).toArray
theorem cels_size (xs : List Int) : (cels xs).size = xs.length := by unfold cels; simp [nums]
theorem cels_get (xs : List Int) (i : Nat) (h : i < xs.length) : (cels xs)[i]? = some (.int .i64 (xs.getD i 0)) := by unfold cels nums; simp [h]
theorem cels_set (xs : List Int) (i : Nat) (x : Int) : (cels xs).setIfInBounds i (.int .i64 x) = cels (xs.set i x) := by unfold cels nums; simp [List.map_set]
section
variable {P : Program} {ops : Array Oper} {rest : List Oper} {o : Oper} {a : Act} {Q : Exit → Act → World → Prop} {l : List SL} {w0 W : World}
/-- make([]int, n). -/
theorem make_ints (HS : St l w0 W) (hgd : o.guard = none) (t e : TypeId) (x y : Operand) (ho : o.op = .makeSlice t x y) (n : Int) (hx : a.eval x = .int .i64 n) (hy : a.eval y = .int .i64 n) (ht : P.underlying t = some (.slice e))
    (hinfo : (P.info? e).map (fun i => (i.zero, i.size, i.bytes)) = some (some (.int .i64 0), 1, 8)) (h0 : 0 ≤ n) (hl : n ≤ 16000000)
    (h : ∀ g w1, St (SL.blk g e (cels (List.replicate n.toNat 0)) :: l) w0 w1 → Below W.heap.size W w1 → wpList P ops Q rest (a.put o.dst (.slice (some ⟨g, 0, none⟩) n.toNat n.toNat)) w1) : wpList P ops Q (o :: rest) a W := by
  obtain ⟨i, hi⟩ : ∃ i, P.info? e = some i := by cases hq : P.info? e with | none => simp [hq] at hinfo | some i => exact ⟨i, rfl⟩
  rw [hi] at hinfo
  simp only [Option.map_some, Option.some.injEq, Prod.mk.injEq] at hinfo
  obtain ⟨hz, hs, hb⟩ := hinfo
  have hr := run_make (P := P) W t e i (.int .i64 0) ht hi hz .i64 .i64 n n h0 (Int.le_refl _) (by rw [hb]; omega) (by omega)
  have hm : madeCells (Value.int .i64 0).cells (n.toNat * i.size) = cels (List.replicate n.toNat 0) := by
    unfold madeCells cels nums
    rw [hs, Nat.mul_one]
    apply Array.ext
    · simp
    · intro j h1 h2
      simp [Value.cells, Nat.mod_one]
  rw [hm] at hr
  refine Kd.event_run hgd ?_ (h W.heap.size (W.alloc (.cells (cels (List.replicate n.toNat 0)) e)) (HS.box e _) (below_alloc (Below.refl _ _) _))
  unfold execOp
  simp only [ho, hx, hy]
  show ((do pure (Next.value (← Instr.makeSlice t (.int .i64 n) (.int .i64 n))) : Sem Next)).run P W = _
  simp [Sem.run_bind, hr]
end
theorem neg_set {n k : Nat} (h : k < n) : (List.replicate k (-1 : Int) ++ List.replicate (n - k) 0).set k (-1) = List.replicate (k + 1) (-1) ++ List.replicate (n - (k + 1)) 0 := by
  rw [List.set_append_right _ _ (by simp), show n - k = (n - (k + 1)) + 1 by omega, List.replicate_succ, List.replicate_succ']
  simp
theorem bwd_st {l : List SL} {w0 w : World} (h : St l w0 w) (a : Option Addr) (len cap : Nat) : Calls Try.prog 85 #[.slice a len cap] w fun e w' => ∃ g, e = .returned (.func (.func 87) #[] #[.pointer (some ⟨g, 0, none⟩)]) ∧ St (SL.blk g 131 #[.slice a len cap] :: l) w0 w' :=
  (callsIn_wide.1 (bwd_in Fence.wide 5 trivial rfl a len cap w)).mono fun _ _ ⟨he, hw⟩ => ⟨_, he, by rw [hw]; exact h.box _ _⟩
theorem heap_kept {W W' : World} {g B : Nat} {o : Obj} {row : Option Nat} (h : W.heap[g]? = some o) (hl : g < B) (hg : W.grownBy W' row) (hr : ∀ r, row = some r → B ≤ r ∧ ∃ o : Obj, W.heap[r]? = some o ∧ o.isCells = false) : W'.heap[g]? = some o :=
  (hg.block g (Array.getElem?_eq_some_iff.1 h).1 (fun e => by have := (hr g e.symm).1; omega)).trans h
theorem heap_kept' {W W' : World} {g B : Nat} {o : Obj} {row : Option Nat} (h : W.heap[g]? = some o) (ho : o.isCells = true) (hg : W.grownBy W' row) (hr : ∀ r, row = some r → B ≤ r ∧ ∃ o : Obj, W.heap[r]? = some o ∧ o.isCells = false) : W'.heap[g]? = some o :=
  (hg.block g (Array.getElem?_eq_some_iff.1 h).1 (fun e => by obtain ⟨_, o', ho', hc⟩ := hr g e.symm; rw [h] at ho'; cases ho'; rw [ho] at hc; cases hc)).trans h
theorem infoInt : (Try.prog.info? 3).map (fun i => (i.zero, i.size, i.bytes)) = some (some (.int .i64 0), 1, 8) := by kernel_rfl
set_option maxHeartbeats 6400000 in
set_option maxRecDepth 100000 in
theorem word_go (w : World) (id frame : Int) (A : Option Addr) (m c : Nat) (nv : Value) (ws : List Wn) (hI : Holds w.heap.size w (.slice A m c) ws) (hl : ws.length ≤ 1000000) (n : Nat) (hn2 : n ≤ 16000000) (hfr : (if frame < 0 then 0 else frame) = (n : Int)) :
    Calls Try.prog 80 #[.agg #[.int .i64 id, .int .i64 frame, .slice A m c, nv]] w fun e w' => ∃ v, e = .returned v ∧ (Kd.int .i64).R 3 w' w.heap.size (fun _ => True) v (wordOf n ws) ∧ Below w.heap.size w w' := by
  have HI := Go.Lib.hid hI
  have HS := Go.Lib.hid (St.start w)
  clear hI
  refine callsIn_wide.1 (callsIn_of_wp_marks (F := Fence.wide) (n := 6) Try.func80 rfl trivial ?_ rfl)
  refine wpIn_wide.2 ?_
  simp only [Try.ntmps80, List.size_toArray, List.length_cons, List.length_nil, Nat.reduceAdd, Nat.reduceSub, Array.replicate_succ, Array.replicate_zero, List.push_toArray, List.append_toArray, List.nil_append, List.cons_append]
  go_wp2_with (first | ((with_reducible refine gate_dst (N := 1) rfl ?_); refine Sl.box_st HS.out (by rfl) (cs := #[.int .i64 id, .int .i64 frame, .slice A m c, nv]) (t := 134) (by first | (go_simp; done) | (go_simp; rfl)) ?_; intro b0 w1 HSn HBn; clear HBn; replace HS := Go.Lib.hid HSn; clear HSn; obtain ⟨c0, c1, c2, c3⟩ := HS.out.c4 0 _ _ _ _ _ _ rfl) | ((with_reducible refine gate_dst (N := 13) rfl ?_); refine make_ints HS.out (by rfl) 108 3 (.tmp 12) (.tmp 12) rfl (n : Int) rfl rfl Try.underlying108 infoInt (by omega) (by omega) ?_; intro b1 w2 HSn HBn; clear HBn c0 c1 c2 c3; replace HS := Go.Lib.hid HSn; clear HSn) | ((with_reducible refine gate_dst (N := 3) rfl ?_); refine Sl.box_st HS.out (by rfl) (cs := #[.slice none 0 0]) (t := 108) (by first | (go_simp; done) | (go_simp; rfl)) ?_; intro b2 w3 HSn HBn; clear HBn; replace HS := Go.Lib.hid HSn; clear HSn; have c0 := HS.out.c1 0 _ _ _ rfl; have f0 := HS.out.f1 0 _ _ _ rfl) | ((with_reducible refine gate_store (p := 3) rfl ?_); refine Sl.store_st HS.out 0 b2 108 _ rfl 0 (.slice (some ⟨b1, 0, none⟩) n n) (by rfl) (by rfl) (by first | (go_simp; done) | (go_simp; rfl)) ?_; intro w4 HSn; replace HS : Hid (St [SL.blk b2 108 #[.slice (some ⟨b1, 0, none⟩) n n], SL.blk b1 3 (cels (List.replicate n 0)), SL.blk b0 134 #[.int .i64 id, .int .i64 frame, .slice A m c, nv]] w w4) := Go.Lib.hid HSn; clear HSn c0 f0; have c0 := HS.out.c1 0 _ _ _ rfl))
  go_loopw [16] (fun i wr => ∃ k : Nat, k ≤ n ∧ i = .int .i64 k ∧ St [SL.blk b2 108 #[.slice (some ⟨b1, 0, none⟩) n n], SL.blk b1 3 (cels (List.replicate k (-1) ++ List.replicate (n - k) 0)), SL.blk b0 134 #[.int .i64 id, .int .i64 frame, .slice A m c, nv]] w wr) (fun i _ => n - (intOf i).toNat)
  case atStart => exact ⟨0, Nat.zero_le _, rfl, HS.out⟩
  case round =>
    clear HS c0
    obtain ⟨k, hk, rfl, hS⟩ := hrel
    have HS := Go.Lib.hid hS
    clear hS
    have c0 := HS.out.c1 0 _ _ _ rfl
    by_cases hlt : k < n
    · have p1 : ((k : Int) < (n : Int)) = True := eq_true (by omega)
      have p0 : (0 ≤ (k : Int)) = True := eq_true (by omega)
      have hc := HS.out.cell 1 b1 3 _ rfl k
      rw [cels_get _ k (by simp; omega)] at hc
      have hfz := HS.out.free 1 b1 3 _ rfl k
      have hw : wrap64 ((k : Int) + 1) = ((k + 1 : Nat) : Int) := by unfold wrap64; omega
      go_wp2_with ((with_reducible refine gate_store (p := 21) rfl ?_); refine Sl.store_st HS.out 1 b1 3 _ rfl k (.int .i64 (-1)) (by rfl) (by rfl) (by first | (go_simp; done) | (go_simp; rfl)) ?_; intro w5 HSn; simp only [List.set_cons_succ, List.set_cons_zero, cels_set, neg_set hlt] at HSn; replace HS := Go.Lib.hid HSn; clear HSn hc hfz c0)
      go_roundw
      case rel => exact ⟨k + 1, by omega, rfl, HS.out⟩
      case measure => simp [intOf]; omega
    · obtain rfl : n = k := by omega
      rw [Nat.sub_self, List.replicate_zero, List.append_nil] at HS
      obtain ⟨d0, d1, d2, d3⟩ := HS.out.c4 2 _ _ _ _ _ _ rfl
      go_wp2_with (go_at_call 85; refine (bwd_st HS.out A m c).mono ?_; rintro e w6 ⟨bn, rfl, HSn⟩; replace HS := Go.Lib.hid HSn; clear HSn d0 d1 d2 d3 c0)
      have hbn : bn < w6.heap.size := by have := HS.out.heap 0 _ _ _ rfl; exact (Array.getElem?_eq_some_iff.1 this).1
      have hn0 : w.heap.size ≤ w6.heap.size := HS.out.size
      have h2 := HS.out.heap 1 _ _ _ rfl
      have h1 := HS.out.heap 2 _ _ _ rfl
      have l1 : b1 < w6.heap.size := (Array.getElem?_eq_some_iff.1 h1).1
      have l2 : b2 < w6.heap.size := (Array.getElem?_eq_some_iff.1 h2).1
      have n12 : b2 ≠ b1 := HS.out.ne_blk 1 2 _ _ _ _ _ _ rfl rfl (by decide)
      have g1 : w.heap.size ≤ b1 := HS.out.ge 2 _ _ _ rfl
      have g2 : w.heap.size ≤ b2 := HS.out.ge 1 _ _ _ rfl
      have nb1 : b1 ≠ bn := (HS.out.ne_blk 0 2 _ _ _ _ _ _ rfl rfl (by decide)).symm
      have hB6 := HS.out.below
      have hcb := HS.out.c1 0 _ _ _ rfl
      have hH : Holds w.heap.size w6 (.slice A m c) ws := HI.out.below hB6
      clear HS HI
      generalize ha : Act.mk _ _ = a0
      refine (wpIn_wide (n := 6)).1 ?_
      refine wpIn_rangeFunc_ownH (F := Fence.wide) (n := 6) rfl (by decide) (gf := 87) (lb := #[.pointer (some ⟨bn, 0, none⟩)]) (by rw [← ha]; rfl) trivial (enters_of Try.func87 (by kernel_rfl) rfl)
        (bwd_stops Fence.wide 5 trivial rfl (by decide) bn w.heap.size (.slice A m c) ws hl w6 hbn hn0 hcb hH) (fun h k => h.trans k) (keeps_b hn0 hbn) (Below.refl _ _) (fun _ => rfl)
        (fun pre W => W.heap[b2]? = some (.cells #[.slice (some ⟨b1, 0, none⟩) n n] 108 (0, 0)) ∧ W.heap[b1]? = some (.cells (cels (painted n pre)) 3 (0, 0)) ∧ Below w.heap.size w W ∧ w6.heap.size ≤ W.heap.size) (fun _ _ _ => False)
        (fun s X Y row hs hg hr => ⟨heap_kept hs.1 l2 hg hr, heap_kept hs.2.1 l1 hg hr, ownFrom_below (β := Unit) (Nat.le_refl _) hn0 () X Y row hs.2.2.1 hg hr, Nat.le_trans hs.2.2.2 hg.size⟩) (fun _ _ _ _ _ hs _ _ => hs) ⟨h2, h1, hB6, Nat.le_refl _⟩
        (fun x a' W => ∃ bx, w6.heap.size ≤ bx ∧ W.heap[bx]? = some (.cells #[.int .i64 x.2.id, .int .i64 x.2.off, .int .i64 x.2.len] 153 (0, 0)) ∧ a' = { tmps := ((a0.tmps.setIfInBounds 26 (.int .i64 (x.1 : Int))).setIfInBounds 27 x.2.agg).setIfInBounds 6 (.pointer (some ⟨bx, 0, none⟩)), defers := [] })
        (fun x a' s X Y row hs hg hr => by obtain ⟨bx, hx1, hx2, hx3⟩ := hs; exact ⟨bx, hx1, heap_kept' hx2 rfl hg hr, hx3⟩) ?assign ?body ?done ?stop
      case assign =>
        rintro l pre ⟨xj, xi, xo, xl⟩ W K hi hK
        subst ha
        dsimp only [Wn.agg] at hK ⊢
        gi_wp2
        obtain ⟨hb2, hb1, hBW, hsz⟩ := hi
        exact hK _ _ ((KeepsOthers.alloc _ _).from _) ⟨(Below.refl _ W).alloc hBW.size _, heap_alloc_old W _ bn (by omega)⟩ ⟨(heap_alloc_old W _ b2 (by omega)).trans hb2, (heap_alloc_old W _ b1 (by omega)).trans hb1, hBW.alloc hBW.size _, by simp; omega⟩ ⟨W.heap.size, hsz, heap_alloc_new W _, rfl⟩
      case body =>
        rintro l pre ⟨xj, xi, xo, xl⟩ a' W hlq hrec ⟨hb2, hb1, hBW, hsz⟩ ⟨bx, hbx, hbox, rfl⟩ hlen
        subst ha
        simp only [Wn.agg, List.setIfInBounds_toArray, List.set_cons_zero, List.set_cons_succ]
        have c0 := blk_cell hb2 0
        have x0 := blk_cell hbox 0
        have x1 := blk_cell hbox 1
        have x2 := blk_cell hbox 2
        have hrec' := Go.Lib.hid hrec
        clear hrec h2 h1 hH hcb
        have hmx : Try.prog.follows .mixedOrders = true := by kernel_rfl
        gi_wp2
        refine quiet_round (F := Fence.wide) rfl (by kernel_rfl) (by kernel_rfl) (by kernel_rfl) ?_
        repeat (gi_big_quiet_step (fail))
        refine wpQuietIn_nil ?_
        intro _ hw'
        obtain ⟨nq, hw''⟩ := hw'
        subst hw''
        obtain ⟨fa, hfa⟩ : ∃ fa : Nat, (fa : Int) = if xo < 0 then 0 else xo := ⟨(max xo 0).toNat, by split <;> omega⟩
        obtain ⟨tb, htb⟩ : ∃ tb : Int, tb = if (n : Int) < wrap64 (xo + xl) then (n : Int) else wrap64 (xo + xl) := ⟨_, rfl⟩
        rw [← hfa, ← htb]
        have hpt : paint (painted n pre) ⟨xi, xo, xl⟩ = lay fa tb xi (painted n pre) := by
          have m1 : max xo 0 = (fa : Int) := by rw [hfa]; split <;> omega
          have m2 : min (wrap64 (xo + xl)) ((painted n pre).length : Int) = tb := by rw [htb, painted_len]; split <;> omega
          unfold paint
          simp only [m1, m2]
        have htn : tb ≤ n := by rw [htb]; split <;> omega
        have HPT := Go.Lib.hid hpt
        clear hpt hfa htb c0 x0 x1 x2
        have hk0 : Keeps w.heap.size bn W (W.drewN nq) := ⟨pw_below_drewN (Below.refl _ _) nq, rfl⟩
        have hf0 : KeepsFrom w6.heap.size W (W.drewN nq) := KeepsFrom.of_grownBy (row := none) ⟨rfl, rfl, rfl, Nat.le_refl _, fun _ _ _ => rfl⟩ (fun _ e => by cases e)
        have hB0 : Below w.heap.size w (W.drewN nq) := pw_below_drewN hBW nq
        have hz0 : w6.heap.size ≤ (W.drewN nq).heap.size := hsz
        have e1 : (W.drewN nq).heap[b1]? = some (.cells (cels (lay fa fa xi (painted n pre))) 3 (0, 0)) := by rw [lay_none (Int.le_refl _)]; exact hb1
        have e2 : (W.drewN nq).heap[b2]? = some (.cells #[.slice (some ⟨b1, 0, none⟩) n n] 108 (0, 0)) := hb2
        have e3 : (W.drewN nq).heap[bx]? = some (.cells #[.int .i64 xi, .int .i64 xo, .int .i64 xl] 153 (0, 0)) := hbox
        generalize W.drewN nq = V at *
        have HK0 := Go.Lib.hid hk0
        have HF0 := Go.Lib.hid hf0
        clear hk0 hf0 hb1 hb2 hbox hBW hsz
        gi_wp2
        gi_loopw [9] (fun i wr => ∃ k : Nat, i = .int .i64 k ∧ fa ≤ k ∧ (k = fa ∨ (k : Int) ≤ tb) ∧ Keeps w.heap.size bn W wr ∧ KeepsFrom w6.heap.size W wr ∧ Below w.heap.size w wr ∧ w6.heap.size ≤ wr.heap.size ∧ wr.heap[b1]? = some (.cells (cels (lay fa k xi (painted n pre))) 3 (0, 0)) ∧ wr.heap[b2]? = some (.cells #[.slice (some ⟨b1, 0, none⟩) n n] 108 (0, 0)) ∧ wr.heap[bx]? = some (.cells #[.int .i64 xi, .int .i64 xo, .int .i64 xl] 153 (0, 0))) (fun i _ => (tb - (intOf i)).toNat)
        case atStart => exact ⟨fa, rfl, Nat.le_refl _, .inl rfl, HK0.out, HF0.out, hB0, hz0, e1, e2, e3⟩
        case round =>
          clear HK0 HF0 hB0 hz0 e1 e2 e3
          obtain ⟨k, rfl, hka, hkb, hk0, hf0, hB0, hz0, e1, e2, e3⟩ := hrel
          have c0 := blk_cell e2 0
          by_cases hlt : (k : Int) < tb
          · have p0 : decide ((k : Int) < tb) = true := by simpa using hlt
            have q0 : (0 ≤ (k : Int)) = True := eq_true (by omega)
            have q1 : ((k : Int) < (n : Int)) = True := eq_true (by omega)
            have hkn : k < (lay fa k xi (painted n pre)).length := by rw [lay_len, painted_len]; omega
            have x0 := blk_cell e3 0
            have hc := blk_cell e1 k
            rw [cels_get _ k hkn] at hc
            have hfz := blk_frozen e1 k
            have hw : wrap64 ((k : Int) + 1) = ((k + 1 : Nat) : Int) := by unfold wrap64; omega
            have E1 := Go.Lib.hid e1
            have E2 := Go.Lib.hid e2
            have E3 := Go.Lib.hid e3
            have HK := Go.Lib.hid hk0
            have HF := Go.Lib.hid hf0
            have HW := Go.Lib.hid hw
            have HL := Go.Lib.hid hkn
            have HA := Go.Lib.hid hka
            clear e1 e2 e3 hk0 hf0 hw hkn hka hkb
            gi_wp2
            have hka := HA.out
            go_roundw
            case rel =>
              refine ⟨k + 1, by rw [show ((k + 1 : Nat) : Int) = (k : Int) + 1 from by omega], by omega, .inr (by omega), ⟨(HK.out.1).setCell (p := ⟨b1, k, none⟩) g1 _, (heap_setCell_other wr ⟨b1, k, none⟩ bn _ nb1.symm).trans HK.out.2⟩, HF.out.trans ((KeepsOthers.setCell _ _ _).from _), hB0.setCell (p := ⟨b1, k, none⟩) g1 _, by simpa [World.setCell] using hz0, ?_, (heap_setCell_other wr ⟨b1, k, none⟩ b2 _ n12).trans E2.out, (heap_setCell_other wr ⟨b1, k, none⟩ bx _ (by simp; omega)).trans E3.out⟩
              have := blk_set E1.out k (.int .i64 xi)
              rw [cels_set] at this
              have hl1 := lay_one (a := (fa : Int)) (k := (k : Int)) (id := xi) (painted n pre) (by omega) (by omega)
              rw [Int.toNat_natCast] at hl1
              rw [hl1] at this
              rw [show ((k + 1 : Nat) : Int) = (k : Int) + 1 from by omega]
              exact this
            case measure => simp only [intOf]; omega
          · have p0 : decide ((k : Int) < tb) = false := by simpa using hlt
            gi_wp2
            have hle : lay fa k xi (painted n pre) = lay fa tb xi (painted n pre) := by
              rcases hkb with rfl | h
              · rw [lay_none (Int.le_refl _), lay_none (by omega)]
              · rw [show (k : Int) = tb by omega]
            refine ⟨hf0, hk0, e2, ?_, hB0, hz0⟩
            rw [painted_snoc, HPT.out, ← hle]
            exact e1
      case done =>
        rintro D ys W hD rfl ⟨hb2, hb1, hBW, hsz⟩ hK
        subst ha
        have c0 := blk_cell hb2 0
        go_wp2_with fail
        refine ⟨by simp, .inl ⟨_, _, rfl, run_takeDeferred hK, ?_⟩⟩
        have hp1 : (W.putObj D (.deferred none)).heap[b1]? = some (.cells (cels (painted n (back ws ws.length))) 3 (0, 0)) := (World.putObj_heap_other (by omega)).trans hb1
        have hwl : (wordOf n ws).length = n := painted_len _ _
        refine ⟨_, results_tmp rfl _ _ _, .slice (some ⟨b1, 0, none⟩) n n, rfl, Kd.R_of_own (h1 := fun _ => rfl) (xs := wordOf n ws) ⟨by simp [encs], .inr ⟨b1, n, _, by rw [hwl], g1, hp1, by rw [hwl]; exact Nat.le_refl _, by unfold maxLen; omega, by rw [cels_size, painted_len]; omega, ?_⟩⟩ (fun _ _ => trivial), hBW.trans (belowK_b (w := w) (Nat.le_refl _) W D _ _ (by omega) hK rfl rfl)⟩
        rw [List.take_of_length_le (by rw [Array.length_toList, cels_size, painted_len]; omega)]
        simp [cels, encs, nums, wordOf]
      case stop =>
        rintro D c pre W _ _ h _
        exact h.elim
/-- window.Word. -/
theorem word_is (w : World) (id frame : Int) (A : Option Addr) (m c : Nat) (nv : Value) (ws : List Wn) (hI : Holds w.heap.size w (.slice A m c) ws) (hl : ws.length ≤ 1000000) (hf : frame ≤ 16000000) :
    Calls Try.prog 80 #[.agg #[.int .i64 id, .int .i64 frame, .slice A m c, nv]] w fun e w' => ∃ v, e = .returned v ∧ (Kd.int .i64).R 3 w' w.heap.size (fun _ => True) v (wordOf frame.toNat ws) ∧ Below w.heap.size w w' :=
  word_go w id frame A m c nv ws hI hl frame.toNat (by omega) (by split <;> omega)
end Go.Proofs.Ytolokohgphdngaa.Win
