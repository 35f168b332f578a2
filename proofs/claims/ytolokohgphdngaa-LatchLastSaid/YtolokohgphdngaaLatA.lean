/- Rules in memory: what asking answers. -/
import Derived.Test.YtolokohgphdngaaSlq
import Derived.Test.YtolokohgphdngaaPrs
import Derived.Test.YtolokohgphdngaaPLatchLastx1
import Derived.Deep.QuietTactic
import Derived.BigQuiet
namespace Go.Proofs.Ytolokohgphdngaa.Lat
open Go.RowKit Go.Proofs.YtolokohgphdngaaW.PrintWords Go.Proofs.YtolokohgphdngaaW.PrintLast Go.Proofs.YtolokohgphdngaaW.PrintMore Go.Proofs.Ytolokohgphdngaa.Mine Go.Proofs.Ytolokohgphdngaa.PLatchLast
open Go.Proofs.Ytolokohgphdngaa.Sl (SL Stp Chg St No MK look wpc_seal sealed)
set_option linter.unusedVariables false
set_option linter.unusedSimpArgs false
attribute [local go_sem] max2_int min2_int max_two min_two max_three min_three max_four min_four
@[local go_sem] theorem run_store_func (a : Addr) (m : Mode) (P : Program) (w : World) (f : Fn) (x y : Array Value) : (store a (.func f x y) m).run P w = stored P w a (.func f x y) m := run_store P w a _ m rfl
theorem wsucc {i : Nat} (h : i < 9223372036854775807) : wrap64 ((i : Int) + 1) = ((i + 1 : Nat) : Int) := by unfold wrap64; omega
/-- Is a pair there? -/
def hasB (l : List S139) (a b : Int) : Bool := l.any fun x => a == x.f0 && b == x.f1
theorem index_l0 (l : List S139) (a b : Int) (hl : l.length < 9223372036854775807) : ∀ (d i k : Nat), i + d = l.length → d + 1 ≤ k →
    ∃ r : Int, pairs_Index.l0 k l (l.length : Int) (i : Int) a b = some r ∧ decide (r ≥ 0) = hasB (l.drop i) a b
  | 0, i, k, h, hk => by
    obtain ⟨k, rfl⟩ : ∃ m, k = m + 1 := ⟨k - 1, by omega⟩
    simp only [pairs_Index.l0]
    rw [if_neg (by omega), List.drop_of_length_le (by omega)]
    exact ⟨_, rfl, rfl⟩
  | d + 1, i, k, h, hk => by
    obtain ⟨k, rfl⟩ : ∃ m, k = m + 1 := ⟨k - 1, by omega⟩
    simp only [pairs_Index.l0]
    rw [if_pos (by omega), if_pos (by omega), if_pos (by omega)]
    have e : l.drop i = rd_T139 l i :: l.drop (i + 1) := by
      rw [List.drop_eq_getElem_cons (by omega)]
      unfold rd_T139
      rw [Int.toNat_natCast, List.getD_eq_getElem?_getD, List.getElem?_eq_getElem (by omega)]; rfl
    by_cases c : (a == (rd_T139 l i).f0 && (b == (rd_T139 l i).f1)) = true
    · rw [if_pos c]
      refine ⟨_, rfl, ?_⟩
      rw [e]
      unfold hasB
      rw [List.any_cons, c]
      simp
    · rw [if_neg c, wsucc (by omega)]
      obtain ⟨r, h1, h2⟩ := index_l0 l a b hl d (i + 1) k (by omega) (by omega)
      refine ⟨r, h1, ?_⟩
      rw [h2, e]
      unfold hasB
      rw [List.any_cons]
      simp only [Bool.not_eq_true] at c
      rw [c]; rfl
theorem has_is (l : List S139) (a b : Int) (hl : l.length < 9223372036854775807) (k : Nat) (hk : l.length + 1 ≤ k) : pairs_Has.f k l a b = some (hasB l a b) := by
  unfold pairs_Has.f pairs_Contains.f pairs_Index.f
  obtain ⟨r, h1, h2⟩ := index_l0 l a b hl l.length 0 k (by omega) hk
  rw [show ((0 : Nat) : Int) = 0 from rfl] at h1
  rw [h1]
  simp only [Option.bind_some]
  rw [h2, List.drop_zero]
/-- Keys that are ids. -/
abbrev KI : MK Try.prog 3 Int := MK.int .i64 Try.underlying3
/-- A map's values. -/
def mv (s : List (Int × Bool)) : List (Int × Value) := s.map fun p => (p.1, .bool p.2)
def inS (s : List (Int × Bool)) (a : Int) : Bool := ((s.find? (fun p => p.1 == a)).map (·.2)).getD false
theorem look_mv (s : List (Int × Bool)) (a : Int) : (Sl.look (mv s) a).getD (.bool false) = .bool (inS s a) := by
  induction s with
  | nil => rfl
  | cons p s ih =>
    obtain ⟨b, x⟩ := p
    unfold mv at ih
    unfold mv inS Sl.look
    simp only [List.map_cons, List.find?_cons]
    by_cases h : b = a
    · subst h; simp
    · have h' : (b == a) = false := by simpa using h
      rw [h']
      simp only [if_neg h]
      unfold inS at ih
      unfold Sl.look at ih ⊢
      exact ih
theorem zero4 (w : World) : (zeroValue 4).run Try.prog w = .ok (.bool false) w := by kernel_rfl
/-- A module's rules lie in a list of owned memory. -/
structure InL (l : List SL) (g : Nat) (s m : List (Int × Bool)) (ps : List S139) : Prop where
  ex : ∃ (n1 n2 n3 n4 bs bm : Nat) (A : Option Addr) (c : Nat), l[n1]? = some (SL.blk g 141 #[.map (some bs), .map (some bm), .slice A ps.length c]) ∧ l[n2]? = some (SL.map KI bs (mv s)) ∧ l[n3]? = some (SL.map KI bm (mv m)) ∧
    l[n4]? = some (SL.row k139 139 (.slice A ps.length c) ps)
theorem InL.cons {l : List SL} {g : Nat} {s m : List (Int × Bool)} {ps : List S139} (h : InL l g s m ps) (A : SL) : InL (A :: l) g s m ps := by
  obtain ⟨n1, n2, n3, n4, bs, bm, B, c, h1, h2, h3, h4⟩ := h.ex
  exact ⟨n1 + 1, n2 + 1, n3 + 1, n4 + 1, bs, bm, B, c, by simpa using h1, by simpa using h2, by simpa using h3, by simpa using h4⟩
/-- What asking answers. -/
def codeV (s m : List (Int × Bool)) (ps : List S139) (caller current id : Int) : Int :=
  if inS s id = false then 3 else if inS m caller = false then 4 else if id = current then 1 else if hasB ps current id = false then 5 else 0
section
variable {l : List SL} {w0 w : World} {g : Nat} {s m : List (Int × Bool)} {ps : List S139}
theorem sched_is (h : St l w0 w) (R : InL l g s m ps) (id : Int) (hid : (Lit.int .i64 id).wf = true) :
    Calls Try.prog 61 #[.pointer (some ⟨g, 0, none⟩), .int .i64 id] w fun e w' => e = .returned (.bool (inS s id)) ∧ w = w' := by
  obtain ⟨n1, n2, n3, n4, bs, bm, A, c, h1, h2, h3, h4⟩ := R.ex
  obtain ⟨c0_0, c0_1, c0_2⟩ := h.c3 n1 _ _ _ _ _ h1
  have H2 := Go.Lib.hid h2
  have HI := Go.Lib.hid hid
  have HS := Go.Lib.hid h
  clear h h1 h2 h3 h4 hid
  go_enter Try.func61, Try.ntmps61
  go_wp2_with (at_lookup; refine Sl.lookup_st HS.out n2 H2.out 136 4 Try.underlying136 (zero4 _) id HI.out rfl (.tmp 8) (.tmp 9) rfl rfl rfl ?_; rw [look_mv])
  go_ret
  exact ⟨rfl, rfl⟩
theorem may_is (h : St l w0 w) (R : InL l g s m ps) (id : Int) (hid : (Lit.int .i64 id).wf = true) :
    Calls Try.prog 33 #[.pointer (some ⟨g, 0, none⟩), .int .i64 id] w fun e w' => e = .returned (.bool (inS m id)) ∧ w = w' := by
  obtain ⟨n1, n2, n3, n4, bs, bm, A, c, h1, h2, h3, h4⟩ := R.ex
  obtain ⟨c0_0, c0_1, c0_2⟩ := h.c3 n1 _ _ _ _ _ h1
  have H2 := Go.Lib.hid h3
  have HI := Go.Lib.hid hid
  have HS := Go.Lib.hid h
  clear h h1 h2 h3 h4 hid
  go_enter Try.func33, Try.ntmps33
  go_wp2_with (at_lookup; refine Sl.lookup_st HS.out n3 H2.out 136 4 Try.underlying136 (zero4 _) id HI.out rfl (.tmp 8) (.tmp 9) rfl rfl rfl ?_; rw [look_mv])
  go_ret
  exact ⟨rfl, rfl⟩
theorem code1 (h : St l w0 w) (R : InL l g s m ps) (a b : Nat) (id : Int) (hid : (Lit.int .i64 id).wf = true) (ha : w.cell? ⟨a, 0, none⟩ = some (.pointer (some ⟨g, 0, none⟩))) (hb : w.cell? ⟨b, 0, none⟩ = some (.int .i64 id)) :
    Calls Try.prog 71 #[.pointer (some ⟨a, 0, none⟩), .pointer (some ⟨b, 0, none⟩)] w fun e w' => e = .returned (.bool (!inS s id)) ∧ w = w' := by
  have HS := Go.Lib.hid h
  clear h
  go_enter Try.func71, Try.ntmps71
  go_wp2_with (go_at_call 61; refine (sched_is HS.out R id hid).mono ?_; rintro e w' ⟨rfl, rfl⟩)
  go_ret
  exact ⟨rfl, rfl⟩
theorem code2 (h : St l w0 w) (R : InL l g s m ps) (a b : Nat) (id : Int) (hid : (Lit.int .i64 id).wf = true) (ha : w.cell? ⟨a, 0, none⟩ = some (.pointer (some ⟨g, 0, none⟩))) (hb : w.cell? ⟨b, 0, none⟩ = some (.int .i64 id)) :
    Calls Try.prog 72 #[.pointer (some ⟨a, 0, none⟩), .pointer (some ⟨b, 0, none⟩)] w fun e w' => e = .returned (.bool (!inS m id)) ∧ w = w' := by
  have HS := Go.Lib.hid h
  clear h
  go_enter Try.func72, Try.ntmps72
  go_wp2_with (go_at_call 33; refine (may_is HS.out R id hid).mono ?_; rintro e w' ⟨rfl, rfl⟩)
  go_ret
  exact ⟨rfl, rfl⟩
theorem code3 (a b : Nat) (x y : Int) (ha : w.cell? ⟨a, 0, none⟩ = some (.int .i64 x)) (hb : w.cell? ⟨b, 0, none⟩ = some (.int .i64 y)) :
    Calls Try.prog 73 #[.pointer (some ⟨a, 0, none⟩), .pointer (some ⟨b, 0, none⟩)] w fun e w' => e = .returned (.bool (x == y)) ∧ w = w' := by
  go_enter Try.func73, Try.ntmps73
  go_wp2_with fail
  go_ret
  exact ⟨rfl, rfl⟩
theorem code4 (h : St l w0 w) (R : InL l g s m ps) (hps : ps.length ≤ 1000000) (a b d : Nat) (x y : Int) (ha : w.cell? ⟨a, 0, none⟩ = some (.pointer (some ⟨g, 0, none⟩))) (hb : w.cell? ⟨b, 0, none⟩ = some (.int .i64 x)) (hd : w.cell? ⟨d, 0, none⟩ = some (.int .i64 y)) :
    Calls Try.prog 74 #[.pointer (some ⟨a, 0, none⟩), .pointer (some ⟨b, 0, none⟩), .pointer (some ⟨d, 0, none⟩)] w fun e w' => e = .returned (.bool (!hasB ps x y)) ∧ St l w0 w' := by
  obtain ⟨n1, n2, n3, n4, bs, bm, A, c, h1, h2, h3, h4⟩ := R.ex
  obtain ⟨c0_0, c0_1, hc2⟩ := h.c3 n1 _ _ _ _ _ h1
  obtain ⟨A', c', hv, hcc, hC⟩ := h.rowC n4 h4
  injection hv with q1 _ q2
  subst q1 q2
  obtain ⟨K_, hK_⟩ : ∃ K_, K_ = ps.length + 1 := ⟨_, rfl⟩
  have HH := Go.Lib.hid (has_is ps x y (by omega) K_ (by omega))
  have HS := Go.Lib.hid h.drew
  have HC := Go.Lib.hid (Kd.C_below hC (below_drew (Below.refl w.heap.size w)))
  clear h h1 h2 h3 h4 hC hK_ c0_0 c0_1
  go_enter Try.func74, Try.ntmps74
  go_upto_region 1 with (fail)
  refine start_ (n := 10) (S := fun w' => w'.cell? ⟨a, 0, none⟩ = some (.pointer (some ⟨g, 0, none⟩)) ∧ w'.cell? ⟨b, 0, none⟩ = some (.int .i64 x) ∧ w'.cell? ⟨d, 0, none⟩ = some (.int .i64 y) ∧ w'.cell? ⟨g, 2, none⟩ = some (.slice A ps.length c)) (ds := []) #[false, false, false, false, false, false, false, false, false, false] (by kernel_rfl) rfl rfl ⟨ha, hb, hd, hc2⟩ (fun hHeld => ?_)
  generalize w.drew = W_ at *
  refine take_ (i := 0) (N := some 4) (v := ?_) (a' := ?_) #[true, false, false, false, false, false, false, false, false, false] rfl rfl (by kernel_rfl) (fun _ _ _ h => h) (Or.inl ⟨by rfl, ?_⟩) hHeld ?_ ?_
  rotate_left
  · rintro w' ⟨s0, s1, s2, s3⟩
    go_simp
    with_reducible rfl
  rotate_left
  · simp only [Act.put, List.setIfInBounds_toArray, List.set_cons_zero, List.set_cons_succ, i64_w, i32_w]
    rfl
  refine pure_ (i := 1) (N := some 5) (v := ?_) (a' := ?_) #[true, true, false, false, false, false, false, false, false, false] rfl rfl (by kernel_rfl) (fun _ _ _ h => h) (Or.inl ⟨by rfl, ?_⟩) ?_ ?_
  rotate_left
  · intro w'
    go_simp
    with_reducible rfl
  rotate_left
  · simp only [Act.put, List.setIfInBounds_toArray, List.set_cons_zero, List.set_cons_succ, i64_w, i32_w]
    rfl
  refine pure_ (i := 2) (N := some 6) (v := ?_) (a' := ?_) #[true, true, true, false, false, false, false, false, false, false] rfl rfl (by kernel_rfl) (fun _ _ _ h => h) (Or.inl ⟨by rfl, ?_⟩) ?_ ?_
  rotate_left
  · intro w'
    go_simp
    with_reducible rfl
  rotate_left
  · simp only [Act.put, List.setIfInBounds_toArray, List.set_cons_zero, List.set_cons_succ, i64_w, i32_w]
    rfl
  refine take_ (i := 3) (N := some 7) (v := ?_) (a' := ?_) #[true, true, true, true, false, false, false, false, false, false] rfl rfl (by kernel_rfl) (fun _ _ _ h => h) (Or.inl ⟨by rfl, ?_⟩) hHeld ?_ ?_
  rotate_left
  · rintro w' ⟨s0, s1, s2, s3⟩
    go_simp
    with_reducible rfl
  rotate_left
  · simp only [Act.put, List.setIfInBounds_toArray, List.set_cons_zero, List.set_cons_succ, i64_w, i32_w]
    rfl
  refine take_ (i := 4) (N := some 8) (v := ?_) (a' := ?_) #[true, true, true, true, true, false, false, false, false, false] rfl rfl (by kernel_rfl) (fun _ _ _ h => h) (Or.inl ⟨by rfl, ?_⟩) hHeld ?_ ?_
  rotate_left
  · rintro w' ⟨s0, s1, s2, s3⟩
    go_simp
    with_reducible rfl
  rotate_left
  · simp only [Act.put, List.setIfInBounds_toArray, List.set_cons_zero, List.set_cons_succ, i64_w, i32_w]
    rfl
  refine take_ (i := 5) (N := some 9) (v := ?_) (a' := ?_) #[true, true, true, true, true, true, false, false, false, false] rfl rfl (by kernel_rfl) (fun _ _ _ h => h) (Or.inl ⟨by rfl, ?_⟩) hHeld ?_ ?_
  rotate_left
  · rintro w' ⟨s0, s1, s2, s3⟩
    go_simp
    with_reducible rfl
  rotate_left
  · simp only [Act.put, List.setIfInBounds_toArray, List.set_cons_zero, List.set_cons_succ, i64_w, i32_w]
    rfl
  refine pure_ (i := 6) (N := some 10) (v := ?_) (a' := ?_) #[true, true, true, true, true, true, true, false, false, false] rfl rfl (by kernel_rfl) (fun _ _ _ h => h) (Or.inl ⟨by rfl, ?_⟩) ?_ ?_
  rotate_left
  · intro w'
    go_simp
    with_reducible rfl
  rotate_left
  · simp only [Act.put, List.setIfInBounds_toArray, List.set_cons_zero, List.set_cons_succ, i64_w, i32_w]
    rfl
  refine one_ (i := 7) (N := some 11) #[true, true, true, true, true, true, true, true, false, false] rfl rfl (by kernel_rfl) (by decide) (fun K hK => ?_)
  refine goes_ Try.func75 (by kernel_rfl) rfl #[.slice A ps.length c, .agg #[.int .i64 x, .int .i64 y]] (by rfl) rfl rfl (by (try simp only [List.map_toArray, List.map_cons, List.map_nil]); first | done | rfl) ?_
  refine (pairs_Has.calls K_ A c ps x y (hasB ps x y) _ HC.out hcc HH.out).mono ?_
  rintro e w9 ⟨rfl, hB⟩
  have HSm := HS.out.then_ hB
  refine ⟨_, rfl, ?_⟩
  refine hK.out _ _ ⟨pw_cell_below hB hHeld.1, pw_cell_below hB hHeld.2.1, pw_cell_below hB hHeld.2.2.1, pw_cell_below hB hHeld.2.2.2⟩ (fun hHeld => ?_)
  clear hK K
  refine norm_ (a' := ?_) ?_ ?_
  rotate_left
  · show Act.put _ (some 11) _ = _
    simp only [Act.put, List.setIfInBounds_toArray, List.set_cons_zero, List.set_cons_succ, i64_w, i32_w]
    rfl
  refine pure_ (i := 8) (N := some 12) (v := ?_) (a' := ?_) #[true, true, true, true, true, true, true, true, true, false] rfl rfl (by kernel_rfl) (fun _ _ _ h => h) (Or.inl ⟨by rfl, ?_⟩) ?_ ?_
  rotate_left
  · intro w'
    go_simp
    with_reducible rfl
  rotate_left
  · simp only [Act.put, List.setIfInBounds_toArray, List.set_cons_zero, List.set_cons_succ, i64_w, i32_w]
    rfl
  refine pure_ (i := 9) (N := some 3) (v := ?_) (a' := ?_) #[true, true, true, true, true, true, true, true, true, true] rfl rfl (by kernel_rfl) (fun _ _ _ h => h) (Or.inl ⟨by rfl, ?_⟩) ?_ ?_
  rotate_left
  · intro w'
    go_simp
    with_reducible rfl
  rotate_left
  · simp only [Act.put, List.setIfInBounds_toArray, List.set_cons_zero, List.set_cons_succ, i64_w, i32_w]
    rfl
  refine done_ (by kernel_rfl) ?_
  go_wp2_with fail
  go_ret
  exact ⟨rfl, HSm⟩
set_option maxHeartbeats 1600000 in
theorem code_st (h : St l w0 w) (R : InL l g s m ps) (hps : ps.length ≤ 1000000) (caller current id : Int) (hi : (Lit.int .i64 caller).wf = true ∧ (Lit.int .i64 current).wf = true ∧ (Lit.int .i64 id).wf = true) :
    Calls Try.prog 58 #[.pointer (some ⟨g, 0, none⟩), .int .i64 caller, .int .i64 current, .int .i64 id] w fun e w' => e = .returned (.int .i64 (codeV s m ps caller current id)) ∧ St l w0 w' := by
  have HS := Go.Lib.hid h
  have HI := Go.Lib.hid hi
  clear h hi
  go_enter Try.func58, Try.ntmps58
  go_wp2_with (first | ((with_reducible refine gate_dst (N := 4) rfl ?_); refine Sl.box_st HS.out (by rfl) (cs := #[.pointer (some ⟨g, 0, none⟩)]) (t := 75) ?hr ?_; (case hr => first | (go_simp; done) | (go_simp; rfl)); intro g4 w1_ HSn HBn; clear HBn; replace HS : Hid (St (SL.blk g4 75 #[.pointer (some ⟨g, 0, none⟩)] :: l) w0 w1_) := Go.Lib.hid HSn; clear HSn; obtain c0_0 := HS.out.c1 0 _ _ _ rfl) | ((with_reducible refine gate_dst (N := 5) rfl ?_); refine Sl.box_st HS.out (by rfl) (cs := #[.int .i64 caller]) (t := 3) ?hr ?_; (case hr => first | (go_simp; done) | (go_simp; rfl)); intro g5 w2_ HSn HBn; clear HBn; replace HS : Hid (St (SL.blk g5 3 #[.int .i64 caller] :: SL.blk g4 75 #[.pointer (some ⟨g, 0, none⟩)] :: l) w0 w2_) := Go.Lib.hid HSn; clear HSn; clear c0_0; obtain c0_0 := HS.out.c1 0 _ _ _ rfl; obtain c1_0 := HS.out.c1 1 _ _ _ rfl) | ((with_reducible refine gate_dst (N := 6) rfl ?_); refine Sl.box_st HS.out (by rfl) (cs := #[.int .i64 current]) (t := 3) ?hr ?_; (case hr => first | (go_simp; done) | (go_simp; rfl)); intro g6 w3_ HSn HBn; clear HBn; replace HS : Hid (St (SL.blk g6 3 #[.int .i64 current] :: SL.blk g5 3 #[.int .i64 caller] :: SL.blk g4 75 #[.pointer (some ⟨g, 0, none⟩)] :: l) w0 w3_) := Go.Lib.hid HSn; clear HSn; clear c0_0 c1_0; obtain c0_0 := HS.out.c1 0 _ _ _ rfl; obtain c1_0 := HS.out.c1 1 _ _ _ rfl; obtain c2_0 := HS.out.c1 2 _ _ _ rfl) | ((with_reducible refine gate_dst (N := 7) rfl ?_); refine Sl.box_st HS.out (by rfl) (cs := #[.int .i64 id]) (t := 3) ?hr ?_; (case hr => first | (go_simp; done) | (go_simp; rfl)); intro g7 w4_ HSn HBn; clear HBn; replace HS : Hid (St (SL.blk g7 3 #[.int .i64 id] :: SL.blk g6 3 #[.int .i64 current] :: SL.blk g5 3 #[.int .i64 caller] :: SL.blk g4 75 #[.pointer (some ⟨g, 0, none⟩)] :: l) w0 w4_) := Go.Lib.hid HSn; clear HSn; clear c0_0 c1_0 c2_0; obtain c0_0 := HS.out.c1 0 _ _ _ rfl; obtain c1_0 := HS.out.c1 1 _ _ _ rfl; obtain c2_0 := HS.out.c1 2 _ _ _ rfl; obtain c3_0 := HS.out.c1 3 _ _ _ rfl) | ((with_reducible refine gate_dst (N := 19) rfl ?_); refine Kd.event_run (v := .slice (some ⟨w4_.heap.size, 0, none⟩) 4 4) (w1 := w4_.alloc (.cells #[.func (.func 71) #[] #[.pointer (some ⟨g4, 0, none⟩), .pointer (some ⟨g7, 0, none⟩)], .int .i64 3, .func (.func 72) #[] #[.pointer (some ⟨g4, 0, none⟩), .pointer (some ⟨g5, 0, none⟩)], .int .i64 4, .func (.func 73) #[] #[.pointer (some ⟨g7, 0, none⟩), .pointer (some ⟨g6, 0, none⟩)], .int .i64 1, .func (.func 74) #[] #[.pointer (some ⟨g4, 0, none⟩), .pointer (some ⟨g6, 0, none⟩), .pointer (some ⟨g7, 0, none⟩)], .int .i64 5] 157)) (by rfl) ?hr ?_; (case hr => first | (go_simp; done) | (go_simp; rfl)); have HSn := HS.out.box 157 #[.func (.func 71) #[] #[.pointer (some ⟨g4, 0, none⟩), .pointer (some ⟨g7, 0, none⟩)], .int .i64 3, .func (.func 72) #[] #[.pointer (some ⟨g4, 0, none⟩), .pointer (some ⟨g5, 0, none⟩)], .int .i64 4, .func (.func 73) #[] #[.pointer (some ⟨g7, 0, none⟩), .pointer (some ⟨g6, 0, none⟩)], .int .i64 1, .func (.func 74) #[] #[.pointer (some ⟨g4, 0, none⟩), .pointer (some ⟨g6, 0, none⟩), .pointer (some ⟨g7, 0, none⟩)], .int .i64 5]; generalize w4_.alloc (.cells #[.func (.func 71) #[] #[.pointer (some ⟨g4, 0, none⟩), .pointer (some ⟨g7, 0, none⟩)], .int .i64 3, .func (.func 72) #[] #[.pointer (some ⟨g4, 0, none⟩), .pointer (some ⟨g5, 0, none⟩)], .int .i64 4, .func (.func 73) #[] #[.pointer (some ⟨g7, 0, none⟩), .pointer (some ⟨g6, 0, none⟩)], .int .i64 1, .func (.func 74) #[] #[.pointer (some ⟨g4, 0, none⟩), .pointer (some ⟨g6, 0, none⟩), .pointer (some ⟨g7, 0, none⟩)], .int .i64 5] 157) = w5_ at HSn ⊢; generalize w4_.heap.size = g9 at HSn ⊢; replace HS : Hid (St (SL.blk g9 157 #[.func (.func 71) #[] #[.pointer (some ⟨g4, 0, none⟩), .pointer (some ⟨g7, 0, none⟩)], .int .i64 3, .func (.func 72) #[] #[.pointer (some ⟨g4, 0, none⟩), .pointer (some ⟨g5, 0, none⟩)], .int .i64 4, .func (.func 73) #[] #[.pointer (some ⟨g7, 0, none⟩), .pointer (some ⟨g6, 0, none⟩)], .int .i64 1, .func (.func 74) #[] #[.pointer (some ⟨g4, 0, none⟩), .pointer (some ⟨g6, 0, none⟩), .pointer (some ⟨g7, 0, none⟩)], .int .i64 5] :: SL.blk g7 3 #[.int .i64 id] :: SL.blk g6 3 #[.int .i64 current] :: SL.blk g5 3 #[.int .i64 caller] :: SL.blk g4 75 #[.pointer (some ⟨g, 0, none⟩)] :: l) w0 w5_) := Go.Lib.hid HSn; clear HSn; clear c0_0 c1_0 c2_0 c3_0; obtain ⟨c0_0, c0_1, c0_2, c0_3, c0_4, c0_5, c0_6, c0_7⟩ := HS.out.c8 0 _ _ _ _ _ _ _ _ _ _ rfl; obtain c1_0 := HS.out.c1 1 _ _ _ rfl; obtain c2_0 := HS.out.c1 2 _ _ _ rfl; obtain c3_0 := HS.out.c1 3 _ _ _ rfl; obtain c4_0 := HS.out.c1 4 _ _ _ rfl))
  clear c0_0 c0_1 c0_2 c0_3 c0_4 c0_5 c0_6 c0_7 c1_0 c2_0 c3_0 c4_0
  go_loopw [21] (fun i wr => ∃ k : Nat, k ≤ 4 ∧ i = .int .i64 k ∧ (0 < k → inS s id = true) ∧ (1 < k → inS m caller = true) ∧ (2 < k → id ≠ current) ∧ (3 < k → hasB ps current id = true) ∧ St (SL.blk g9 157 #[.func (.func 71) #[] #[.pointer (some ⟨g4, 0, none⟩), .pointer (some ⟨g7, 0, none⟩)], .int .i64 3, .func (.func 72) #[] #[.pointer (some ⟨g4, 0, none⟩), .pointer (some ⟨g5, 0, none⟩)], .int .i64 4, .func (.func 73) #[] #[.pointer (some ⟨g7, 0, none⟩), .pointer (some ⟨g6, 0, none⟩)], .int .i64 1, .func (.func 74) #[] #[.pointer (some ⟨g4, 0, none⟩), .pointer (some ⟨g6, 0, none⟩), .pointer (some ⟨g7, 0, none⟩)], .int .i64 5] :: SL.blk g7 3 #[.int .i64 id] :: SL.blk g6 3 #[.int .i64 current] :: SL.blk g5 3 #[.int .i64 caller] :: SL.blk g4 75 #[.pointer (some ⟨g, 0, none⟩)] :: l) w0 wr) (fun i _ => 4 - (intOf i).toNat)
  case atStart => exact ⟨0, by omega, rfl, by omega, by omega, by omega, by omega, HS.out⟩
  case round =>
    clear HS
    obtain ⟨k, hk, rfl, p0, p1, p2, p3, hS⟩ := hrel
    have HS := Go.Lib.hid hS
    clear hS
    have hk5 : k = 0 ∨ k = 1 ∨ k = 2 ∨ k = 3 ∨ k = 4 := by omega
    clear hk
    rcases hk5 with rfl | rfl | rfl | rfl | rfl
    · clear p0 p1 p2 p3
      by_cases ht : (!inS s id) = true
      · have HT := Go.Lib.hid ht
        obtain ⟨c0_0, c0_1, c0_2, c0_3, c0_4, c0_5, c0_6, c0_7⟩ := HS.out.c8 0 _ _ _ _ _ _ _ _ _ _ rfl
        obtain c1_0 := HS.out.c1 1 _ _ _ rfl
        obtain c2_0 := HS.out.c1 2 _ _ _ rfl
        obtain c3_0 := HS.out.c1 3 _ _ _ rfl
        obtain c4_0 := HS.out.c1 4 _ _ _ rfl
        go_wp2_with (first | ((with_reducible refine gate_dst (N := 10) rfl ?_); refine Sl.box_st HS.out (by rfl) (cs := #[.nilFunc, .int .i64 0]) (t := 157) ?hr ?_; (case hr => first | (go_simp; done) | (go_simp; rfl)); intro g10 w21_ HSn HBn; clear HBn; replace HS : Hid (St (SL.blk g10 157 #[.nilFunc, .int .i64 0] :: SL.blk g9 157 #[.func (.func 71) #[] #[.pointer (some ⟨g4, 0, none⟩), .pointer (some ⟨g7, 0, none⟩)], .int .i64 3, .func (.func 72) #[] #[.pointer (some ⟨g4, 0, none⟩), .pointer (some ⟨g5, 0, none⟩)], .int .i64 4, .func (.func 73) #[] #[.pointer (some ⟨g7, 0, none⟩), .pointer (some ⟨g6, 0, none⟩)], .int .i64 1, .func (.func 74) #[] #[.pointer (some ⟨g4, 0, none⟩), .pointer (some ⟨g6, 0, none⟩), .pointer (some ⟨g7, 0, none⟩)], .int .i64 5] :: SL.blk g7 3 #[.int .i64 id] :: SL.blk g6 3 #[.int .i64 current] :: SL.blk g5 3 #[.int .i64 caller] :: SL.blk g4 75 #[.pointer (some ⟨g, 0, none⟩)] :: l) w0 w21_) := Go.Lib.hid HSn; clear HSn; clear c0_0 c0_1 c0_2 c0_3 c0_4 c0_5 c0_6 c0_7 c1_0 c2_0 c3_0 c4_0; obtain ⟨c0_0, c0_1⟩ := HS.out.c2 0 _ _ _ _ rfl; obtain ⟨c1_0, c1_1, c1_2, c1_3, c1_4, c1_5, c1_6, c1_7⟩ := HS.out.c8 1 _ _ _ _ _ _ _ _ _ _ rfl; obtain c2_0 := HS.out.c1 2 _ _ _ rfl; obtain c3_0 := HS.out.c1 3 _ _ _ rfl; obtain c4_0 := HS.out.c1 4 _ _ _ rfl; obtain c5_0 := HS.out.c1 5 _ _ _ rfl) | ((with_reducible refine gate_store (p := 10) rfl ?_); refine Sl.storeAll_st HS.out 0 g10 157 _ rfl [.func (.func 71) #[] #[.pointer (some ⟨g4, 0, none⟩), .pointer (some ⟨g7, 0, none⟩)], .int .i64 3] rfl (by rfl) (by rfl) ?hr ?_; (case hr => have f_ := HS.out.f2 0 _ _ _ _ rfl; (try obtain ⟨f0, f1⟩ := f_); first | (go_simp; done) | (go_simp; rfl)); intro w22_ HSn; replace HS : Hid (St (SL.blk g10 157 #[.func (.func 71) #[] #[.pointer (some ⟨g4, 0, none⟩), .pointer (some ⟨g7, 0, none⟩)], .int .i64 3] :: SL.blk g9 157 #[.func (.func 71) #[] #[.pointer (some ⟨g4, 0, none⟩), .pointer (some ⟨g7, 0, none⟩)], .int .i64 3, .func (.func 72) #[] #[.pointer (some ⟨g4, 0, none⟩), .pointer (some ⟨g5, 0, none⟩)], .int .i64 4, .func (.func 73) #[] #[.pointer (some ⟨g7, 0, none⟩), .pointer (some ⟨g6, 0, none⟩)], .int .i64 1, .func (.func 74) #[] #[.pointer (some ⟨g4, 0, none⟩), .pointer (some ⟨g6, 0, none⟩), .pointer (some ⟨g7, 0, none⟩)], .int .i64 5] :: SL.blk g7 3 #[.int .i64 id] :: SL.blk g6 3 #[.int .i64 current] :: SL.blk g5 3 #[.int .i64 caller] :: SL.blk g4 75 #[.pointer (some ⟨g, 0, none⟩)] :: l) w0 w22_) := Go.Lib.hid HSn; clear HSn; clear c0_0 c0_1 c1_0 c1_1 c1_2 c1_3 c1_4 c1_5 c1_6 c1_7 c2_0 c3_0 c4_0 c5_0; obtain ⟨c0_0, c0_1⟩ := HS.out.c2 0 _ _ _ _ rfl; obtain ⟨c1_0, c1_1, c1_2, c1_3, c1_4, c1_5, c1_6, c1_7⟩ := HS.out.c8 1 _ _ _ _ _ _ _ _ _ _ rfl; obtain c2_0 := HS.out.c1 2 _ _ _ rfl; obtain c3_0 := HS.out.c1 3 _ _ _ rfl; obtain c4_0 := HS.out.c1 4 _ _ _ rfl; obtain c5_0 := HS.out.c1 5 _ _ _ rfl) | (go_at_call 71; refine (code1 HS.out (((((R.cons _).cons _).cons _).cons _).cons _ |>.cons _) g4 g7 id HI.out.2.2 (HS.out.c1 5 _ _ _ rfl) (HS.out.c1 2 _ _ _ rfl)).mono ?_; rintro e w' ⟨rfl, rfl⟩))
        go_ret
        have hv : codeV s m ps caller current id = 3 := by unfold codeV; rw [if_pos (by have := HT.out; simpa using this)]
        exact ⟨by rw [hv]; first | done | rfl, HS.out.drop.drop.drop.drop.drop.drop⟩
      · replace ht : (!inS s id) = false := by simpa using ht
        have HT := Go.Lib.hid ht
        obtain ⟨c0_0, c0_1, c0_2, c0_3, c0_4, c0_5, c0_6, c0_7⟩ := HS.out.c8 0 _ _ _ _ _ _ _ _ _ _ rfl
        obtain c1_0 := HS.out.c1 1 _ _ _ rfl
        obtain c2_0 := HS.out.c1 2 _ _ _ rfl
        obtain c3_0 := HS.out.c1 3 _ _ _ rfl
        obtain c4_0 := HS.out.c1 4 _ _ _ rfl
        go_wp2_with (first | ((with_reducible refine gate_dst (N := 10) rfl ?_); refine Sl.box_st HS.out (by rfl) (cs := #[.nilFunc, .int .i64 0]) (t := 157) ?hr ?_; (case hr => first | (go_simp; done) | (go_simp; rfl)); intro g10 w21_ HSn HBn; clear HBn; replace HS : Hid (St (SL.blk g10 157 #[.nilFunc, .int .i64 0] :: SL.blk g9 157 #[.func (.func 71) #[] #[.pointer (some ⟨g4, 0, none⟩), .pointer (some ⟨g7, 0, none⟩)], .int .i64 3, .func (.func 72) #[] #[.pointer (some ⟨g4, 0, none⟩), .pointer (some ⟨g5, 0, none⟩)], .int .i64 4, .func (.func 73) #[] #[.pointer (some ⟨g7, 0, none⟩), .pointer (some ⟨g6, 0, none⟩)], .int .i64 1, .func (.func 74) #[] #[.pointer (some ⟨g4, 0, none⟩), .pointer (some ⟨g6, 0, none⟩), .pointer (some ⟨g7, 0, none⟩)], .int .i64 5] :: SL.blk g7 3 #[.int .i64 id] :: SL.blk g6 3 #[.int .i64 current] :: SL.blk g5 3 #[.int .i64 caller] :: SL.blk g4 75 #[.pointer (some ⟨g, 0, none⟩)] :: l) w0 w21_) := Go.Lib.hid HSn; clear HSn; clear c0_0 c0_1 c0_2 c0_3 c0_4 c0_5 c0_6 c0_7 c1_0 c2_0 c3_0 c4_0; obtain ⟨c0_0, c0_1⟩ := HS.out.c2 0 _ _ _ _ rfl; obtain ⟨c1_0, c1_1, c1_2, c1_3, c1_4, c1_5, c1_6, c1_7⟩ := HS.out.c8 1 _ _ _ _ _ _ _ _ _ _ rfl; obtain c2_0 := HS.out.c1 2 _ _ _ rfl; obtain c3_0 := HS.out.c1 3 _ _ _ rfl; obtain c4_0 := HS.out.c1 4 _ _ _ rfl; obtain c5_0 := HS.out.c1 5 _ _ _ rfl) | ((with_reducible refine gate_store (p := 10) rfl ?_); refine Sl.storeAll_st HS.out 0 g10 157 _ rfl [.func (.func 71) #[] #[.pointer (some ⟨g4, 0, none⟩), .pointer (some ⟨g7, 0, none⟩)], .int .i64 3] rfl (by rfl) (by rfl) ?hr ?_; (case hr => have f_ := HS.out.f2 0 _ _ _ _ rfl; (try obtain ⟨f0, f1⟩ := f_); first | (go_simp; done) | (go_simp; rfl)); intro w22_ HSn; replace HS : Hid (St (SL.blk g10 157 #[.func (.func 71) #[] #[.pointer (some ⟨g4, 0, none⟩), .pointer (some ⟨g7, 0, none⟩)], .int .i64 3] :: SL.blk g9 157 #[.func (.func 71) #[] #[.pointer (some ⟨g4, 0, none⟩), .pointer (some ⟨g7, 0, none⟩)], .int .i64 3, .func (.func 72) #[] #[.pointer (some ⟨g4, 0, none⟩), .pointer (some ⟨g5, 0, none⟩)], .int .i64 4, .func (.func 73) #[] #[.pointer (some ⟨g7, 0, none⟩), .pointer (some ⟨g6, 0, none⟩)], .int .i64 1, .func (.func 74) #[] #[.pointer (some ⟨g4, 0, none⟩), .pointer (some ⟨g6, 0, none⟩), .pointer (some ⟨g7, 0, none⟩)], .int .i64 5] :: SL.blk g7 3 #[.int .i64 id] :: SL.blk g6 3 #[.int .i64 current] :: SL.blk g5 3 #[.int .i64 caller] :: SL.blk g4 75 #[.pointer (some ⟨g, 0, none⟩)] :: l) w0 w22_) := Go.Lib.hid HSn; clear HSn; clear c0_0 c0_1 c1_0 c1_1 c1_2 c1_3 c1_4 c1_5 c1_6 c1_7 c2_0 c3_0 c4_0 c5_0; obtain ⟨c0_0, c0_1⟩ := HS.out.c2 0 _ _ _ _ rfl; obtain ⟨c1_0, c1_1, c1_2, c1_3, c1_4, c1_5, c1_6, c1_7⟩ := HS.out.c8 1 _ _ _ _ _ _ _ _ _ _ rfl; obtain c2_0 := HS.out.c1 2 _ _ _ rfl; obtain c3_0 := HS.out.c1 3 _ _ _ rfl; obtain c4_0 := HS.out.c1 4 _ _ _ rfl; obtain c5_0 := HS.out.c1 5 _ _ _ rfl) | (go_at_call 71; refine (code1 HS.out (((((R.cons _).cons _).cons _).cons _).cons _ |>.cons _) g4 g7 id HI.out.2.2 (HS.out.c1 5 _ _ _ rfl) (HS.out.c1 2 _ _ _ rfl)).mono ?_; rintro e w' ⟨rfl, rfl⟩))
        go_roundw
        case rel => exact ⟨1, by omega, by rfl, fun _ => by have := HT.out; simpa using this, by omega, by omega, by omega, HS.out.drop⟩
        case measure => simp [intOf]
    · have q0 := p0 (by omega)
      clear p0 p1 p2 p3
      by_cases ht : (!inS m caller) = true
      · have HT := Go.Lib.hid ht
        have HQ := Go.Lib.hid (q0)
        clear q0
        obtain ⟨c0_0, c0_1, c0_2, c0_3, c0_4, c0_5, c0_6, c0_7⟩ := HS.out.c8 0 _ _ _ _ _ _ _ _ _ _ rfl
        obtain c1_0 := HS.out.c1 1 _ _ _ rfl
        obtain c2_0 := HS.out.c1 2 _ _ _ rfl
        obtain c3_0 := HS.out.c1 3 _ _ _ rfl
        obtain c4_0 := HS.out.c1 4 _ _ _ rfl
        go_wp2_with (first | ((with_reducible refine gate_dst (N := 10) rfl ?_); refine Sl.box_st HS.out (by rfl) (cs := #[.nilFunc, .int .i64 0]) (t := 157) ?hr ?_; (case hr => first | (go_simp; done) | (go_simp; rfl)); intro g10 w21_ HSn HBn; clear HBn; replace HS : Hid (St (SL.blk g10 157 #[.nilFunc, .int .i64 0] :: SL.blk g9 157 #[.func (.func 71) #[] #[.pointer (some ⟨g4, 0, none⟩), .pointer (some ⟨g7, 0, none⟩)], .int .i64 3, .func (.func 72) #[] #[.pointer (some ⟨g4, 0, none⟩), .pointer (some ⟨g5, 0, none⟩)], .int .i64 4, .func (.func 73) #[] #[.pointer (some ⟨g7, 0, none⟩), .pointer (some ⟨g6, 0, none⟩)], .int .i64 1, .func (.func 74) #[] #[.pointer (some ⟨g4, 0, none⟩), .pointer (some ⟨g6, 0, none⟩), .pointer (some ⟨g7, 0, none⟩)], .int .i64 5] :: SL.blk g7 3 #[.int .i64 id] :: SL.blk g6 3 #[.int .i64 current] :: SL.blk g5 3 #[.int .i64 caller] :: SL.blk g4 75 #[.pointer (some ⟨g, 0, none⟩)] :: l) w0 w21_) := Go.Lib.hid HSn; clear HSn; clear c0_0 c0_1 c0_2 c0_3 c0_4 c0_5 c0_6 c0_7 c1_0 c2_0 c3_0 c4_0; obtain ⟨c0_0, c0_1⟩ := HS.out.c2 0 _ _ _ _ rfl; obtain ⟨c1_0, c1_1, c1_2, c1_3, c1_4, c1_5, c1_6, c1_7⟩ := HS.out.c8 1 _ _ _ _ _ _ _ _ _ _ rfl; obtain c2_0 := HS.out.c1 2 _ _ _ rfl; obtain c3_0 := HS.out.c1 3 _ _ _ rfl; obtain c4_0 := HS.out.c1 4 _ _ _ rfl; obtain c5_0 := HS.out.c1 5 _ _ _ rfl) | ((with_reducible refine gate_store (p := 10) rfl ?_); refine Sl.storeAll_st HS.out 0 g10 157 _ rfl [.func (.func 72) #[] #[.pointer (some ⟨g4, 0, none⟩), .pointer (some ⟨g5, 0, none⟩)], .int .i64 4] rfl (by rfl) (by rfl) ?hr ?_; (case hr => have f_ := HS.out.f2 0 _ _ _ _ rfl; (try obtain ⟨f0, f1⟩ := f_); first | (go_simp; done) | (go_simp; rfl)); intro w22_ HSn; replace HS : Hid (St (SL.blk g10 157 #[.func (.func 72) #[] #[.pointer (some ⟨g4, 0, none⟩), .pointer (some ⟨g5, 0, none⟩)], .int .i64 4] :: SL.blk g9 157 #[.func (.func 71) #[] #[.pointer (some ⟨g4, 0, none⟩), .pointer (some ⟨g7, 0, none⟩)], .int .i64 3, .func (.func 72) #[] #[.pointer (some ⟨g4, 0, none⟩), .pointer (some ⟨g5, 0, none⟩)], .int .i64 4, .func (.func 73) #[] #[.pointer (some ⟨g7, 0, none⟩), .pointer (some ⟨g6, 0, none⟩)], .int .i64 1, .func (.func 74) #[] #[.pointer (some ⟨g4, 0, none⟩), .pointer (some ⟨g6, 0, none⟩), .pointer (some ⟨g7, 0, none⟩)], .int .i64 5] :: SL.blk g7 3 #[.int .i64 id] :: SL.blk g6 3 #[.int .i64 current] :: SL.blk g5 3 #[.int .i64 caller] :: SL.blk g4 75 #[.pointer (some ⟨g, 0, none⟩)] :: l) w0 w22_) := Go.Lib.hid HSn; clear HSn; clear c0_0 c0_1 c1_0 c1_1 c1_2 c1_3 c1_4 c1_5 c1_6 c1_7 c2_0 c3_0 c4_0 c5_0; obtain ⟨c0_0, c0_1⟩ := HS.out.c2 0 _ _ _ _ rfl; obtain ⟨c1_0, c1_1, c1_2, c1_3, c1_4, c1_5, c1_6, c1_7⟩ := HS.out.c8 1 _ _ _ _ _ _ _ _ _ _ rfl; obtain c2_0 := HS.out.c1 2 _ _ _ rfl; obtain c3_0 := HS.out.c1 3 _ _ _ rfl; obtain c4_0 := HS.out.c1 4 _ _ _ rfl; obtain c5_0 := HS.out.c1 5 _ _ _ rfl) | (go_at_call 72; refine (code2 HS.out (((((R.cons _).cons _).cons _).cons _).cons _ |>.cons _) g4 g5 caller HI.out.1 (HS.out.c1 5 _ _ _ rfl) (HS.out.c1 4 _ _ _ rfl)).mono ?_; rintro e w' ⟨rfl, rfl⟩))
        go_ret
        have hv : codeV s m ps caller current id = 4 := by unfold codeV; rw [if_neg (by simp [HQ.out])]; rw [if_pos (by have := HT.out; simpa using this)]
        exact ⟨by rw [hv]; first | done | rfl, HS.out.drop.drop.drop.drop.drop.drop⟩
      · replace ht : (!inS m caller) = false := by simpa using ht
        have HT := Go.Lib.hid ht
        have HQ := Go.Lib.hid (q0)
        clear q0
        obtain ⟨c0_0, c0_1, c0_2, c0_3, c0_4, c0_5, c0_6, c0_7⟩ := HS.out.c8 0 _ _ _ _ _ _ _ _ _ _ rfl
        obtain c1_0 := HS.out.c1 1 _ _ _ rfl
        obtain c2_0 := HS.out.c1 2 _ _ _ rfl
        obtain c3_0 := HS.out.c1 3 _ _ _ rfl
        obtain c4_0 := HS.out.c1 4 _ _ _ rfl
        go_wp2_with (first | ((with_reducible refine gate_dst (N := 10) rfl ?_); refine Sl.box_st HS.out (by rfl) (cs := #[.nilFunc, .int .i64 0]) (t := 157) ?hr ?_; (case hr => first | (go_simp; done) | (go_simp; rfl)); intro g10 w21_ HSn HBn; clear HBn; replace HS : Hid (St (SL.blk g10 157 #[.nilFunc, .int .i64 0] :: SL.blk g9 157 #[.func (.func 71) #[] #[.pointer (some ⟨g4, 0, none⟩), .pointer (some ⟨g7, 0, none⟩)], .int .i64 3, .func (.func 72) #[] #[.pointer (some ⟨g4, 0, none⟩), .pointer (some ⟨g5, 0, none⟩)], .int .i64 4, .func (.func 73) #[] #[.pointer (some ⟨g7, 0, none⟩), .pointer (some ⟨g6, 0, none⟩)], .int .i64 1, .func (.func 74) #[] #[.pointer (some ⟨g4, 0, none⟩), .pointer (some ⟨g6, 0, none⟩), .pointer (some ⟨g7, 0, none⟩)], .int .i64 5] :: SL.blk g7 3 #[.int .i64 id] :: SL.blk g6 3 #[.int .i64 current] :: SL.blk g5 3 #[.int .i64 caller] :: SL.blk g4 75 #[.pointer (some ⟨g, 0, none⟩)] :: l) w0 w21_) := Go.Lib.hid HSn; clear HSn; clear c0_0 c0_1 c0_2 c0_3 c0_4 c0_5 c0_6 c0_7 c1_0 c2_0 c3_0 c4_0; obtain ⟨c0_0, c0_1⟩ := HS.out.c2 0 _ _ _ _ rfl; obtain ⟨c1_0, c1_1, c1_2, c1_3, c1_4, c1_5, c1_6, c1_7⟩ := HS.out.c8 1 _ _ _ _ _ _ _ _ _ _ rfl; obtain c2_0 := HS.out.c1 2 _ _ _ rfl; obtain c3_0 := HS.out.c1 3 _ _ _ rfl; obtain c4_0 := HS.out.c1 4 _ _ _ rfl; obtain c5_0 := HS.out.c1 5 _ _ _ rfl) | ((with_reducible refine gate_store (p := 10) rfl ?_); refine Sl.storeAll_st HS.out 0 g10 157 _ rfl [.func (.func 72) #[] #[.pointer (some ⟨g4, 0, none⟩), .pointer (some ⟨g5, 0, none⟩)], .int .i64 4] rfl (by rfl) (by rfl) ?hr ?_; (case hr => have f_ := HS.out.f2 0 _ _ _ _ rfl; (try obtain ⟨f0, f1⟩ := f_); first | (go_simp; done) | (go_simp; rfl)); intro w22_ HSn; replace HS : Hid (St (SL.blk g10 157 #[.func (.func 72) #[] #[.pointer (some ⟨g4, 0, none⟩), .pointer (some ⟨g5, 0, none⟩)], .int .i64 4] :: SL.blk g9 157 #[.func (.func 71) #[] #[.pointer (some ⟨g4, 0, none⟩), .pointer (some ⟨g7, 0, none⟩)], .int .i64 3, .func (.func 72) #[] #[.pointer (some ⟨g4, 0, none⟩), .pointer (some ⟨g5, 0, none⟩)], .int .i64 4, .func (.func 73) #[] #[.pointer (some ⟨g7, 0, none⟩), .pointer (some ⟨g6, 0, none⟩)], .int .i64 1, .func (.func 74) #[] #[.pointer (some ⟨g4, 0, none⟩), .pointer (some ⟨g6, 0, none⟩), .pointer (some ⟨g7, 0, none⟩)], .int .i64 5] :: SL.blk g7 3 #[.int .i64 id] :: SL.blk g6 3 #[.int .i64 current] :: SL.blk g5 3 #[.int .i64 caller] :: SL.blk g4 75 #[.pointer (some ⟨g, 0, none⟩)] :: l) w0 w22_) := Go.Lib.hid HSn; clear HSn; clear c0_0 c0_1 c1_0 c1_1 c1_2 c1_3 c1_4 c1_5 c1_6 c1_7 c2_0 c3_0 c4_0 c5_0; obtain ⟨c0_0, c0_1⟩ := HS.out.c2 0 _ _ _ _ rfl; obtain ⟨c1_0, c1_1, c1_2, c1_3, c1_4, c1_5, c1_6, c1_7⟩ := HS.out.c8 1 _ _ _ _ _ _ _ _ _ _ rfl; obtain c2_0 := HS.out.c1 2 _ _ _ rfl; obtain c3_0 := HS.out.c1 3 _ _ _ rfl; obtain c4_0 := HS.out.c1 4 _ _ _ rfl; obtain c5_0 := HS.out.c1 5 _ _ _ rfl) | (go_at_call 72; refine (code2 HS.out (((((R.cons _).cons _).cons _).cons _).cons _ |>.cons _) g4 g5 caller HI.out.1 (HS.out.c1 5 _ _ _ rfl) (HS.out.c1 4 _ _ _ rfl)).mono ?_; rintro e w' ⟨rfl, rfl⟩))
        go_roundw
        case rel => exact ⟨2, by omega, by rfl, fun _ => HQ.out, fun _ => by have := HT.out; simpa using this, by omega, by omega, HS.out.drop⟩
        case measure => simp [intOf]
    · have q0 := p0 (by omega)
      have q1 := p1 (by omega)
      clear p0 p1 p2 p3
      by_cases ht : (id == current) = true
      · have HT := Go.Lib.hid ht
        have HQ := Go.Lib.hid (And.intro q0 q1)
        clear q0 q1
        obtain ⟨c0_0, c0_1, c0_2, c0_3, c0_4, c0_5, c0_6, c0_7⟩ := HS.out.c8 0 _ _ _ _ _ _ _ _ _ _ rfl
        obtain c1_0 := HS.out.c1 1 _ _ _ rfl
        obtain c2_0 := HS.out.c1 2 _ _ _ rfl
        obtain c3_0 := HS.out.c1 3 _ _ _ rfl
        obtain c4_0 := HS.out.c1 4 _ _ _ rfl
        go_wp2_with (first | ((with_reducible refine gate_dst (N := 10) rfl ?_); refine Sl.box_st HS.out (by rfl) (cs := #[.nilFunc, .int .i64 0]) (t := 157) ?hr ?_; (case hr => first | (go_simp; done) | (go_simp; rfl)); intro g10 w21_ HSn HBn; clear HBn; replace HS : Hid (St (SL.blk g10 157 #[.nilFunc, .int .i64 0] :: SL.blk g9 157 #[.func (.func 71) #[] #[.pointer (some ⟨g4, 0, none⟩), .pointer (some ⟨g7, 0, none⟩)], .int .i64 3, .func (.func 72) #[] #[.pointer (some ⟨g4, 0, none⟩), .pointer (some ⟨g5, 0, none⟩)], .int .i64 4, .func (.func 73) #[] #[.pointer (some ⟨g7, 0, none⟩), .pointer (some ⟨g6, 0, none⟩)], .int .i64 1, .func (.func 74) #[] #[.pointer (some ⟨g4, 0, none⟩), .pointer (some ⟨g6, 0, none⟩), .pointer (some ⟨g7, 0, none⟩)], .int .i64 5] :: SL.blk g7 3 #[.int .i64 id] :: SL.blk g6 3 #[.int .i64 current] :: SL.blk g5 3 #[.int .i64 caller] :: SL.blk g4 75 #[.pointer (some ⟨g, 0, none⟩)] :: l) w0 w21_) := Go.Lib.hid HSn; clear HSn; clear c0_0 c0_1 c0_2 c0_3 c0_4 c0_5 c0_6 c0_7 c1_0 c2_0 c3_0 c4_0; obtain ⟨c0_0, c0_1⟩ := HS.out.c2 0 _ _ _ _ rfl; obtain ⟨c1_0, c1_1, c1_2, c1_3, c1_4, c1_5, c1_6, c1_7⟩ := HS.out.c8 1 _ _ _ _ _ _ _ _ _ _ rfl; obtain c2_0 := HS.out.c1 2 _ _ _ rfl; obtain c3_0 := HS.out.c1 3 _ _ _ rfl; obtain c4_0 := HS.out.c1 4 _ _ _ rfl; obtain c5_0 := HS.out.c1 5 _ _ _ rfl) | ((with_reducible refine gate_store (p := 10) rfl ?_); refine Sl.storeAll_st HS.out 0 g10 157 _ rfl [.func (.func 73) #[] #[.pointer (some ⟨g7, 0, none⟩), .pointer (some ⟨g6, 0, none⟩)], .int .i64 1] rfl (by rfl) (by rfl) ?hr ?_; (case hr => have f_ := HS.out.f2 0 _ _ _ _ rfl; (try obtain ⟨f0, f1⟩ := f_); first | (go_simp; done) | (go_simp; rfl)); intro w22_ HSn; replace HS : Hid (St (SL.blk g10 157 #[.func (.func 73) #[] #[.pointer (some ⟨g7, 0, none⟩), .pointer (some ⟨g6, 0, none⟩)], .int .i64 1] :: SL.blk g9 157 #[.func (.func 71) #[] #[.pointer (some ⟨g4, 0, none⟩), .pointer (some ⟨g7, 0, none⟩)], .int .i64 3, .func (.func 72) #[] #[.pointer (some ⟨g4, 0, none⟩), .pointer (some ⟨g5, 0, none⟩)], .int .i64 4, .func (.func 73) #[] #[.pointer (some ⟨g7, 0, none⟩), .pointer (some ⟨g6, 0, none⟩)], .int .i64 1, .func (.func 74) #[] #[.pointer (some ⟨g4, 0, none⟩), .pointer (some ⟨g6, 0, none⟩), .pointer (some ⟨g7, 0, none⟩)], .int .i64 5] :: SL.blk g7 3 #[.int .i64 id] :: SL.blk g6 3 #[.int .i64 current] :: SL.blk g5 3 #[.int .i64 caller] :: SL.blk g4 75 #[.pointer (some ⟨g, 0, none⟩)] :: l) w0 w22_) := Go.Lib.hid HSn; clear HSn; clear c0_0 c0_1 c1_0 c1_1 c1_2 c1_3 c1_4 c1_5 c1_6 c1_7 c2_0 c3_0 c4_0 c5_0; obtain ⟨c0_0, c0_1⟩ := HS.out.c2 0 _ _ _ _ rfl; obtain ⟨c1_0, c1_1, c1_2, c1_3, c1_4, c1_5, c1_6, c1_7⟩ := HS.out.c8 1 _ _ _ _ _ _ _ _ _ _ rfl; obtain c2_0 := HS.out.c1 2 _ _ _ rfl; obtain c3_0 := HS.out.c1 3 _ _ _ rfl; obtain c4_0 := HS.out.c1 4 _ _ _ rfl; obtain c5_0 := HS.out.c1 5 _ _ _ rfl) | (go_at_call 73; refine (code3 g7 g6 id current (HS.out.c1 2 _ _ _ rfl) (HS.out.c1 3 _ _ _ rfl)).mono ?_; rintro e w' ⟨rfl, rfl⟩))
        go_ret
        have hv : codeV s m ps caller current id = 1 := by unfold codeV; rw [if_neg (by simp [HQ.out.1])]; rw [if_neg (by simp [HQ.out.2])]; rw [if_pos (by have := HT.out; simpa using this)]
        exact ⟨by rw [hv]; first | done | rfl, HS.out.drop.drop.drop.drop.drop.drop⟩
      · replace ht : (id == current) = false := by simpa using ht
        have HT := Go.Lib.hid ht
        have HQ := Go.Lib.hid (And.intro q0 q1)
        clear q0 q1
        obtain ⟨c0_0, c0_1, c0_2, c0_3, c0_4, c0_5, c0_6, c0_7⟩ := HS.out.c8 0 _ _ _ _ _ _ _ _ _ _ rfl
        obtain c1_0 := HS.out.c1 1 _ _ _ rfl
        obtain c2_0 := HS.out.c1 2 _ _ _ rfl
        obtain c3_0 := HS.out.c1 3 _ _ _ rfl
        obtain c4_0 := HS.out.c1 4 _ _ _ rfl
        go_wp2_with (first | ((with_reducible refine gate_dst (N := 10) rfl ?_); refine Sl.box_st HS.out (by rfl) (cs := #[.nilFunc, .int .i64 0]) (t := 157) ?hr ?_; (case hr => first | (go_simp; done) | (go_simp; rfl)); intro g10 w21_ HSn HBn; clear HBn; replace HS : Hid (St (SL.blk g10 157 #[.nilFunc, .int .i64 0] :: SL.blk g9 157 #[.func (.func 71) #[] #[.pointer (some ⟨g4, 0, none⟩), .pointer (some ⟨g7, 0, none⟩)], .int .i64 3, .func (.func 72) #[] #[.pointer (some ⟨g4, 0, none⟩), .pointer (some ⟨g5, 0, none⟩)], .int .i64 4, .func (.func 73) #[] #[.pointer (some ⟨g7, 0, none⟩), .pointer (some ⟨g6, 0, none⟩)], .int .i64 1, .func (.func 74) #[] #[.pointer (some ⟨g4, 0, none⟩), .pointer (some ⟨g6, 0, none⟩), .pointer (some ⟨g7, 0, none⟩)], .int .i64 5] :: SL.blk g7 3 #[.int .i64 id] :: SL.blk g6 3 #[.int .i64 current] :: SL.blk g5 3 #[.int .i64 caller] :: SL.blk g4 75 #[.pointer (some ⟨g, 0, none⟩)] :: l) w0 w21_) := Go.Lib.hid HSn; clear HSn; clear c0_0 c0_1 c0_2 c0_3 c0_4 c0_5 c0_6 c0_7 c1_0 c2_0 c3_0 c4_0; obtain ⟨c0_0, c0_1⟩ := HS.out.c2 0 _ _ _ _ rfl; obtain ⟨c1_0, c1_1, c1_2, c1_3, c1_4, c1_5, c1_6, c1_7⟩ := HS.out.c8 1 _ _ _ _ _ _ _ _ _ _ rfl; obtain c2_0 := HS.out.c1 2 _ _ _ rfl; obtain c3_0 := HS.out.c1 3 _ _ _ rfl; obtain c4_0 := HS.out.c1 4 _ _ _ rfl; obtain c5_0 := HS.out.c1 5 _ _ _ rfl) | ((with_reducible refine gate_store (p := 10) rfl ?_); refine Sl.storeAll_st HS.out 0 g10 157 _ rfl [.func (.func 73) #[] #[.pointer (some ⟨g7, 0, none⟩), .pointer (some ⟨g6, 0, none⟩)], .int .i64 1] rfl (by rfl) (by rfl) ?hr ?_; (case hr => have f_ := HS.out.f2 0 _ _ _ _ rfl; (try obtain ⟨f0, f1⟩ := f_); first | (go_simp; done) | (go_simp; rfl)); intro w22_ HSn; replace HS : Hid (St (SL.blk g10 157 #[.func (.func 73) #[] #[.pointer (some ⟨g7, 0, none⟩), .pointer (some ⟨g6, 0, none⟩)], .int .i64 1] :: SL.blk g9 157 #[.func (.func 71) #[] #[.pointer (some ⟨g4, 0, none⟩), .pointer (some ⟨g7, 0, none⟩)], .int .i64 3, .func (.func 72) #[] #[.pointer (some ⟨g4, 0, none⟩), .pointer (some ⟨g5, 0, none⟩)], .int .i64 4, .func (.func 73) #[] #[.pointer (some ⟨g7, 0, none⟩), .pointer (some ⟨g6, 0, none⟩)], .int .i64 1, .func (.func 74) #[] #[.pointer (some ⟨g4, 0, none⟩), .pointer (some ⟨g6, 0, none⟩), .pointer (some ⟨g7, 0, none⟩)], .int .i64 5] :: SL.blk g7 3 #[.int .i64 id] :: SL.blk g6 3 #[.int .i64 current] :: SL.blk g5 3 #[.int .i64 caller] :: SL.blk g4 75 #[.pointer (some ⟨g, 0, none⟩)] :: l) w0 w22_) := Go.Lib.hid HSn; clear HSn; clear c0_0 c0_1 c1_0 c1_1 c1_2 c1_3 c1_4 c1_5 c1_6 c1_7 c2_0 c3_0 c4_0 c5_0; obtain ⟨c0_0, c0_1⟩ := HS.out.c2 0 _ _ _ _ rfl; obtain ⟨c1_0, c1_1, c1_2, c1_3, c1_4, c1_5, c1_6, c1_7⟩ := HS.out.c8 1 _ _ _ _ _ _ _ _ _ _ rfl; obtain c2_0 := HS.out.c1 2 _ _ _ rfl; obtain c3_0 := HS.out.c1 3 _ _ _ rfl; obtain c4_0 := HS.out.c1 4 _ _ _ rfl; obtain c5_0 := HS.out.c1 5 _ _ _ rfl) | (go_at_call 73; refine (code3 g7 g6 id current (HS.out.c1 2 _ _ _ rfl) (HS.out.c1 3 _ _ _ rfl)).mono ?_; rintro e w' ⟨rfl, rfl⟩))
        go_roundw
        case rel => exact ⟨3, by omega, by rfl, fun _ => HQ.out.1, fun _ => HQ.out.2, fun _ => by have := HT.out; simpa using this, by omega, HS.out.drop⟩
        case measure => simp [intOf]
    · have q0 := p0 (by omega)
      have q1 := p1 (by omega)
      have q2 := p2 (by omega)
      clear p0 p1 p2 p3
      by_cases ht : (!hasB ps current id) = true
      · have HT := Go.Lib.hid ht
        have HQ := Go.Lib.hid (And.intro q0 (And.intro q1 q2))
        clear q0 q1 q2
        obtain ⟨c0_0, c0_1, c0_2, c0_3, c0_4, c0_5, c0_6, c0_7⟩ := HS.out.c8 0 _ _ _ _ _ _ _ _ _ _ rfl
        obtain c1_0 := HS.out.c1 1 _ _ _ rfl
        obtain c2_0 := HS.out.c1 2 _ _ _ rfl
        obtain c3_0 := HS.out.c1 3 _ _ _ rfl
        obtain c4_0 := HS.out.c1 4 _ _ _ rfl
        go_wp2_with (first | ((with_reducible refine gate_dst (N := 10) rfl ?_); refine Sl.box_st HS.out (by rfl) (cs := #[.nilFunc, .int .i64 0]) (t := 157) ?hr ?_; (case hr => first | (go_simp; done) | (go_simp; rfl)); intro g10 w21_ HSn HBn; clear HBn; replace HS : Hid (St (SL.blk g10 157 #[.nilFunc, .int .i64 0] :: SL.blk g9 157 #[.func (.func 71) #[] #[.pointer (some ⟨g4, 0, none⟩), .pointer (some ⟨g7, 0, none⟩)], .int .i64 3, .func (.func 72) #[] #[.pointer (some ⟨g4, 0, none⟩), .pointer (some ⟨g5, 0, none⟩)], .int .i64 4, .func (.func 73) #[] #[.pointer (some ⟨g7, 0, none⟩), .pointer (some ⟨g6, 0, none⟩)], .int .i64 1, .func (.func 74) #[] #[.pointer (some ⟨g4, 0, none⟩), .pointer (some ⟨g6, 0, none⟩), .pointer (some ⟨g7, 0, none⟩)], .int .i64 5] :: SL.blk g7 3 #[.int .i64 id] :: SL.blk g6 3 #[.int .i64 current] :: SL.blk g5 3 #[.int .i64 caller] :: SL.blk g4 75 #[.pointer (some ⟨g, 0, none⟩)] :: l) w0 w21_) := Go.Lib.hid HSn; clear HSn; clear c0_0 c0_1 c0_2 c0_3 c0_4 c0_5 c0_6 c0_7 c1_0 c2_0 c3_0 c4_0; obtain ⟨c0_0, c0_1⟩ := HS.out.c2 0 _ _ _ _ rfl; obtain ⟨c1_0, c1_1, c1_2, c1_3, c1_4, c1_5, c1_6, c1_7⟩ := HS.out.c8 1 _ _ _ _ _ _ _ _ _ _ rfl; obtain c2_0 := HS.out.c1 2 _ _ _ rfl; obtain c3_0 := HS.out.c1 3 _ _ _ rfl; obtain c4_0 := HS.out.c1 4 _ _ _ rfl; obtain c5_0 := HS.out.c1 5 _ _ _ rfl) | ((with_reducible refine gate_store (p := 10) rfl ?_); refine Sl.storeAll_st HS.out 0 g10 157 _ rfl [.func (.func 74) #[] #[.pointer (some ⟨g4, 0, none⟩), .pointer (some ⟨g6, 0, none⟩), .pointer (some ⟨g7, 0, none⟩)], .int .i64 5] rfl (by rfl) (by rfl) ?hr ?_; (case hr => have f_ := HS.out.f2 0 _ _ _ _ rfl; (try obtain ⟨f0, f1⟩ := f_); first | (go_simp; done) | (go_simp; rfl)); intro w22_ HSn; replace HS : Hid (St (SL.blk g10 157 #[.func (.func 74) #[] #[.pointer (some ⟨g4, 0, none⟩), .pointer (some ⟨g6, 0, none⟩), .pointer (some ⟨g7, 0, none⟩)], .int .i64 5] :: SL.blk g9 157 #[.func (.func 71) #[] #[.pointer (some ⟨g4, 0, none⟩), .pointer (some ⟨g7, 0, none⟩)], .int .i64 3, .func (.func 72) #[] #[.pointer (some ⟨g4, 0, none⟩), .pointer (some ⟨g5, 0, none⟩)], .int .i64 4, .func (.func 73) #[] #[.pointer (some ⟨g7, 0, none⟩), .pointer (some ⟨g6, 0, none⟩)], .int .i64 1, .func (.func 74) #[] #[.pointer (some ⟨g4, 0, none⟩), .pointer (some ⟨g6, 0, none⟩), .pointer (some ⟨g7, 0, none⟩)], .int .i64 5] :: SL.blk g7 3 #[.int .i64 id] :: SL.blk g6 3 #[.int .i64 current] :: SL.blk g5 3 #[.int .i64 caller] :: SL.blk g4 75 #[.pointer (some ⟨g, 0, none⟩)] :: l) w0 w22_) := Go.Lib.hid HSn; clear HSn; clear c0_0 c0_1 c1_0 c1_1 c1_2 c1_3 c1_4 c1_5 c1_6 c1_7 c2_0 c3_0 c4_0 c5_0; obtain ⟨c0_0, c0_1⟩ := HS.out.c2 0 _ _ _ _ rfl; obtain ⟨c1_0, c1_1, c1_2, c1_3, c1_4, c1_5, c1_6, c1_7⟩ := HS.out.c8 1 _ _ _ _ _ _ _ _ _ _ rfl; obtain c2_0 := HS.out.c1 2 _ _ _ rfl; obtain c3_0 := HS.out.c1 3 _ _ _ rfl; obtain c4_0 := HS.out.c1 4 _ _ _ rfl; obtain c5_0 := HS.out.c1 5 _ _ _ rfl) | (go_at_call 74; refine (code4 HS.out (((((R.cons _).cons _).cons _).cons _).cons _ |>.cons _) hps g4 g6 g7 current id (HS.out.c1 5 _ _ _ rfl) (HS.out.c1 3 _ _ _ rfl) (HS.out.c1 2 _ _ _ rfl)).mono ?_; rintro e w51_ ⟨rfl, hSn⟩; replace HS : Hid (St (SL.blk g10 157 #[.func (.func 74) #[] #[.pointer (some ⟨g4, 0, none⟩), .pointer (some ⟨g6, 0, none⟩), .pointer (some ⟨g7, 0, none⟩)], .int .i64 5] :: SL.blk g9 157 #[.func (.func 71) #[] #[.pointer (some ⟨g4, 0, none⟩), .pointer (some ⟨g7, 0, none⟩)], .int .i64 3, .func (.func 72) #[] #[.pointer (some ⟨g4, 0, none⟩), .pointer (some ⟨g5, 0, none⟩)], .int .i64 4, .func (.func 73) #[] #[.pointer (some ⟨g7, 0, none⟩), .pointer (some ⟨g6, 0, none⟩)], .int .i64 1, .func (.func 74) #[] #[.pointer (some ⟨g4, 0, none⟩), .pointer (some ⟨g6, 0, none⟩), .pointer (some ⟨g7, 0, none⟩)], .int .i64 5] :: SL.blk g7 3 #[.int .i64 id] :: SL.blk g6 3 #[.int .i64 current] :: SL.blk g5 3 #[.int .i64 caller] :: SL.blk g4 75 #[.pointer (some ⟨g, 0, none⟩)] :: l) w0 w51_) := Go.Lib.hid hSn; clear hSn; clear c0_0 c0_1 c1_0 c1_1 c1_2 c1_3 c1_4 c1_5 c1_6 c1_7 c2_0 c3_0 c4_0 c5_0; obtain ⟨c0_0, c0_1⟩ := HS.out.c2 0 _ _ _ _ rfl; obtain ⟨c1_0, c1_1, c1_2, c1_3, c1_4, c1_5, c1_6, c1_7⟩ := HS.out.c8 1 _ _ _ _ _ _ _ _ _ _ rfl; obtain c2_0 := HS.out.c1 2 _ _ _ rfl; obtain c3_0 := HS.out.c1 3 _ _ _ rfl; obtain c4_0 := HS.out.c1 4 _ _ _ rfl; obtain c5_0 := HS.out.c1 5 _ _ _ rfl))
        go_ret
        have hv : codeV s m ps caller current id = 5 := by unfold codeV; rw [if_neg (by simp [HQ.out.1])]; rw [if_neg (by simp [HQ.out.2.1])]; rw [if_neg (by simp [HQ.out.2.2])]; rw [if_pos (by have := HT.out; simpa using this)]
        exact ⟨by rw [hv]; first | done | rfl, HS.out.drop.drop.drop.drop.drop.drop⟩
      · replace ht : (!hasB ps current id) = false := by simpa using ht
        have HT := Go.Lib.hid ht
        have HQ := Go.Lib.hid (And.intro q0 (And.intro q1 q2))
        clear q0 q1 q2
        obtain ⟨c0_0, c0_1, c0_2, c0_3, c0_4, c0_5, c0_6, c0_7⟩ := HS.out.c8 0 _ _ _ _ _ _ _ _ _ _ rfl
        obtain c1_0 := HS.out.c1 1 _ _ _ rfl
        obtain c2_0 := HS.out.c1 2 _ _ _ rfl
        obtain c3_0 := HS.out.c1 3 _ _ _ rfl
        obtain c4_0 := HS.out.c1 4 _ _ _ rfl
        go_wp2_with (first | ((with_reducible refine gate_dst (N := 10) rfl ?_); refine Sl.box_st HS.out (by rfl) (cs := #[.nilFunc, .int .i64 0]) (t := 157) ?hr ?_; (case hr => first | (go_simp; done) | (go_simp; rfl)); intro g10 w21_ HSn HBn; clear HBn; replace HS : Hid (St (SL.blk g10 157 #[.nilFunc, .int .i64 0] :: SL.blk g9 157 #[.func (.func 71) #[] #[.pointer (some ⟨g4, 0, none⟩), .pointer (some ⟨g7, 0, none⟩)], .int .i64 3, .func (.func 72) #[] #[.pointer (some ⟨g4, 0, none⟩), .pointer (some ⟨g5, 0, none⟩)], .int .i64 4, .func (.func 73) #[] #[.pointer (some ⟨g7, 0, none⟩), .pointer (some ⟨g6, 0, none⟩)], .int .i64 1, .func (.func 74) #[] #[.pointer (some ⟨g4, 0, none⟩), .pointer (some ⟨g6, 0, none⟩), .pointer (some ⟨g7, 0, none⟩)], .int .i64 5] :: SL.blk g7 3 #[.int .i64 id] :: SL.blk g6 3 #[.int .i64 current] :: SL.blk g5 3 #[.int .i64 caller] :: SL.blk g4 75 #[.pointer (some ⟨g, 0, none⟩)] :: l) w0 w21_) := Go.Lib.hid HSn; clear HSn; clear c0_0 c0_1 c0_2 c0_3 c0_4 c0_5 c0_6 c0_7 c1_0 c2_0 c3_0 c4_0; obtain ⟨c0_0, c0_1⟩ := HS.out.c2 0 _ _ _ _ rfl; obtain ⟨c1_0, c1_1, c1_2, c1_3, c1_4, c1_5, c1_6, c1_7⟩ := HS.out.c8 1 _ _ _ _ _ _ _ _ _ _ rfl; obtain c2_0 := HS.out.c1 2 _ _ _ rfl; obtain c3_0 := HS.out.c1 3 _ _ _ rfl; obtain c4_0 := HS.out.c1 4 _ _ _ rfl; obtain c5_0 := HS.out.c1 5 _ _ _ rfl) | ((with_reducible refine gate_store (p := 10) rfl ?_); refine Sl.storeAll_st HS.out 0 g10 157 _ rfl [.func (.func 74) #[] #[.pointer (some ⟨g4, 0, none⟩), .pointer (some ⟨g6, 0, none⟩), .pointer (some ⟨g7, 0, none⟩)], .int .i64 5] rfl (by rfl) (by rfl) ?hr ?_; (case hr => have f_ := HS.out.f2 0 _ _ _ _ rfl; (try obtain ⟨f0, f1⟩ := f_); first | (go_simp; done) | (go_simp; rfl)); intro w22_ HSn; replace HS : Hid (St (SL.blk g10 157 #[.func (.func 74) #[] #[.pointer (some ⟨g4, 0, none⟩), .pointer (some ⟨g6, 0, none⟩), .pointer (some ⟨g7, 0, none⟩)], .int .i64 5] :: SL.blk g9 157 #[.func (.func 71) #[] #[.pointer (some ⟨g4, 0, none⟩), .pointer (some ⟨g7, 0, none⟩)], .int .i64 3, .func (.func 72) #[] #[.pointer (some ⟨g4, 0, none⟩), .pointer (some ⟨g5, 0, none⟩)], .int .i64 4, .func (.func 73) #[] #[.pointer (some ⟨g7, 0, none⟩), .pointer (some ⟨g6, 0, none⟩)], .int .i64 1, .func (.func 74) #[] #[.pointer (some ⟨g4, 0, none⟩), .pointer (some ⟨g6, 0, none⟩), .pointer (some ⟨g7, 0, none⟩)], .int .i64 5] :: SL.blk g7 3 #[.int .i64 id] :: SL.blk g6 3 #[.int .i64 current] :: SL.blk g5 3 #[.int .i64 caller] :: SL.blk g4 75 #[.pointer (some ⟨g, 0, none⟩)] :: l) w0 w22_) := Go.Lib.hid HSn; clear HSn; clear c0_0 c0_1 c1_0 c1_1 c1_2 c1_3 c1_4 c1_5 c1_6 c1_7 c2_0 c3_0 c4_0 c5_0; obtain ⟨c0_0, c0_1⟩ := HS.out.c2 0 _ _ _ _ rfl; obtain ⟨c1_0, c1_1, c1_2, c1_3, c1_4, c1_5, c1_6, c1_7⟩ := HS.out.c8 1 _ _ _ _ _ _ _ _ _ _ rfl; obtain c2_0 := HS.out.c1 2 _ _ _ rfl; obtain c3_0 := HS.out.c1 3 _ _ _ rfl; obtain c4_0 := HS.out.c1 4 _ _ _ rfl; obtain c5_0 := HS.out.c1 5 _ _ _ rfl) | (go_at_call 74; refine (code4 HS.out (((((R.cons _).cons _).cons _).cons _).cons _ |>.cons _) hps g4 g6 g7 current id (HS.out.c1 5 _ _ _ rfl) (HS.out.c1 3 _ _ _ rfl) (HS.out.c1 2 _ _ _ rfl)).mono ?_; rintro e w51_ ⟨rfl, hSn⟩; replace HS : Hid (St (SL.blk g10 157 #[.func (.func 74) #[] #[.pointer (some ⟨g4, 0, none⟩), .pointer (some ⟨g6, 0, none⟩), .pointer (some ⟨g7, 0, none⟩)], .int .i64 5] :: SL.blk g9 157 #[.func (.func 71) #[] #[.pointer (some ⟨g4, 0, none⟩), .pointer (some ⟨g7, 0, none⟩)], .int .i64 3, .func (.func 72) #[] #[.pointer (some ⟨g4, 0, none⟩), .pointer (some ⟨g5, 0, none⟩)], .int .i64 4, .func (.func 73) #[] #[.pointer (some ⟨g7, 0, none⟩), .pointer (some ⟨g6, 0, none⟩)], .int .i64 1, .func (.func 74) #[] #[.pointer (some ⟨g4, 0, none⟩), .pointer (some ⟨g6, 0, none⟩), .pointer (some ⟨g7, 0, none⟩)], .int .i64 5] :: SL.blk g7 3 #[.int .i64 id] :: SL.blk g6 3 #[.int .i64 current] :: SL.blk g5 3 #[.int .i64 caller] :: SL.blk g4 75 #[.pointer (some ⟨g, 0, none⟩)] :: l) w0 w51_) := Go.Lib.hid hSn; clear hSn; clear c0_0 c0_1 c1_0 c1_1 c1_2 c1_3 c1_4 c1_5 c1_6 c1_7 c2_0 c3_0 c4_0 c5_0; obtain ⟨c0_0, c0_1⟩ := HS.out.c2 0 _ _ _ _ rfl; obtain ⟨c1_0, c1_1, c1_2, c1_3, c1_4, c1_5, c1_6, c1_7⟩ := HS.out.c8 1 _ _ _ _ _ _ _ _ _ _ rfl; obtain c2_0 := HS.out.c1 2 _ _ _ rfl; obtain c3_0 := HS.out.c1 3 _ _ _ rfl; obtain c4_0 := HS.out.c1 4 _ _ _ rfl; obtain c5_0 := HS.out.c1 5 _ _ _ rfl))
        go_roundw
        case rel => exact ⟨4, by omega, by rfl, fun _ => HQ.out.1, fun _ => HQ.out.2.1, fun _ => HQ.out.2.2, fun _ => by have := HT.out; simpa using this, HS.out.drop⟩
        case measure => simp [intOf]
    · have HQ := Go.Lib.hid (And.intro (p0 (by omega)) (And.intro (p1 (by omega)) (And.intro (p2 (by omega)) (p3 (by omega)))))
      clear p0 p1 p2 p3
      obtain ⟨c0_0, c0_1, c0_2, c0_3, c0_4, c0_5, c0_6, c0_7⟩ := HS.out.c8 0 _ _ _ _ _ _ _ _ _ _ rfl
      obtain c1_0 := HS.out.c1 1 _ _ _ rfl
      obtain c2_0 := HS.out.c1 2 _ _ _ rfl
      obtain c3_0 := HS.out.c1 3 _ _ _ rfl
      obtain c4_0 := HS.out.c1 4 _ _ _ rfl
      go_wp2_with fail
      go_ret
      have hv : codeV s m ps caller current id = 0 := by unfold codeV; rw [if_neg (by simp [HQ.out.1]), if_neg (by simp [HQ.out.2.1]), if_neg (fun h => HQ.out.2.2.1 h), if_neg (by simp [HQ.out.2.2.2])]
      exact ⟨by rw [hv]; first | done | rfl, HS.out.drop.drop.drop.drop.drop⟩
end
end Go.Proofs.Ytolokohgphdngaa.Lat
