/- Shots that are one. -/
import Derived.Test.YtkmhgolohppliaaCrwF
import Derived.Test.YtkmhgolohppliaaCrwP
namespace Go.Proofs.Ytkmhgolohppliaa.Crw
open Go.RowKit Go.Proofs.Ytkmhgolohppliaa.PCellsPlays Go.Proofs.YtkmhgolohppliaaW.PrintWords Go.Proofs.YtkmhgolohppliaaW.PrintLast Go.Proofs.YtkmhgolohppliaaW.PrintMore Go.Proofs.Ytkmhgolohppliaa.Mine Go.Proofs.Ytkmhgolohppliaa.Cel Go.Proofs.Ytkmhgolohppliaa.Cls
open Go.Proofs.Ytkmhgolohppliaa.Prt (PS new_hd setMode_at act_at write_at shot_at id_st)
open Go.Proofs.Ytkmhgolohppliaa.Sl (SL Stp Chg St No wpc_seal wpc_round sealed MK look)
open Go.Proofs.YtkmhgolohppliaaW.PrintWords (results_list Vals)
set_option linter.unusedVariables false
set_option linter.unusedSimpArgs false
attribute [local go_sem] max2_int min2_int max_two min_two max_three min_three max_four min_four
/-- Shots that a call may read, whatever is made beside. -/
def ShotsAt (l : List SL) (w0 : World) (A : Option Addr) (hs : List SH) : Prop :=
  ∀ (lx : List SL) (w1 : World), St (lx ++ l) w0 w1 → kh81.C w1 A hs.length hs ∧ ∀ x ∈ hs, x.now.length ≤ x.c ∧ (Kd.int .u32).C w1 x.A x.now.length x.now
theorem ShotsAt.more {l : List SL} {w0 : World} {A : Option Addr} {hs : List SH} (h : ShotsAt l w0 A hs) (lx : List SL) : ShotsAt (lx ++ l) w0 A hs := fun ly w1 h1 => h (ly ++ lx) w1 (by rw [List.append_assoc]; exact h1)
theorem rowC_in {α : Type} {d : Kd α} {ee : Nat} {A : Option Addr} {c : Nat} {xs : List α} {L : List SL} {w0 w1 : World} (h : St L w0 w1) (n : Nat) (e : L[n]? = some (SL.row d ee (.slice A xs.length c) xs)) : xs.length ≤ c ∧ d.C w1 A xs.length xs := by
  obtain ⟨A', c', hv, hl, hC⟩ := h.rowC n e
  injection hv with q1 _ q2
  rw [q1, q2]; exact ⟨hl, hC⟩
theorem shots_own {l : List SL} {w0 : World} {A : Option Addr} {c : Nat} {hs : List SH} (L : List SL) (hL : L = SL.row kh81 81 (.slice A hs.length c) hs :: (rowsL hs ++ l)) : ShotsAt L w0 A hs := by
  intro lx w1 h
  subst hL
  refine ⟨(rowC_in h lx.length (by rw [List.getElem?_append_right (Nat.le_refl _), Nat.sub_self]; rfl)).2, fun x hx => ?_⟩
  have hm : x.row ∈ lx ++ (SL.row kh81 81 (.slice A hs.length c) hs :: (rowsL hs ++ l)) := List.mem_append_right _ (List.mem_cons_of_mem _ (List.mem_append_left _ (List.mem_reverse.2 (List.mem_map.2 ⟨x, hx, rfl⟩))))
  obtain ⟨n, e⟩ := List.getElem?_of_mem hm
  exact rowC_in h n e
theorem same_f {x y : SH} (h : x.sem = y.sem) (hn : x.now.length ≤ 1000000) : part_SameShot.f (x.now.length + 5) x.id x.mode x.starts x.cause x.now y.id y.mode y.starts y.cause y.now = some true := by
  obtain ⟨a, b, c, d, _, _, n⟩ := x
  obtain ⟨a', b', c', d', _, _, n'⟩ := y
  simp only [SH.sem, Prod.mk.injEq] at h
  obtain ⟨rfl, rfl, rfl, rfl, rfl⟩ := h
  unfold part_SameShot.f
  rw [if_pos rfl, if_pos rfl, if_pos rfl, if_pos rfl]
  show (slices_Equal_uint32_uint32.f (n.length + 5) n n).bind _ = _
  rw [equal_at n n hn]
  simp
variable {l : List SL} {w0 w : World}
set_option maxHeartbeats 3200000 in
set_option maxRecDepth 100000 in
theorem equalF_st (h : St l w0 w) (A1 : Option Addr) (c1 : Nat) (hs1 : List SH) (A2 : Option Addr) (c2 : Nat) (hs2 : List SH) (h1 : ShotsAt l w0 A1 hs1) (h2 : ShotsAt l w0 A2 hs2) (hn : hs1.length ≤ 1000) (hm : ∀ x ∈ hs1, x.now.length ≤ 1000000) (heq : hs1.map SH.sem = hs2.map SH.sem) :
    Calls Try.prog 106 #[.slice A1 hs1.length c1, .slice A2 hs2.length c2, .func (.func 48) #[] #[]] w fun e w' => e = .returned (.bool true) ∧ St l w0 w' := by
  have HS := Go.Lib.hid h
  have H1 := Go.Lib.hid h1
  have H2 := Go.Lib.hid h2
  have HM := Go.Lib.hid hm
  have HQ := Go.Lib.hid heq
  have hll : hs1.length = hs2.length := by have := congrArg List.length heq; simpa using this
  have HLL := Go.Lib.hid hll
  have hn2 : hs2.length ≤ 1000 := by omega
  have d1 : (hs1.length != hs2.length) = false := by rw [bne_eq_false_iff_eq]; exact hll
  have d2 : ((hs1.length : Int) != (hs2.length : Int)) = false := by rw [bne_eq_false_iff_eq]; omega
  clear h h1 h2 hm heq hll
  go_enter Try.func106, Try.ntmps106
  go_wp2_with fail
  go_loopw [17] (fun i wr => ∃ k : Nat, k ≤ hs1.length ∧ i = .int .i64 k ∧ St l w0 wr) (fun i _ => hs1.length - (intOf i).toNat)
  case atStart => exact ⟨0, Nat.zero_le _, rfl, HS.out⟩
  case round =>
    clear HS
    obtain ⟨k, hk, rfl, hS⟩ := hrel
    have HS := Go.Lib.hid hS
    clear hS
    by_cases hlt : k < hs1.length
    · have hlt2 : k < hs2.length := by have := HLL.out; omega
      obtain ⟨hC1, hR1⟩ := H1.out [] wr HS.out
      obtain ⟨hC2, hR2⟩ := H2.out [] wr HS.out
      obtain ⟨a1, rfl, x0, x1, x2, x3, x4⟩ := at_sh hC1 k hlt
      obtain ⟨a2, rfl, y0, y1, y2, y3, y4⟩ := at_sh hC2 k hlt2
      have hmx : hs1.getD k zSH ∈ hs1 := by rw [List.getD_eq_getElem?_getD, List.getElem?_eq_getElem hlt]; exact List.getElem_mem hlt
      have hmy : hs2.getD k zSH ∈ hs2 := by rw [List.getD_eq_getElem?_getD, List.getElem?_eq_getElem hlt2]; exact List.getElem_mem hlt2
      have hsm : (hs1.getD k zSH).sem = (hs2.getD k zSH).sem := by
        have h9 := congrArg (fun q : List (Int × Int × Int × Int × List Int) => q[k]?) HQ.out
        simp only [List.getElem?_map, List.getElem?_eq_getElem hlt, List.getElem?_eq_getElem hlt2, Option.map_some, Option.some.injEq] at h9
        rw [List.getD_eq_getElem?_getD, List.getElem?_eq_getElem hlt, List.getD_eq_getElem?_getD, List.getElem?_eq_getElem hlt2]
        exact h9
      have HF := Go.Lib.hid (same_f hsm (HM.out _ hmx))
      have HR1 : Hid (∀ (lx : List SL) (w1 : World), St (lx ++ l) w0 w1 → (hs1.getD k zSH).now.length ≤ (hs1.getD k zSH).c ∧ (Kd.int .u32).C w1 (hs1.getD k zSH).A (hs1.getD k zSH).now.length (hs1.getD k zSH).now) := Go.Lib.hid (fun lx w1 h9 => (H1.out lx w1 h9).2 _ hmx)
      have HR2 : Hid (∀ (lx : List SL) (w1 : World), St (lx ++ l) w0 w1 → (hs2.getD k zSH).now.length ≤ (hs2.getD k zSH).c ∧ (Kd.int .u32).C w1 (hs2.getD k zSH).A (hs2.getD k zSH).now.length (hs2.getD k zSH).now) := Go.Lib.hid (fun lx w1 h9 => (H2.out lx w1 h9).2 _ hmy)
      have HYC : Hid (∀ (lx : List SL) (w1 : World), St (lx ++ l) w0 w1 → w1.cell? (a2.add (k * 5)) = some (.int .i64 (hs2.getD k zSH).id) ∧ w1.cell? ⟨(a2.add (k * 5)).block, (a2.add (k * 5)).off + 1, none⟩ = some (.int .i64 (hs2.getD k zSH).mode) ∧
          w1.cell? ⟨(a2.add (k * 5)).block, (a2.add (k * 5)).off + 2, none⟩ = some (.int .i64 (hs2.getD k zSH).starts) ∧ w1.cell? ⟨(a2.add (k * 5)).block, (a2.add (k * 5)).off + 3, none⟩ = some (.int .i64 (hs2.getD k zSH).cause) ∧
          w1.cell? ⟨(a2.add (k * 5)).block, (a2.add (k * 5)).off + 4, none⟩ = some (.slice (hs2.getD k zSH).A (hs2.getD k zSH).now.length (hs2.getD k zSH).c)) := Go.Lib.hid (fun lx w1 h9 => by
        obtain ⟨a3, e3, rest⟩ := at_sh (H2.out lx w1 h9).1 k hlt2
        obtain rfl := Option.some.inj e3
        exact rest)
      clear hC1 hR1 hC2 hR2 hsm hmx hmy y0 y1 y2 y3 y4
      generalize hs1.getD k zSH = x at *
      generalize hs2.getD k zSH = y at *
      go_wp2_with (first | ((with_reducible refine gate_dst (N := 8) rfl ?_); refine Sl.box_st HS.out (by rfl) (cs := #[.int .i64 0, .int .i64 0, .int .i64 0, .int .i64 0, .slice none 0 0]) (t := 81) ?hr ?_; (case hr => first | (go_simp; done) | (go_simp; rfl)); intro g8 w31_ HSn HBn; clear HBn; replace HS : Hid (St (SL.blk g8 81 #[.int .i64 0, .int .i64 0, .int .i64 0, .int .i64 0, .slice none 0 0] :: l) w0 w31_) := Go.Lib.hid HSn; clear HSn; obtain ⟨c0_0, c0_1, c0_2, c0_3, c0_4⟩ := HS.out.c5 0 _ _ _ _ _ _ _ rfl) | ((with_reducible refine gate_store (p := 8) rfl ?_); refine Sl.storeAll_st HS.out 0 g8 81 _ rfl [.int .i64 x.id, .int .i64 x.mode, .int .i64 x.starts, .int .i64 x.cause, .slice x.A x.now.length x.c] rfl (by rfl) (by rfl) ?hr ?_; (case hr => have f_ := HS.out.f5 0 _ _ _ _ _ _ _ rfl; (try obtain ⟨f0, f1, f2, f3, f4⟩ := f_); first | (go_simp; done) | (go_simp; rfl)); intro w32_ HSn; replace HS : Hid (St (SL.blk g8 81 #[.int .i64 x.id, .int .i64 x.mode, .int .i64 x.starts, .int .i64 x.cause, .slice x.A x.now.length x.c] :: l) w0 w32_) := Go.Lib.hid HSn; clear HSn; clear c0_0 c0_1 c0_2 c0_3 c0_4; obtain ⟨c0_0, c0_1, c0_2, c0_3, c0_4⟩ := HS.out.c5 0 _ _ _ _ _ _ _ rfl; obtain ⟨y0, y1, y2, y3, y4⟩ := HYC.out [_] _ HS.out) | ((with_reducible refine gate_dst (N := 9) rfl ?_); refine Sl.box_st HS.out (by rfl) (cs := #[.int .i64 0, .int .i64 0, .int .i64 0, .int .i64 0, .slice none 0 0]) (t := 81) ?hr ?_; (case hr => first | (go_simp; done) | (go_simp; rfl)); intro g9 w33_ HSn HBn; clear HBn; replace HS : Hid (St (SL.blk g9 81 #[.int .i64 0, .int .i64 0, .int .i64 0, .int .i64 0, .slice none 0 0] :: SL.blk g8 81 #[.int .i64 x.id, .int .i64 x.mode, .int .i64 x.starts, .int .i64 x.cause, .slice x.A x.now.length x.c] :: l) w0 w33_) := Go.Lib.hid HSn; clear HSn; clear c0_0 c0_1 c0_2 c0_3 c0_4; obtain ⟨c0_0, c0_1, c0_2, c0_3, c0_4⟩ := HS.out.c5 0 _ _ _ _ _ _ _ rfl; obtain ⟨c1_0, c1_1, c1_2, c1_3, c1_4⟩ := HS.out.c5 1 _ _ _ _ _ _ _ rfl) | ((with_reducible refine gate_store (p := 9) rfl ?_); refine Sl.storeAll_st HS.out 0 g9 81 _ rfl [.int .i64 y.id, .int .i64 y.mode, .int .i64 y.starts, .int .i64 y.cause, .slice y.A y.now.length y.c] rfl (by rfl) (by rfl) ?hr ?_; (case hr => have f_ := HS.out.f5 0 _ _ _ _ _ _ _ rfl; (try obtain ⟨f0, f1, f2, f3, f4⟩ := f_); first | (go_simp; done) | (go_simp; rfl)); intro w34_ HSn; replace HS : Hid (St (SL.blk g9 81 #[.int .i64 y.id, .int .i64 y.mode, .int .i64 y.starts, .int .i64 y.cause, .slice y.A y.now.length y.c] :: SL.blk g8 81 #[.int .i64 x.id, .int .i64 x.mode, .int .i64 x.starts, .int .i64 x.cause, .slice x.A x.now.length x.c] :: l) w0 w34_) := Go.Lib.hid HSn; clear HSn; clear c0_0 c0_1 c0_2 c0_3 c0_4 c1_0 c1_1 c1_2 c1_3 c1_4; obtain ⟨c0_0, c0_1, c0_2, c0_3, c0_4⟩ := HS.out.c5 0 _ _ _ _ _ _ _ rfl; obtain ⟨c1_0, c1_1, c1_2, c1_3, c1_4⟩ := HS.out.c5 1 _ _ _ _ _ _ _ rfl) | (go_at_call 48; refine (part_SameShot.calls _ x.id x.mode x.starts x.cause x.A x.c x.now y.id y.mode y.starts y.cause y.A y.c y.now true _ (HR1.out [SL.blk g9 81 #[.int .i64 y.id, .int .i64 y.mode, .int .i64 y.starts, .int .i64 y.cause, .slice y.A y.now.length y.c], SL.blk g8 81 #[.int .i64 x.id, .int .i64 x.mode, .int .i64 x.starts, .int .i64 x.cause, .slice x.A x.now.length x.c]] _ HS.out).2 (HR1.out [SL.blk g9 81 #[.int .i64 y.id, .int .i64 y.mode, .int .i64 y.starts, .int .i64 y.cause, .slice y.A y.now.length y.c], SL.blk g8 81 #[.int .i64 x.id, .int .i64 x.mode, .int .i64 x.starts, .int .i64 x.cause, .slice x.A x.now.length x.c]] _ HS.out).1 (HR2.out [SL.blk g9 81 #[.int .i64 y.id, .int .i64 y.mode, .int .i64 y.starts, .int .i64 y.cause, .slice y.A y.now.length y.c], SL.blk g8 81 #[.int .i64 x.id, .int .i64 x.mode, .int .i64 x.starts, .int .i64 x.cause, .slice x.A x.now.length x.c]] _ HS.out).2 (HR2.out [SL.blk g9 81 #[.int .i64 y.id, .int .i64 y.mode, .int .i64 y.starts, .int .i64 y.cause, .slice y.A y.now.length y.c], SL.blk g8 81 #[.int .i64 x.id, .int .i64 x.mode, .int .i64 x.starts, .int .i64 x.cause, .slice x.A x.now.length x.c]] _ HS.out).1 HF.out).mono ?_; rintro e w50_ ⟨rfl, hB⟩; replace HS := Go.Lib.hid (HS.out.then_ hB); clear hB))
      go_roundw
      case rel => exact ⟨k + 1, hlt, by go_num, HS.out.drop.drop⟩
      case measure => simp [intOf]; omega
    · obtain rfl : k = hs1.length := by omega
      go_wp2_with fail
      go_ret
      exact ⟨rfl, HS.out⟩
theorem same_st (h : St l w0 w) (A1 : Option Addr) (c1 : Nat) (hs1 : List SH) (A2 : Option Addr) (c2 : Nat) (hs2 : List SH) (h1 : ShotsAt l w0 A1 hs1) (h2 : ShotsAt l w0 A2 hs2) (hn : hs1.length ≤ 1000) (hm : ∀ x ∈ hs1, x.now.length ≤ 1000000) (heq : hs1.map SH.sem = hs2.map SH.sem) :
    Calls Try.prog 57 #[.slice A1 hs1.length c1, .slice A2 hs2.length c2] w fun e w' => e = .returned (.bool true) ∧ St l w0 w' := by
  have HS := Go.Lib.hid h
  have HM := Go.Lib.hid hm
  have HQ := Go.Lib.hid heq
  clear h hm heq
  go_enter Try.func57, Try.ntmps57
  go_wp2_with fail
  refine (equalF_st HS.out A1 c1 hs1 A2 c2 hs2 h1 h2 hn HM.out HQ.out).mono ?_
  rintro e w9 ⟨rfl, hS⟩
  have HSn := Go.Lib.hid hS
  clear hS
  go_wp2_with fail
  go_ret
  exact ⟨rfl, HSn.out⟩
end Go.Proofs.Ytkmhgolohppliaa.Crw
