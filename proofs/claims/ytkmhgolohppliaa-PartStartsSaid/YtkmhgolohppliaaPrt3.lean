/- A partition in memory: New, Shot, Copy, SameShot. -/
import Derived.Test.YtkmhgolohppliaaPrt2
namespace Go.Proofs.Ytkmhgolohppliaa.Prt
open Go.RowKit Go.Proofs.Ytkmhgolohppliaa.PCellsPlays Go.Proofs.YtkmhgolohppliaaW.PrintWords Go.Proofs.YtkmhgolohppliaaW.PrintLast Go.Proofs.YtkmhgolohppliaaW.PrintMore Go.Proofs.Ytkmhgolohppliaa.Mine Go.Proofs.Ytkmhgolohppliaa.Cel Go.Proofs.Ytkmhgolohppliaa.Cls
open Go.Proofs.Ytkmhgolohppliaa.Sl (SL Stp St No)
open Go.Proofs.Ytkmhgolohppliaa.Mod (strt actM runs right askd)
set_option linter.unusedVariables false
set_option linter.unusedSimpArgs false
attribute [local go_sem] max2_int min2_int max_two min_two max_three min_three max_four min_four
variable {l : List SL} {w0 w : World} {g : Nat} {id : Int} {name : ByteArray} {may : Bool} {fst : List S43} {s : PS}

theorem clone89_st (h : St l w0 w) (A : Option Addr) (n c : Nat) (xs : List S43) (hC : (k43).C w A n xs) (hn : n ≤ 1000000) :
    Calls Try.prog 89 #[.slice A n c] w fun e w' => ∃ A' c', e = .returned (.slice A' xs.length c') ∧ St (SL.row k43 43 (.slice A' xs.length c') xs :: l) w0 w' := by
  refine (clone89_calls A n c xs w hC (by omega)).mono ?_
  rintro e w1 ⟨v, rfl, hR, hB⟩
  have hS := h.row hR hB
  obtain ⟨A', c', rfl, _, _⟩ := hS.rowC 0 rfl
  exact ⟨A', c', rfl, hS⟩

set_option maxHeartbeats 1600000 in
set_option maxRecDepth 100000 in
theorem new_hd (h : St l w0 w) (A : Option Addr) (c : Nat) (hC : k43.C w A fst.length fst) (hn2 : fst.length ≤ 1000) :
    Calls Try.prog 39 #[.agg #[.int .i64 id, .string name, .bool may, .slice A fst.length c]] w fun e w' => ∃ g, e = .returned (.pointer (some ⟨g, 0, none⟩)) ∧ St (part g id name may fst (PS.init fst) :: l) w0 w' := by
  have HC := Go.Lib.hid hC
  have HS := Go.Lib.hid h
  have hn : fst.length ≤ 1000000 := by omega
  have HR5 : Hid (∀ {A5 : Option Addr} {c5 : Nat} {l : List SL} (w : World), St (SL.row k43 43 (.slice A5 fst.length c5) fst :: l) w0 w → k43.C w A5 fst.length fst) := Go.Lib.hid (fun w hS => by
    obtain ⟨A', c', hv, _, hC'⟩ := hS.rowC 0 rfl
    injection hv with q1 _ _
    subst q1
    exact hC')
  clear hC h
  go_enter Try.func39, Try.ntmps39
  go_wp2_with (first | ((with_reducible refine gate_dst (N := 1) rfl ?_); refine Sl.box_st HS.out (by rfl) (cs := #[.int .i64 id, .string name, .bool may, .slice A fst.length c]) (t := 63) ?hr ?_; (case hr => first | (go_simp; done) | (go_simp; rfl)); intro g1 w1_ HSn HBn; have HB1 := Go.Lib.hid HBn; clear HBn; replace HS : Hid (St (SL.blk g1 63 #[.int .i64 id, .string name, .bool may, .slice A fst.length c] :: l) w0 w1_) := Go.Lib.hid HSn; clear HSn; have c0_0 : w1_.cell? ⟨g1, 0, none⟩ = some (.int .i64 id) := HS.out.cell 0 _ _ _ rfl 0; have f0_0 : w1_.frozen? ⟨g1, 0, none⟩ = false := HS.out.free 0 _ _ _ rfl 0; have c0_1 : w1_.cell? ⟨g1, 1, none⟩ = some (.string name) := HS.out.cell 0 _ _ _ rfl 1; have f0_1 : w1_.frozen? ⟨g1, 1, none⟩ = false := HS.out.free 0 _ _ _ rfl 1; have c0_2 : w1_.cell? ⟨g1, 2, none⟩ = some (.bool may) := HS.out.cell 0 _ _ _ rfl 2; have f0_2 : w1_.frozen? ⟨g1, 2, none⟩ = false := HS.out.free 0 _ _ _ rfl 2; have c0_3 : w1_.cell? ⟨g1, 3, none⟩ = some (.slice A fst.length c) := HS.out.cell 0 _ _ _ rfl 3; have f0_3 : w1_.frozen? ⟨g1, 3, none⟩ = false := HS.out.free 0 _ _ _ rfl 3) | (go_at_call 89; refine (clone89_st HS.out A fst.length c fst (Kd.C_below HC.out HB1.out) hn).mono ?_; rintro e w2_ ⟨A5, c5, rfl, HSn⟩; replace HS : Hid (St (SL.row k43 43 (.slice A5 fst.length c5) fst :: SL.blk g1 63 #[.int .i64 id, .string name, .bool may, .slice A fst.length c] :: l) w0 w2_) := Go.Lib.hid HSn; clear HSn; clear c0_0 f0_0 c0_1 f0_1 c0_2 f0_2 c0_3 f0_3; have c1_0 : w2_.cell? ⟨g1, 0, none⟩ = some (.int .i64 id) := HS.out.cell 1 _ _ _ rfl 0; have f1_0 : w2_.frozen? ⟨g1, 0, none⟩ = false := HS.out.free 1 _ _ _ rfl 0; have c1_1 : w2_.cell? ⟨g1, 1, none⟩ = some (.string name) := HS.out.cell 1 _ _ _ rfl 1; have f1_1 : w2_.frozen? ⟨g1, 1, none⟩ = false := HS.out.free 1 _ _ _ rfl 1; have c1_2 : w2_.cell? ⟨g1, 2, none⟩ = some (.bool may) := HS.out.cell 1 _ _ _ rfl 2; have f1_2 : w2_.frozen? ⟨g1, 2, none⟩ = false := HS.out.free 1 _ _ _ rfl 2; have c1_3 : w2_.cell? ⟨g1, 3, none⟩ = some (.slice A fst.length c) := HS.out.cell 1 _ _ _ rfl 3; have f1_3 : w2_.frozen? ⟨g1, 3, none⟩ = false := HS.out.free 1 _ _ _ rfl 3) | ((with_reducible refine gate_store (p := 6) rfl ?_); refine Sl.store_st HS.out 1 g1 63 _ rfl 3 (.slice A5 fst.length c5) (by rfl) (by rfl) ?hr ?_; (case hr => first | (go_simp; done) | (go_simp; rfl)); intro w3_ HSn; replace HS : Hid (St (SL.row k43 43 (.slice A5 fst.length c5) fst :: SL.blk g1 63 #[.int .i64 id, .string name, .bool may, .slice A5 fst.length c5] :: l) w0 w3_) := Go.Lib.hid HSn; clear HSn; clear c1_0 f1_0 c1_1 f1_1 c1_2 f1_2 c1_3 f1_3; have c1_0 : w3_.cell? ⟨g1, 0, none⟩ = some (.int .i64 id) := HS.out.cell 1 _ _ _ rfl 0; have f1_0 : w3_.frozen? ⟨g1, 0, none⟩ = false := HS.out.free 1 _ _ _ rfl 0; have c1_1 : w3_.cell? ⟨g1, 1, none⟩ = some (.string name) := HS.out.cell 1 _ _ _ rfl 1; have f1_1 : w3_.frozen? ⟨g1, 1, none⟩ = false := HS.out.free 1 _ _ _ rfl 1; have c1_2 : w3_.cell? ⟨g1, 2, none⟩ = some (.bool may) := HS.out.cell 1 _ _ _ rfl 2; have f1_2 : w3_.frozen? ⟨g1, 2, none⟩ = false := HS.out.free 1 _ _ _ rfl 2; have c1_3 : w3_.cell? ⟨g1, 3, none⟩ = some (.slice A5 fst.length c5) := HS.out.cell 1 _ _ _ rfl 3; have f1_3 : w3_.frozen? ⟨g1, 3, none⟩ = false := HS.out.free 1 _ _ _ rfl 3))
  clear c1_0 f1_0 c1_1 f1_1 c1_2 f1_2 c1_3 f1_3
  replace HS := Go.Lib.hid HS.out.drew
  refine start_ (n := 8) (S := fun w' => w'.cell? ⟨g1, 0, none⟩ = some (.int .i64 id) ∧ w'.cell? ⟨g1, 1, none⟩ = some (.string name) ∧ w'.cell? ⟨g1, 2, none⟩ = some (.bool may) ∧ w'.cell? ⟨g1, 3, none⟩ = some (.slice A5 fst.length c5)) (ds := []) #[false, false, false, false, false, false, false, false] (by kernel_rfl) rfl rfl ⟨HS.out.cell 1 _ _ _ rfl 0, HS.out.cell 1 _ _ _ rfl 1, HS.out.cell 1 _ _ _ rfl 2, HS.out.cell 1 _ _ _ rfl 3⟩ (fun hHeld => ?_)
  generalize w3_.drew = W_ at *
  refine pure_ (i := 0) (N := some 7) (v := ?_) (a' := ?_) #[true, false, false, false, false, false, false, false] rfl rfl (by kernel_rfl) (fun _ _ _ h => h) (Or.inl ⟨by rfl, ?_⟩) ?_ ?_
  rotate_left
  · intro w'
    go_simp
    with_reducible rfl
  rotate_left
  · simp only [Act.put, List.setIfInBounds_toArray, List.set_cons_zero, List.set_cons_succ, i64_w, i32_w]
    rfl
  refine pure_ (i := 2) (N := some 9) (v := ?_) (a' := ?_) #[true, false, true, false, false, false, false, false] rfl rfl (by kernel_rfl) (fun _ _ _ h => h) (Or.inl ⟨by rfl, ?_⟩) ?_ ?_
  rotate_left
  · intro w'
    go_simp
    with_reducible rfl
  rotate_left
  · simp only [Act.put, List.setIfInBounds_toArray, List.set_cons_zero, List.set_cons_succ, i64_w, i32_w]
    rfl
  refine take_ (i := 1) (N := some 8) (v := ?_) (a' := ?_) #[true, true, true, false, false, false, false, false] rfl rfl (by kernel_rfl) (fun _ _ _ h => h) (Or.inl ⟨by rfl, ?_⟩) hHeld ?_ ?_
  rotate_left
  · rintro w' ⟨s0, s1, s2, s3⟩
    go_simp
    with_reducible rfl
  rotate_left
  · simp only [Act.put, List.setIfInBounds_toArray, List.set_cons_zero, List.set_cons_succ, i64_w, i32_w]
    rfl
  refine take_ (i := 3) (N := some 10) (v := ?_) (a' := ?_) #[true, true, true, true, false, false, false, false] rfl rfl (by kernel_rfl) (fun _ _ _ h => h) (Or.inl ⟨by rfl, ?_⟩) hHeld ?_ ?_
  rotate_left
  · rintro w' ⟨s0, s1, s2, s3⟩
    go_simp
    with_reducible rfl
  rotate_left
  · simp only [Act.put, List.setIfInBounds_toArray, List.set_cons_zero, List.set_cons_succ, i64_w, i32_w]
    rfl
  refine one_ (i := 4) (N := some 11) #[true, true, true, true, true, false, false, false] rfl rfl (by kernel_rfl) (by decide) (fun K hK => ?_)
  refine goes_ Try.func23 (by kernel_rfl) rfl #[.slice A5 fst.length c5] (by rfl) rfl rfl (by (try simp only [List.map_toArray, List.map_cons, List.map_nil]); first | done | rfl) ?_
  refine (new_st HS.out A5 c5 (HR5.out _ HS.out) hn2).mono ?_
  rintro e w91 ⟨cg, rfl, hS91⟩
  have HS91 := Go.Lib.hid hS91
  clear hS91
  refine ⟨_, rfl, ?_⟩
  refine hK.out _ _ ⟨HS91.out.cell 2 _ _ _ rfl 0, HS91.out.cell 2 _ _ _ rfl 1, HS91.out.cell 2 _ _ _ rfl 2, HS91.out.cell 2 _ _ _ rfl 3⟩ (fun hHeld => ?_)
  clear hK K
  refine norm_ (a' := ?_) ?_ ?_
  rotate_left
  · show Act.put _ (some 11) _ = _
    simp only [Act.put, List.setIfInBounds_toArray, List.set_cons_zero, List.set_cons_succ, i64_w, i32_w]
    rfl
  refine pure_ (i := 5) (N := some 12) (v := ?_) (a' := ?_) #[true, true, true, true, true, true, false, false] rfl rfl (by kernel_rfl) (fun _ _ _ h => h) (Or.inl ⟨by rfl, ?_⟩) ?_ ?_
  rotate_left
  · intro w'
    go_simp
    with_reducible rfl
  rotate_left
  · simp only [Act.put, List.setIfInBounds_toArray, List.set_cons_zero, List.set_cons_succ, i64_w, i32_w]
    rfl
  refine one_ (i := 6) (N := some 13) #[true, true, true, true, true, true, true, false] rfl rfl (by kernel_rfl) (by decide) (fun K hK => ?_)
  refine Sl.box_stp HS91.out (by rfl) (cs := #[.int .i64 1, .int .i64 1, .int .i64 0, .int .i64 id, .string name, .bool may, .slice A5 fst.length c5, .pointer (some ⟨cg, 0, none⟩)]) (t := 73) ?hr ?_
  case hr => first | (go_simp; done) | (go_simp; rfl)
  intro g2 w92 hS92 hB92
  have HS92 := Go.Lib.hid hS92
  clear hS92 hB92
  refine hK.out _ _ ⟨HS92.out.cell 3 _ _ _ rfl 0, HS92.out.cell 3 _ _ _ rfl 1, HS92.out.cell 3 _ _ _ rfl 2, HS92.out.cell 3 _ _ _ rfl 3⟩ (fun hHeld => ?_)
  clear hK K
  refine norm_ (a' := ?_) ?_ ?_
  rotate_left
  · show Act.put _ (some 13) _ = _
    simp only [Act.put, List.setIfInBounds_toArray, List.set_cons_zero, List.set_cons_succ, i64_w, i32_w]
    rfl
  refine pure_ (i := 7) (N := some 2) (v := ?_) (a' := ?_) #[true, true, true, true, true, true, true, true] rfl rfl (by kernel_rfl) (fun _ _ _ h => h) (Or.inl ⟨by rfl, ?_⟩) ?_ ?_
  rotate_left
  · intro w'
    go_simp
    with_reducible rfl
  rotate_left
  · simp only [Act.put, List.setIfInBounds_toArray, List.set_cons_zero, List.set_cons_succ, i64_w, i32_w]
    rfl
  refine done_ (by kernel_rfl) ?_
  go_wp2_with fail
  go_ret
  exact ⟨_, rfl, shut_part (s := PS.init fst) ((HS92.out.erase 2).erase 2)⟩
theorem new_lit {A8 : Option Addr} {c8 : Nat} (h : St (SL.row k43 43 (.slice A8 1 c8) [⟨5, false⟩] :: l) w0 w) :
    Calls Try.prog 39 #[.agg #[.int .i64 0, .string ⟨#[]⟩, .bool false, .slice A8 1 c8]] w fun e w' => ∃ g, e = .returned (.pointer (some ⟨g, 0, none⟩)) ∧ St (part g 0 ⟨#[]⟩ false [⟨5, false⟩] ⟨1, 1, 0, [5], 0⟩ :: SL.row k43 43 (.slice A8 1 c8) [⟨5, false⟩] :: l) w0 w' := by
  obtain ⟨A', c', hv, _, hC⟩ := h.rowC 0 rfl
  injection hv with q1 _ _
  subst q1
  exact new_hd (fst := [⟨5, false⟩]) h A8 c8 hC (by decide)
theorem setMode_3 {A8 : Option Addr} {c8 : Nat} (h : St (part g 0 ⟨#[]⟩ false [⟨5, false⟩] ⟨1, 1, 0, [9], 1⟩ :: SL.row k43 43 (.slice A8 1 c8) [⟨5, false⟩] :: l) w0 w) :
    Calls Try.prog 40 #[.pointer (some ⟨g, 0, none⟩), .int .i64 3] w fun e w' => e = .returned (.int .i64 0) ∧ St (part g 0 ⟨#[]⟩ false [⟨5, false⟩] ⟨3, 1, 0, [9], 1⟩ :: SL.row k43 43 (.slice A8 1 c8) [⟨5, false⟩] :: l) w0 w' :=
  setMode_hd (s := ⟨1, 1, 0, [9], 1⟩) h 3 (by decide) (by decide) (by decide)
set_option maxHeartbeats 1600000 in
set_option maxRecDepth 100000 in
theorem awake_st (h : St l w0 w) : Calls Try.prog 38 #[] w fun e w' => e = .returned (.bool true) ∧ St l w0 w' := by
  have HS := Go.Lib.hid h
  clear h
  go_enter Try.func38, Try.ntmps38
  go_wp2_with (first | ((with_reducible refine gate_dst (N := 8) rfl ?_); refine Sl.lit_st (k43) (flat_iso (flat_pair (flat_int .u32) flat_bool)) HS.out 43 (by rfl) (xs := ([⟨5, false⟩] : List S43)) (inner := [.int .u32 5, .bool false]) ?hr ?hp ?hm ?_; (case hr => first | (go_simp; done) | (go_simp; rfl)); (case hp => exact Reps.snoc (Reps.none _ _) (k43_mk _ ⟨5, false⟩) rfl); (case hm => first | decide | (simp; done)); intro v8_ w1_ HSn; obtain ⟨A8, c8, hv8, _⟩ := HSn.rowC 0 rfl; subst hv8; replace HS : Hid (St (SL.row k43 43 (.slice A8 1 c8) [⟨5, false⟩] :: l) w0 w1_) := Go.Lib.hid HSn; clear HSn) | (go_at_call 39; refine (new_lit HS.out).mono ?_; rintro e w2_ ⟨g, rfl, HSn⟩; replace HS : Hid (St (part g 0 ⟨#[]⟩ false [⟨5, false⟩] ⟨1, 1, 0, [5], 0⟩ :: SL.row k43 43 (.slice A8 1 c8) [⟨5, false⟩] :: l) w0 w2_) := Go.Lib.hid HSn; clear HSn) | (go_at_call 42; refine ((write_hd (s := ⟨1, 1, 0, [5], 0⟩) HS.out 0 9 (by decide) (by decide) : Calls Try.prog 42 #[.pointer (some ⟨g, 0, none⟩), .int .i64 0, .int .u32 9] _ fun e w' => e = .returned (.int .i64 0) ∧ St (part g 0 ⟨#[]⟩ false [⟨5, false⟩] ⟨1, 1, 0, [9], 1⟩ :: SL.row k43 43 (.slice A8 1 c8) [⟨5, false⟩] :: l) w0 w')).mono ?_; rintro e w3_ ⟨rfl, HSn⟩; replace HS : Hid (St (part g 0 ⟨#[]⟩ false [⟨5, false⟩] ⟨1, 1, 0, [9], 1⟩ :: SL.row k43 43 (.slice A8 1 c8) [⟨5, false⟩] :: l) w0 w3_) := Go.Lib.hid HSn; clear HSn))
  refine (setMode_3 HS.out).mono ?_
  rintro e w4_ ⟨rfl, HSn⟩
  replace HS : Hid (St (part g 0 ⟨#[]⟩ false [⟨5, false⟩] ⟨3, 1, 0, [9], 1⟩ :: SL.row k43 43 (.slice A8 1 c8) [⟨5, false⟩] :: l) w0 w4_) := Go.Lib.hid HSn
  clear HSn
  go_wp2_with fail
  refine ((setMode_hd (s := ⟨3, 1, 0, [9], 1⟩) HS.out 1 (by decide) (by decide) (by decide) : Calls Try.prog 40 #[.pointer (some ⟨g, 0, none⟩), .int .i64 1] _ fun e w' => e = .returned (.int .i64 0) ∧ St (part g 0 ⟨#[]⟩ false [⟨5, false⟩] ⟨1, 2, 1, [5], 0⟩ :: SL.row k43 43 (.slice A8 1 c8) [⟨5, false⟩] :: l) w0 w')).mono ?_
  rintro e w5_ ⟨rfl, HSn⟩
  replace HS : Hid (St (part g 0 ⟨#[]⟩ false [⟨5, false⟩] ⟨1, 2, 1, [5], 0⟩ :: SL.row k43 43 (.slice A8 1 c8) [⟨5, false⟩] :: l) w0 w5_) := Go.Lib.hid HSn
  clear HSn
  go_wp2_with (first | (go_at_call 98; refine ((read_hd (s := ⟨1, 2, 1, [5], 0⟩) HS.out 0 : Calls Try.prog 98 #[.pointer (some ⟨g, 0, none⟩), .int .i64 0] _ fun e w' => e = .returned (.tuple #[.int .u32 5, .int .i64 0]) ∧ St (part g 0 ⟨#[]⟩ false [⟨5, false⟩] ⟨1, 2, 1, [5], 0⟩ :: SL.row k43 43 (.slice A8 1 c8) [⟨5, false⟩] :: l) w0 w')).mono ?_; rintro e w6_ ⟨rfl, HSn⟩; replace HS : Hid (St (part g 0 ⟨#[]⟩ false [⟨5, false⟩] ⟨1, 2, 1, [5], 0⟩ :: SL.row k43 43 (.slice A8 1 c8) [⟨5, false⟩] :: l) w0 w6_) := Go.Lib.hid HSn; clear HSn) | (go_at_call 53; refine (mode_st (s := ⟨1, 2, 1, [5], 0⟩) HS.out 0 rfl).mono ?_; rintro e w' ⟨rfl, rfl⟩) | (go_at_call 43; refine (starts_st (s := ⟨1, 2, 1, [5], 0⟩) HS.out 0 rfl).mono ?_; rintro e w' ⟨rfl, rfl⟩))
  go_ret
  exact ⟨rfl, HS.out.drop.drop⟩
end Go.Proofs.Ytkmhgolohppliaa.Prt
