/- crew.New. -/
import Derived.Test.YtkmhgolohppliaaCrwA
import Derived.IntWalk
namespace Go.Proofs.Ytkmhgolohppliaa.Crw
open Go.RowKit Go.Proofs.Ytkmhgolohppliaa.PCellsPlays Go.Proofs.YtkmhgolohppliaaW.PrintWords Go.Proofs.YtkmhgolohppliaaW.PrintLast Go.Proofs.YtkmhgolohppliaaW.PrintMore Go.Proofs.Ytkmhgolohppliaa.Mine Go.Proofs.Ytkmhgolohppliaa.Cel Go.Proofs.Ytkmhgolohppliaa.Cls
open Go.Proofs.Ytkmhgolohppliaa.Prt (PS new_hd setMode_at act_at write_at shot_at id_st)
open Go.Proofs.Ytkmhgolohppliaa.Sl (SL Stp Chg St No wpc_seal wpc_round sealed MK look)
open Go.Proofs.YtkmhgolohppliaaW.PrintWords (results_list Vals)
set_option linter.unusedVariables false
set_option linter.unusedSimpArgs false
attribute [local go_sem] max2_int min2_int max_two min_two max_three min_three max_four min_four
set_option maxHeartbeats 6400000 in
set_option maxRecDepth 100000 in
theorem crew_new {l : List SL} {w0 w : World} (h : St l w0 w) (AL : Option Addr) (cl : Nat) (xs : List S63) (hpa : PartsAt l w0 AL xs) (hn : xs.length ≤ 1000) (hf : ∀ x ∈ xs, x.f3.length ≤ 1000) (hwf : ∀ x ∈ xs, (Lit.int .i64 x.f0).wf = true) :
    Calls Try.prog 59 #[.slice AL xs.length cl] w (CrewPost l w0 xs) := by
  have HS := Go.Lib.hid h
  have HPA := Go.Lib.hid hpa
  have HF := Go.Lib.hid hf
  have HWF := Go.Lib.hid hwf
  clear h hpa hf hwf
  go_enter Try.func59, Try.ntmps59
  go_wp2_with (first | ((with_reducible refine gate_dst (N := 7) rfl ?_); refine Sl.map_st KI HS.out (by rfl) ?hr ?_; (case hr => first | (go_simp; done) | (go_simp; rfl)); intro bm w1_ HSn HBn; clear HBn; replace HS : Hid (St (SL.map KI bm (mapC []) :: l) w0 w1_) := Go.Lib.hid HSn; clear HSn) | ((with_reducible refine gate_dst (N := 9) rfl ?_); refine Sl.box_st HS.out (by rfl) (cs := #[.slice none 0 0, .map (some bm)]) (t := 188) ?hr ?_; (case hr => first | (go_simp; done) | (go_simp; rfl)); intro gc w2_ HSn HBn; clear HBn; replace HS : Hid (St (SL.blk gc 188 #[.slice none 0 0, .map (some bm)] :: SL.map KI bm (mapC []) :: l) w0 w2_) := Go.Lib.hid HSn; clear HSn; obtain ⟨c0_0, c0_1⟩ := HS.out.c2 0 _ _ _ _ rfl))
  clear c0_0 c0_1
  replace HS : Hid (St (SL.blk gc 188 #[.slice none ([] : List Int).length 0, .map (some bm)] :: SL.row (Kd.int .i64) 3 (.slice none ([] : List Int).length 0) [] :: SL.map KI bm (mapC []) :: (partsL [] ++ l)) w0 w2_) := Go.Lib.hid ((HS.out.nilrow (Kd.int .i64) 3).swap)
  go_loopw [12] (fun i wr => ∃ (k : Nat) (A : Option Addr) (c : Nat) (ids : List Int) (ps : List CP), k ≤ xs.length ∧ i = .int .i64 k ∧ Rise xs k ∧ ps.map (·.p) = xs.take k ∧ ids = idsC ps ∧ (∀ x ∈ ps, x.s = PS.init x.p.f3) ∧ St (SL.blk gc 188 #[.slice A ids.length c, .map (some bm)] :: SL.row (Kd.int .i64) 3 (.slice A ids.length c) ids :: SL.map KI bm (mapC ps) :: (partsL ps ++ l)) w0 wr) (fun i _ => xs.length - (intOf i).toNat)
  case atStart => exact ⟨0, none, 0, [], [], Nat.zero_le _, rfl, fun i hi => by omega, rfl, rfl, (fun x hx => by cases hx), HS.out⟩
  case round =>
    clear HS
    obtain ⟨k, A, c, ids, ps, hk, rfl, hri, hps, hids, hin, hS⟩ := hrel
    have HS := Go.Lib.hid hS
    have HRI := Go.Lib.hid hri
    have HPS := Go.Lib.hid hps
    have HID := Go.Lib.hid hids
    have HIN := Go.Lib.hid hin
    have hpl : ps.length = k := by rw [← List.length_map (f := fun x : CP => x.p), hps, List.length_take]; omega
    have hil : ids.length ≤ 1000 := by rw [hids]; unfold idsC; rw [List.length_map]; omega
    have HPL : Hid ((mapC ps).length < maxLen) := Go.Lib.hid (by rw [mapC_len]; unfold maxLen; omega)
    clear hS hri hps hids hin hpl
    by_cases hlt : k < xs.length
    · obtain ⟨ad, A3, c3, rfl, l3, hrd⟩ := HPA.out k hlt
      have hm : xs.getD k z63 ∈ xs := by rw [List.getD_eq_getElem?_getD, List.getElem?_eq_getElem hlt]; exact List.getElem_mem hlt
      have hf3 := HF.out _ hm
      have hwx := HWF.out _ hm
      have htk : xs.take (k + 1) = xs.take k ++ [xs.getD k z63] := by rw [List.take_succ_eq_append_getElem hlt, List.getD_eq_getElem?_getD, List.getElem?_eq_getElem hlt]; rfl
      have hprev : 0 < k → wr.cell? (ad.add ((k - 1) * 4)) = some (.int .i64 (xs.getD (k - 1) z63).f0) := by
        intro h0
        obtain ⟨ad2, _, _, hae, _, hrd2⟩ := HPA.out (k - 1) (by omega)
        obtain rfl := Option.some.inj hae
        exact (hrd2 (_ :: _ :: _ :: partsL ps) wr HS.out).1
      have HRN : Hid (0 < k → (xs.getD (k - 1) z63).f0 < (xs.getD k z63).f0 → Rise xs (k + 1)) := Go.Lib.hid (fun h0 h1 i hi => by rcases Nat.lt_or_ge (i + 1) k with q | q; exact HRI.out i q; obtain rfl : i = k - 1 := (by omega); rw [show k - 1 + 1 = k by omega]; exact h1)
      have HRX : Hid (0 < k → ¬ (xs.getD (k - 1) z63).f0 < (xs.getD k z63).f0 → ¬ Rise xs xs.length) := Go.Lib.hid (fun h0 h1 h2 => h1 (by have h3 := h2 (k - 1) (by omega); rwa [show k - 1 + 1 = k by omega] at h3))
      obtain ⟨y, hy⟩ : ∃ y, y = (xs.getD (k - 1) z63).f0 := ⟨_, rfl⟩
      rw [← hy] at hprev HRN HRX
      clear hy
      generalize xs.getD k z63 = x at *
      have HTK := Go.Lib.hid htk
      have HRD := Go.Lib.hid hrd
      have HWX : Hid (KI.ok x.f0) := Go.Lib.hid hwx
      have HPV := Go.Lib.hid hprev
      obtain ⟨g0, g1, g2, g3, _⟩ := hrd (_ :: _ :: _ :: partsL ps) wr HS.out; have HSW := Go.Lib.hid HS.out
      clear htk hrd hm hwx hprev
      go_upto_region 5 with (first | ((with_reducible refine gate_dst (N := 6) rfl ?_); refine Sl.box_st HS.out (by rfl) (cs := #[.int .i64 0, .string ⟨#[]⟩, .bool false, .slice none 0 0]) (t := 63) ?hr ?_; (case hr => first | (go_simp; done) | (go_simp; rfl)); intro g6 w21_ HSn HBn; clear HBn; replace HS : Hid (St (SL.blk g6 63 #[.int .i64 0, .string ⟨#[]⟩, .bool false, .slice none 0 0] :: SL.blk gc 188 #[.slice A ids.length c, .map (some bm)] :: SL.row (Kd.int .i64) 3 (.slice A ids.length c) ids :: SL.map KI bm (mapC ps) :: (partsL ps ++ l)) w0 w21_) := Go.Lib.hid HSn; clear HSn; obtain ⟨c0_0, c0_1, c0_2, c0_3⟩ := HS.out.c4 0 _ _ _ _ _ _ rfl; obtain ⟨c1_0, c1_1⟩ := HS.out.c2 1 _ _ _ _ rfl) | ((with_reducible refine gate_store (p := 6) rfl ?_); refine Sl.storeAll_st HS.out 0 g6 63 _ rfl [.int .i64 x.f0, .string x.f1, .bool x.f2, .slice A3 x.f3.length c3] rfl (by rfl) (by rfl) ?hr ?_; (case hr => have f_ := HS.out.f4 0 _ _ _ _ _ _ rfl; (try obtain ⟨f0, f1, f2, f3⟩ := f_); first | (go_simp; done) | (go_simp; rfl)); intro w22_ HSn; replace HS : Hid (St (SL.blk g6 63 #[.int .i64 x.f0, .string x.f1, .bool x.f2, .slice A3 x.f3.length c3] :: SL.blk gc 188 #[.slice A ids.length c, .map (some bm)] :: SL.row (Kd.int .i64) 3 (.slice A ids.length c) ids :: SL.map KI bm (mapC ps) :: (partsL ps ++ l)) w0 w22_) := Go.Lib.hid HSn; clear HSn; clear c0_0 c0_1 c0_2 c0_3 c1_0 c1_1; obtain ⟨c0_0, c0_1, c0_2, c0_3⟩ := HS.out.c4 0 _ _ _ _ _ _ rfl; obtain ⟨c1_0, c1_1⟩ := HS.out.c2 1 _ _ _ _ rfl))
      clear g0 g1 g2 g3 c0_0 c0_1 c0_2 c0_3 c1_0 c1_1
      replace HS := Go.Lib.hid HS.out.drew
      by_cases h0 : k = 0
      · subst h0
        clear HPV HRN HRX
        refine start_ (n := 13) (S := fun w' => w'.cell? ⟨g6, 0, none⟩ = some (.int .i64 x.f0) ∧ w'.cell? ⟨g6, 1, none⟩ = some (.string x.f1) ∧ w'.cell? ⟨g6, 2, none⟩ = some (.bool x.f2) ∧ w'.cell? ⟨g6, 3, none⟩ = some (.slice A3 x.f3.length c3)) (ds := []) #[false, false, false, false, false, false, false, false, false, false, false, false, false] (by kernel_rfl) rfl rfl (HS.out.c4 0 _ _ _ _ _ _ rfl) (fun hHeld => ?_)
        generalize w22_.drew = W_ at *
        refine pure_ (i := 0) (N := some 17) (v := ?_) (a' := ?_) #[true, false, false, false, false, false, false, false, false, false, false, false, false] rfl rfl (by kernel_rfl) (fun _ _ _ h => h) (Or.inl ⟨by rfl, ?_⟩) ?_ ?_
        rotate_left
        · intro w'
          go_simp
          with_reducible rfl
        rotate_left
        · simp only [Act.put, List.setIfInBounds_toArray, List.set_cons_zero, List.set_cons_succ, i64_w, i32_w]
          rfl
        refine pure_ (i := 1) (N := some 18) (v := ?_) (a' := ?_) #[true, true, false, false, false, false, false, false, false, false, false, false, false] rfl rfl (by kernel_rfl) (fun _ _ _ h => h) (Or.inl ⟨by rfl, ?_⟩) ?_ ?_
        rotate_left
        · intro w'
          go_simp
          with_reducible rfl
        rotate_left
        · simp only [Act.put, List.setIfInBounds_toArray, List.set_cons_zero, List.set_cons_succ, i64_w, i32_w]
          rfl
        refine pure_ (i := 2) (N := some 19) (v := ?_) (a' := ?_) #[true, true, true, false, false, false, false, false, false, false, false, false, false] rfl rfl (by kernel_rfl) (fun _ _ _ h => h) (Or.inl ⟨by rfl, ?_⟩) ?_ ?_
        rotate_left
        · intro w'
          go_simp
          with_reducible rfl
        rotate_left
        · simp only [Act.put, List.setIfInBounds_toArray, List.set_cons_zero, List.set_cons_succ, i64_w, i32_w]
          rfl
        refine pure_ (i := 3) (N := some 20) (v := undef) (a' := ?_) #[true, true, true, true, false, false, false, false, false, false, false, false, false] rfl rfl (by kernel_rfl) (fun _ _ _ h => h) (Or.inr ⟨by rfl, rfl⟩) ?_ ?_
        rotate_left
        · show _ = _
          simp only [Act.put, List.setIfInBounds_toArray, List.set_cons_zero, List.set_cons_succ, i64_w, i32_w]
          rfl
        refine pure_ (i := 4) (N := some 21) (v := undef) (a' := ?_) #[true, true, true, true, true, false, false, false, false, false, false, false, false] rfl rfl (by kernel_rfl) (fun _ _ _ h => h) (Or.inr ⟨by rfl, rfl⟩) ?_ ?_
        rotate_left
        · show _ = _
          simp only [Act.put, List.setIfInBounds_toArray, List.set_cons_zero, List.set_cons_succ, i64_w, i32_w]
          rfl
        refine pure_ (i := 5) (N := some 22) (v := undef) (a' := ?_) #[true, true, true, true, true, true, false, false, false, false, false, false, false] rfl rfl (by kernel_rfl) (fun _ _ _ h => h) (Or.inr ⟨by rfl, rfl⟩) ?_ ?_
        rotate_left
        · show _ = _
          simp only [Act.put, List.setIfInBounds_toArray, List.set_cons_zero, List.set_cons_succ, i64_w, i32_w]
          rfl
        refine pure_ (i := 6) (N := some 23) (v := undef) (a' := ?_) #[true, true, true, true, true, true, true, false, false, false, false, false, false] rfl rfl (by kernel_rfl) (fun _ _ _ h => h) (Or.inr ⟨by rfl, rfl⟩) ?_ ?_
        rotate_left
        · show _ = _
          simp only [Act.put, List.setIfInBounds_toArray, List.set_cons_zero, List.set_cons_succ, i64_w, i32_w]
          rfl
        refine pure_ (i := 7) (N := some 24) (v := undef) (a' := ?_) #[true, true, true, true, true, true, true, true, false, false, false, false, false] rfl rfl (by kernel_rfl) (fun _ _ _ h => h) (Or.inr ⟨by rfl, rfl⟩) ?_ ?_
        rotate_left
        · show _ = _
          simp only [Act.put, List.setIfInBounds_toArray, List.set_cons_zero, List.set_cons_succ, i64_w, i32_w]
          rfl
        refine pure_ (i := 8) (N := some 25) (v := undef) (a' := ?_) #[true, true, true, true, true, true, true, true, true, false, false, false, false] rfl rfl (by kernel_rfl) (fun _ _ _ h => h) (Or.inr ⟨by rfl, rfl⟩) ?_ ?_
        rotate_left
        · show _ = _
          simp only [Act.put, List.setIfInBounds_toArray, List.set_cons_zero, List.set_cons_succ, i64_w, i32_w]
          rfl
        refine pure_ (i := 9) (N := some 26) (v := undef) (a' := ?_) #[true, true, true, true, true, true, true, true, true, true, false, false, false] rfl rfl (by kernel_rfl) (fun _ _ _ h => h) (Or.inr ⟨by rfl, rfl⟩) ?_ ?_
        rotate_left
        · show _ = _
          simp only [Act.put, List.setIfInBounds_toArray, List.set_cons_zero, List.set_cons_succ, i64_w, i32_w]
          rfl
        refine pure_ (i := 10) (N := some 27) (v := undef) (a' := ?_) #[true, true, true, true, true, true, true, true, true, true, true, false, false] rfl rfl (by kernel_rfl) (fun _ _ _ h => h) (Or.inr ⟨by rfl, rfl⟩) ?_ ?_
        rotate_left
        · show _ = _
          simp only [Act.put, List.setIfInBounds_toArray, List.set_cons_zero, List.set_cons_succ, i64_w, i32_w]
          rfl
        refine pure_ (i := 11) (N := some 28) (v := undef) (a' := ?_) #[true, true, true, true, true, true, true, true, true, true, true, true, false] rfl rfl (by kernel_rfl) (fun _ _ _ h => h) (Or.inr ⟨by rfl, rfl⟩) ?_ ?_
        rotate_left
        · show _ = _
          simp only [Act.put, List.setIfInBounds_toArray, List.set_cons_zero, List.set_cons_succ, i64_w, i32_w]
          rfl
        refine pure_ (i := 12) (N := some 29) (v := ?_) (a' := ?_) #[true, true, true, true, true, true, true, true, true, true, true, true, true] rfl rfl (by kernel_rfl) (fun _ _ _ h => h) (Or.inl ⟨by rfl, ?_⟩) ?_ ?_
        rotate_left
        · intro w'
          go_simp
          with_reducible rfl
        rotate_left
        · simp only [Act.put, List.setIfInBounds_toArray, List.set_cons_zero, List.set_cons_succ, i64_w, i32_w]
          rfl
        refine done_ (by kernel_rfl) ?_
        go_upto_region 7 with (fail)
        replace HS := Go.Lib.hid HS.out.drew
        refine start_ (n := 12) (S := fun w' => w'.cell? ⟨g6, 0, none⟩ = some (.int .i64 x.f0) ∧ w'.cell? ⟨g6, 1, none⟩ = some (.string x.f1) ∧ w'.cell? ⟨g6, 2, none⟩ = some (.bool x.f2) ∧ w'.cell? ⟨g6, 3, none⟩ = some (.slice A3 x.f3.length c3) ∧ w'.cell? ⟨gc, 0, none⟩ = some (.slice A ids.length c) ∧ w'.cell? ⟨gc, 1, none⟩ = some (.map (some bm))) (ds := [11]) #[false, false, false, false, false, false, false, false, false, false, false, false] (by kernel_rfl) rfl rfl ⟨(HS.out.c4 0 _ _ _ _ _ _ rfl).1, (HS.out.c4 0 _ _ _ _ _ _ rfl).2.1, (HS.out.c4 0 _ _ _ _ _ _ rfl).2.2.1, (HS.out.c4 0 _ _ _ _ _ _ rfl).2.2.2, (HS.out.c2 1 _ _ _ _ rfl).1, (HS.out.c2 1 _ _ _ _ rfl).2⟩ (fun hHeld => ?_)
        generalize W_.drew = W2_ at *
        refine pure_ (i := 0) (N := some 30) (v := ?_) (a' := ?_) #[true, false, false, false, false, false, false, false, false, false, false, false] rfl rfl (by kernel_rfl) (fun _ _ _ h => h) (Or.inl ⟨by rfl, ?_⟩) ?_ ?_
        rotate_left
        · intro w'
          go_simp
          with_reducible rfl
        rotate_left
        · simp only [Act.put, List.setIfInBounds_toArray, List.set_cons_zero, List.set_cons_succ, i64_w, i32_w]
          rfl
        refine pure_ (i := 1) (N := some 31) (v := ?_) (a' := ?_) #[true, true, false, false, false, false, false, false, false, false, false, false] rfl rfl (by kernel_rfl) (fun _ _ _ h => h) (Or.inl ⟨by rfl, ?_⟩) ?_ ?_
        rotate_left
        · intro w'
          go_simp
          with_reducible rfl
        rotate_left
        · simp only [Act.put, List.setIfInBounds_toArray, List.set_cons_zero, List.set_cons_succ, i64_w, i32_w]
          rfl
        refine pure_ (i := 2) (N := some 32) (v := ?_) (a' := ?_) #[true, true, true, false, false, false, false, false, false, false, false, false] rfl rfl (by kernel_rfl) (fun _ _ _ h => h) (Or.inl ⟨by rfl, ?_⟩) ?_ ?_
        rotate_left
        · intro w'
          go_simp
          with_reducible rfl
        rotate_left
        · simp only [Act.put, List.setIfInBounds_toArray, List.set_cons_zero, List.set_cons_succ, i64_w, i32_w]
          rfl
        refine pure_ (i := 3) (N := some 33) (v := ?_) (a' := ?_) #[true, true, true, true, false, false, false, false, false, false, false, false] rfl rfl (by kernel_rfl) (fun _ _ _ h => h) (Or.inl ⟨by rfl, ?_⟩) ?_ ?_
        rotate_left
        · intro w'
          go_simp
          with_reducible rfl
        rotate_left
        · simp only [Act.put, List.setIfInBounds_toArray, List.set_cons_zero, List.set_cons_succ, i64_w, i32_w]
          rfl
        refine pure_ (i := 5) (N := some 35) (v := ?_) (a' := ?_) #[true, true, true, true, false, true, false, false, false, false, false, false] rfl rfl (by kernel_rfl) (fun _ _ _ h => h) (Or.inl ⟨by rfl, ?_⟩) ?_ ?_
        rotate_left
        · intro w'
          go_simp
          with_reducible rfl
        rotate_left
        · simp only [Act.put, List.setIfInBounds_toArray, List.set_cons_zero, List.set_cons_succ, i64_w, i32_w]
          rfl
        refine take_ (i := 4) (N := some 34) (v := ?_) (a' := ?_) #[true, true, true, true, true, true, false, false, false, false, false, false] rfl rfl (by kernel_rfl) (fun _ _ _ h => h) (Or.inl ⟨by rfl, ?_⟩) hHeld ?_ ?_
        rotate_left
        · rintro w' ⟨s0, s1, s2, s3, s4, s5⟩
          go_simp
          with_reducible rfl
        rotate_left
        · simp only [Act.put, List.setIfInBounds_toArray, List.set_cons_zero, List.set_cons_succ, i64_w, i32_w]
          rfl
        refine take_ (i := 6) (N := some 36) (v := ?_) (a' := ?_) #[true, true, true, true, true, true, true, false, false, false, false, false] rfl rfl (by kernel_rfl) (fun _ _ _ h => h) (Or.inl ⟨by rfl, ?_⟩) hHeld ?_ ?_
        rotate_left
        · rintro w' ⟨s0, s1, s2, s3, s4, s5⟩
          go_simp
          with_reducible rfl
        rotate_left
        · simp only [Act.put, List.setIfInBounds_toArray, List.set_cons_zero, List.set_cons_succ, i64_w, i32_w]
          rfl
        refine one_ (i := 7) (N := some 37) #[true, true, true, true, true, true, true, true, false, false, false, false] rfl rfl (by kernel_rfl) (by decide) (fun K hK => ?_)
        refine event_step (by rfl) (w1 := W2_.alloc (.cells #[.int .i64 x.f0] 3)) (v := .slice (some ⟨W2_.heap.size, 0, none⟩) 1 1) (by first | (go_simp; done) | (go_simp; rfl)) ?_
        refine hK.out _ _ ⟨((HS.out.alloc _).c4 0 _ _ _ _ _ _ rfl).1, ((HS.out.alloc _).c4 0 _ _ _ _ _ _ rfl).2.1, ((HS.out.alloc _).c4 0 _ _ _ _ _ _ rfl).2.2.1, ((HS.out.alloc _).c4 0 _ _ _ _ _ _ rfl).2.2.2, ((HS.out.alloc _).c2 1 _ _ _ _ rfl).1, ((HS.out.alloc _).c2 1 _ _ _ _ rfl).2⟩ (fun hHeld => ?_)
        clear hK K
        refine norm_ (a' := ?_) ?_ ?_
        rotate_left
        · show Act.put _ (some 37) _ = _
          simp only [Act.put, List.setIfInBounds_toArray, List.set_cons_zero, List.set_cons_succ, i64_w, i32_w]
          rfl
        refine one_ (i := 8) (N := some 38) #[true, true, true, true, true, true, true, true, true, false, false, false] rfl rfl (by kernel_rfl) (by decide) (fun K hK => ?_)
        refine Sl.append_stp (Kd.int .i64) (flat_int .i64) HS.out 2 (.slice A ids.length c) (ids) 3 rfl (by rfl) (.tmp 34) (.tmp 37) 22 (.int .i64 0) 8 rfl Try.underlying22 (by kernel_rfl) rfl (by decide) (by decide) (x.f0) [.int .i64 x.f0] rfl rfl (by first | rfl | exact k3_mk _ _) (by omega) ?_
        intro v11_ w11_ HSn
        obtain ⟨A9_, c9_, hv2_, _⟩ := HSn.rowC 2 rfl
        subst hv2_
        refine hK.out _ _ ⟨(HSn.c4 0 _ _ _ _ _ _ rfl).1, (HSn.c4 0 _ _ _ _ _ _ rfl).2.1, (HSn.c4 0 _ _ _ _ _ _ rfl).2.2.1, (HSn.c4 0 _ _ _ _ _ _ rfl).2.2.2, (HSn.c2 1 _ _ _ _ rfl).1, (HSn.c2 1 _ _ _ _ rfl).2⟩ (fun hHeld => ?_)
        clear hK K
        refine norm_ (a' := ?_) ?_ ?_
        rotate_left
        · show Act.put _ (some 38) _ = _
          simp only [Act.put, List.setIfInBounds_toArray, List.set_cons_zero, List.set_cons_succ, i64_w, i32_w]
          rfl
        refine pure_ (i := 9) (N := some 39) (v := ?_) (a' := ?_) #[true, true, true, true, true, true, true, true, true, true, false, false] rfl rfl (by kernel_rfl) (fun _ _ _ h => h) (Or.inl ⟨by rfl, ?_⟩) ?_ ?_
        rotate_left
        · intro w'
          go_simp
          with_reducible rfl
        rotate_left
        · simp only [Act.put, List.setIfInBounds_toArray, List.set_cons_zero, List.set_cons_succ, i64_w, i32_w]
          rfl
        refine pure_ (i := 10) (N := some 40) (v := ?_) (a' := ?_) #[true, true, true, true, true, true, true, true, true, true, true, false] rfl rfl (by kernel_rfl) (fun _ _ _ h => h) (Or.inl ⟨by rfl, ?_⟩) ?_ ?_
        rotate_left
        · intro w'
          go_simp
          with_reducible rfl
        rotate_left
        · simp only [Act.put, List.setIfInBounds_toArray, List.set_cons_zero, List.set_cons_succ, i64_w, i32_w]
          rfl
        refine last_ (i := 11) (N := none) #[true, true, true, true, true, true, true, true, true, true, true, true] rfl rfl (by kernel_rfl) (by decide) (fun K hK => ?_)
        have c0_1 := HSn.cell 1 _ _ _ rfl 0
        have f0_1 := HSn.free 1 _ _ _ rfl 0
        refine Sl.store_stp HSn 1 gc 188 _ rfl 0 (.slice A9_ (ids ++ [x.f0]).length c9_) (by rfl) rfl (by first | (go_simp; done) | (go_simp; rfl)) ?_
        intro w12_ HSm
        clear c0_1 f0_1
        refine hK.out _ _ ?_
        clear hK K
        refine done_ (by kernel_rfl) ?_
        replace HS : Hid (St (SL.blk g6 63 #[.int .i64 x.f0, .string x.f1, .bool x.f2, .slice A3 x.f3.length c3] :: SL.blk gc 188 #[.slice A9_ (ids ++ [x.f0]).length c9_, .map (some bm)] :: SL.row (Kd.int .i64) 3 (.slice A9_ (ids ++ [x.f0]).length c9_) (ids ++ [x.f0]) :: SL.map KI bm (mapC ps) :: (partsL ps ++ l)) w0 w12_) := Go.Lib.hid HSm
        clear HSm
        go_upto_region 8 with (fail)
        replace HS := Go.Lib.hid HS.out.drew
        refine start_ (n := 9) (S := fun w' => w'.cell? ⟨g6, 0, none⟩ = some (.int .i64 x.f0) ∧ w'.cell? ⟨g6, 1, none⟩ = some (.string x.f1) ∧ w'.cell? ⟨g6, 2, none⟩ = some (.bool x.f2) ∧ w'.cell? ⟨g6, 3, none⟩ = some (.slice A3 x.f3.length c3) ∧ w'.cell? ⟨gc, 1, none⟩ = some (.map (some bm))) (ds := [8]) #[false, false, false, false, false, false, false, false, false] (by kernel_rfl) rfl rfl ⟨(HS.out.c4 0 _ _ _ _ _ _ rfl).1, (HS.out.c4 0 _ _ _ _ _ _ rfl).2.1, (HS.out.c4 0 _ _ _ _ _ _ rfl).2.2.1, (HS.out.c4 0 _ _ _ _ _ _ rfl).2.2.2, (HS.out.c2 1 _ _ _ _ rfl).2⟩ (fun hHeld => ?_)
        generalize w12_.drew = W3_ at *
        refine pure_ (i := 0) (N := some 41) (v := ?_) (a' := ?_) #[true, false, false, false, false, false, false, false, false] rfl rfl (by kernel_rfl) (fun _ _ _ h => h) (Or.inl ⟨by rfl, ?_⟩) ?_ ?_
        rotate_left
        · intro w'
          go_simp
          with_reducible rfl
        rotate_left
        · simp only [Act.put, List.setIfInBounds_toArray, List.set_cons_zero, List.set_cons_succ, i64_w, i32_w]
          rfl
        refine pure_ (i := 1) (N := some 42) (v := ?_) (a' := ?_) #[true, true, false, false, false, false, false, false, false] rfl rfl (by kernel_rfl) (fun _ _ _ h => h) (Or.inl ⟨by rfl, ?_⟩) ?_ ?_
        rotate_left
        · intro w'
          go_simp
          with_reducible rfl
        rotate_left
        · simp only [Act.put, List.setIfInBounds_toArray, List.set_cons_zero, List.set_cons_succ, i64_w, i32_w]
          rfl
        refine pure_ (i := 2) (N := some 43) (v := ?_) (a' := ?_) #[true, true, true, false, false, false, false, false, false] rfl rfl (by kernel_rfl) (fun _ _ _ h => h) (Or.inl ⟨by rfl, ?_⟩) ?_ ?_
        rotate_left
        · intro w'
          go_simp
          with_reducible rfl
        rotate_left
        · simp only [Act.put, List.setIfInBounds_toArray, List.set_cons_zero, List.set_cons_succ, i64_w, i32_w]
          rfl
        refine pure_ (i := 4) (N := some 45) (v := ?_) (a' := ?_) #[true, true, true, false, true, false, false, false, false] rfl rfl (by kernel_rfl) (fun _ _ _ h => h) (Or.inl ⟨by rfl, ?_⟩) ?_ ?_
        rotate_left
        · intro w'
          go_simp
          with_reducible rfl
        rotate_left
        · simp only [Act.put, List.setIfInBounds_toArray, List.set_cons_zero, List.set_cons_succ, i64_w, i32_w]
          rfl
        refine take_ (i := 3) (N := some 44) (v := ?_) (a' := ?_) #[true, true, true, true, true, false, false, false, false] rfl rfl (by kernel_rfl) (fun _ _ _ h => h) (Or.inl ⟨by rfl, ?_⟩) hHeld ?_ ?_
        rotate_left
        · rintro w' ⟨s0, s1, s2, s3, s4⟩
          go_simp
          with_reducible rfl
        rotate_left
        · simp only [Act.put, List.setIfInBounds_toArray, List.set_cons_zero, List.set_cons_succ, i64_w, i32_w]
          rfl
        refine take_ (i := 5) (N := some 46) (v := ?_) (a' := ?_) #[true, true, true, true, true, true, false, false, false] rfl rfl (by kernel_rfl) (fun _ _ _ h => h) (Or.inl ⟨by rfl, ?_⟩) hHeld ?_ ?_
        rotate_left
        · rintro w' ⟨s0, s1, s2, s3, s4⟩
          go_simp
          with_reducible rfl
        rotate_left
        · simp only [Act.put, List.setIfInBounds_toArray, List.set_cons_zero, List.set_cons_succ, i64_w, i32_w]
          rfl
        refine take_ (i := 6) (N := some 47) (v := ?_) (a' := ?_) #[true, true, true, true, true, true, true, false, false] rfl rfl (by kernel_rfl) (fun _ _ _ h => h) (Or.inl ⟨by rfl, ?_⟩) hHeld ?_ ?_
        rotate_left
        · rintro w' ⟨s0, s1, s2, s3, s4⟩
          go_simp
          with_reducible rfl
        rotate_left
        · simp only [Act.put, List.setIfInBounds_toArray, List.set_cons_zero, List.set_cons_succ, i64_w, i32_w]
          rfl
        refine one_ (i := 7) (N := some 48) #[true, true, true, true, true, true, true, true, false] rfl rfl (by kernel_rfl) (by decide) (fun K hK => ?_)
        refine goes_ Try.func39 (by kernel_rfl) rfl #[.agg #[.int .i64 x.f0, .string x.f1, .bool x.f2, .slice A3 x.f3.length c3]] (by rfl) rfl rfl (by (try simp only [List.map_toArray, List.map_cons, List.map_nil]); first | done | rfl) ?_
        refine (new_hd HS.out A3 c3 (HRD.out (_ :: _ :: _ :: _ :: partsL ps) _ HS.out).2.2.2.2 hf3).mono ?_
        rintro e w15_ ⟨gp, rfl, hS⟩
        replace HS : Hid (St (Prt.part gp x.f0 x.f1 x.f2 x.f3 (PS.init x.f3) :: SL.blk g6 63 #[.int .i64 x.f0, .string x.f1, .bool x.f2, .slice A3 x.f3.length c3] :: SL.blk gc 188 #[.slice A9_ (ids ++ [x.f0]).length c9_, .map (some bm)] :: SL.row (Kd.int .i64) 3 (.slice A9_ (ids ++ [x.f0]).length c9_) (ids ++ [x.f0]) :: SL.map KI bm (mapC ps) :: (partsL ps ++ l)) w0 w15_) := Go.Lib.hid hS
        clear hS
        refine ⟨_, rfl, ?_⟩
        refine hK.out _ _ ⟨(HS.out.c4 1 _ _ _ _ _ _ rfl).1, (HS.out.c4 1 _ _ _ _ _ _ rfl).2.1, (HS.out.c4 1 _ _ _ _ _ _ rfl).2.2.1, (HS.out.c4 1 _ _ _ _ _ _ rfl).2.2.2, (HS.out.c2 2 _ _ _ _ rfl).2⟩ (fun hHeld => ?_)
        clear hK K
        refine norm_ (a' := ?_) ?_ ?_
        rotate_left
        · show Act.put _ (some 48) _ = _
          simp only [Act.put, List.setIfInBounds_toArray, List.set_cons_zero, List.set_cons_succ, i64_w, i32_w]
          rfl
        refine last_ (i := 8) (N := none) #[true, true, true, true, true, true, true, true, true] rfl rfl (by kernel_rfl) (by decide) (fun K hK => ?_)
        refine Sl.mapset_stp HS.out 4 rfl 186 65 Try.underlying186 x.f0 (.pointer (some ⟨gp, 0, none⟩)) HWX.out HPL.out (by rfl) rfl (.tmp 44) (.tmp 46) (.tmp 48) rfl rfl rfl rfl ?_
        intro w81_ HSm
        refine hK.out _ _ ?_
        clear hK K
        refine done_ (by kernel_rfl) ?_
        have HS2 : Hid (St (SL.blk gc 188 #[.slice A9_ (ids ++ [x.f0]).length c9_, .map (some bm)] :: SL.row (Kd.int .i64) 3 (.slice A9_ (ids ++ [x.f0]).length c9_) (ids ++ [x.f0]) :: SL.map KI bm (mapC (ps ++ [(⟨gp, x, PS.init x.f3⟩ : CP)])) :: (partsL (ps ++ [(⟨gp, x, PS.init x.f3⟩ : CP)]) ++ l)) w0 w81_) := Go.Lib.hid (by rw [mapC_snoc, partsL_snoc]; exact (((HSm.erase 1).front 3 _ rfl).front 3 _ rfl).front 3 _ rfl)
        clear HSm
        go_wp2_with fail
        go_roundw
        case rel => exact ⟨0 + 1, A9_, c9_, ids ++ [x.f0], ps ++ [(⟨gp, x, PS.init x.f3⟩ : CP)], hlt, by first | rfl | go_num, (fun i hi => by omega), by rw [List.map_append, HPS.out, HTK.out]; rfl, by rw [HID.out, idsC_snoc], (fun z hz => by rcases List.mem_append.1 hz with hz | hz; exact HIN.out z hz; rw [List.mem_singleton.1 hz]), HS2.out⟩
        case measure => simp [intOf]; omega
      · have hk1 : 0 < k := by omega
        have hkb : decide (0 < k) = true := by simp; omega
        skip
        have pv0 := HPV.out hk1
        obtain ⟨c6_0, c6_1, c6_2, c6_3⟩ := HS.out.c4 0 _ _ _ _ _ _ rfl
        obtain ⟨ad2, _, _, hae, _, hrd2⟩ := HPA.out (k - 1) (by omega)
        obtain rfl := Option.some.inj hae
        have pv : w22_.drew.cell? (ad.add ((k - 1) * 4)) = some (.int .i64 y) := by
          have h5 := (hrd2 (_ :: _ :: _ :: _ :: partsL ps) _ HS.out).1
          obtain ⟨_, _, _, h6, _, h7⟩ := HPA.out (k - 1) (by omega)
          rw [h5]
          have h8 := (hrd2 (_ :: _ :: _ :: partsL ps) wr HSW.out).1
          rw [pv0] at h8
          exact h8.symm
        clear hrd2 pv0
        have e1_ : wrap64 ((k : Int) - 1) = ((k - 1 : Nat) : Int) := by unfold wrap64; omega
        have e0_ : IntKind.i64.wrap ((k : Int) - 1) = ((k - 1 : Nat) : Int) := e1_ ▸ (by rw [IntKind.wrap_i64]; first | rfl | (unfold wrap64; rfl))
        have hkl : k - 1 < xs.length := by omega
        by_cases hle : y < x.f0
        · have hq : decide (x.f0 ≤ y) = false := by simp; omega
          refine start_ (n := 13) (S := fun w' => w'.cell? ⟨g6, 0, none⟩ = some (.int .i64 x.f0) ∧ w'.cell? ⟨g6, 1, none⟩ = some (.string x.f1) ∧ w'.cell? ⟨g6, 2, none⟩ = some (.bool x.f2) ∧ w'.cell? ⟨g6, 3, none⟩ = some (.slice A3 x.f3.length c3) ∧ w'.cell? (ad.add ((k - 1) * 4)) = some (.int .i64 y)) (ds := []) #[false, false, false, false, false, false, false, false, false, false, false, false, false] (by kernel_rfl) rfl rfl ⟨c6_0, c6_1, c6_2, c6_3, pv⟩ (fun hHeld => ?_)
          generalize w22_.drew = W_ at *
          refine pure_ (i := 0) (N := some 17) (v := ?_) (a' := ?_) #[true, false, false, false, false, false, false, false, false, false, false, false, false] rfl rfl (by kernel_rfl) (fun _ _ _ h => h) (Or.inl ⟨by rfl, ?_⟩) ?_ ?_
          rotate_left
          · intro w'
            go_simp
            with_reducible rfl
          rotate_left
          · simp only [Act.put, List.setIfInBounds_toArray, List.set_cons_zero, List.set_cons_succ, i64_w, i32_w]
            rfl
          refine pure_ (i := 1) (N := some 18) (v := ?_) (a' := ?_) #[true, true, false, false, false, false, false, false, false, false, false, false, false] rfl rfl (by kernel_rfl) (fun _ _ _ h => h) (Or.inl ⟨by rfl, ?_⟩) ?_ ?_
          rotate_left
          · intro w'
            go_simp
            with_reducible rfl
          rotate_left
          · simp only [Act.put, List.setIfInBounds_toArray, List.set_cons_zero, List.set_cons_succ, i64_w, i32_w]
            rfl
          refine pure_ (i := 2) (N := some 19) (v := ?_) (a' := ?_) #[true, true, true, false, false, false, false, false, false, false, false, false, false] rfl rfl (by kernel_rfl) (fun _ _ _ h => h) (Or.inl ⟨by rfl, ?_⟩) ?_ ?_
          rotate_left
          · intro w'
            go_simp
            with_reducible rfl
          rotate_left
          · simp only [Act.put, List.setIfInBounds_toArray, List.set_cons_zero, List.set_cons_succ, i64_w, i32_w]
            rfl
          refine pure_ (i := 3) (N := some 20) (v := ?_) (a' := ?_) #[true, true, true, true, false, false, false, false, false, false, false, false, false] rfl rfl (by kernel_rfl) (fun _ _ _ h => h) (Or.inl ⟨by rfl, ?_⟩) ?_ ?_
          rotate_left
          · intro w'
            go_simp
            with_reducible rfl
          rotate_left
          · simp only [Act.put, List.setIfInBounds_toArray, List.set_cons_zero, List.set_cons_succ, i64_w, i32_w]
            rfl
          refine pure_ (i := 5) (N := some 22) (v := ?_) (a' := ?_) #[true, true, true, true, false, true, false, false, false, false, false, false, false] rfl rfl (by kernel_rfl) (fun _ _ _ h => h) (Or.inl ⟨by rfl, ?_⟩) ?_ ?_
          rotate_left
          · intro w'
            go_simp
            with_reducible rfl
          rotate_left
          · simp only [Act.put, List.setIfInBounds_toArray, List.set_cons_zero, List.set_cons_succ, i64_w, i32_w]
            rfl
          refine pure_ (i := 6) (N := some 23) (v := ?_) (a' := ?_) #[true, true, true, true, false, true, true, false, false, false, false, false, false] rfl rfl (by kernel_rfl) (fun _ _ _ h => h) (Or.inl ⟨by rfl, ?_⟩) ?_ ?_
          rotate_left
          · intro w'
            go_simp
            with_reducible rfl
          rotate_left
          · simp only [Act.put, List.setIfInBounds_toArray, List.set_cons_zero, List.set_cons_succ, i64_w, i32_w]
            rfl
          refine pure_ (i := 7) (N := some 24) (v := ?_) (a' := ?_) #[true, true, true, true, false, true, true, true, false, false, false, false, false] rfl rfl (by kernel_rfl) (fun _ _ _ h => h) (Or.inl ⟨by rfl, ?_⟩) ?_ ?_
          rotate_left
          · intro w'
            go_simp
            with_reducible rfl
          rotate_left
          · simp only [Act.put, List.setIfInBounds_toArray, List.set_cons_zero, List.set_cons_succ, i64_w, i32_w]
            rfl
          refine pure_ (i := 8) (N := some 25) (v := ?_) (a' := ?_) #[true, true, true, true, false, true, true, true, true, false, false, false, false] rfl rfl (by kernel_rfl) (fun _ _ _ h => h) (Or.inl ⟨by rfl, ?_⟩) ?_ ?_
          rotate_left
          · intro w'
            go_simp
            with_reducible rfl
          rotate_left
          · simp only [Act.put, List.setIfInBounds_toArray, List.set_cons_zero, List.set_cons_succ, i64_w, i32_w]
            rfl
          refine pure_ (i := 9) (N := some 26) (v := ?_) (a' := ?_) #[true, true, true, true, false, true, true, true, true, true, false, false, false] rfl rfl (by kernel_rfl) (fun _ _ _ h => h) (Or.inl ⟨by rfl, ?_⟩) ?_ ?_
          rotate_left
          · intro w'
            go_simp
            with_reducible rfl
          rotate_left
          · simp only [Act.put, List.setIfInBounds_toArray, List.set_cons_zero, List.set_cons_succ, i64_w, i32_w]
            rfl
          refine take_ (i := 4) (N := some 21) (v := ?_) (a' := ?_) #[true, true, true, true, true, true, true, true, true, true, false, false, false] rfl rfl (by kernel_rfl) (fun _ _ _ h => h) (Or.inl ⟨by rfl, ?_⟩) hHeld ?_ ?_
          rotate_left
          · rintro w' ⟨s0, s1, s2, s3, s4⟩
            go_simp
            with_reducible rfl
          rotate_left
          · simp only [Act.put, List.setIfInBounds_toArray, List.set_cons_zero, List.set_cons_succ, i64_w, i32_w]
            rfl
          refine take_ (i := 10) (N := some 27) (v := ?_) (a' := ?_) #[true, true, true, true, true, true, true, true, true, true, true, false, false] rfl rfl (by kernel_rfl) (fun _ _ _ h => h) (Or.inl ⟨by rfl, ?_⟩) hHeld ?_ ?_
          rotate_left
          · rintro w' ⟨s0, s1, s2, s3, s4⟩
            go_simp
            with_reducible rfl
          rotate_left
          · simp only [Act.put, List.setIfInBounds_toArray, List.set_cons_zero, List.set_cons_succ, i64_w, i32_w]
            rfl
          refine pure_ (i := 11) (N := some 28) (v := ?_) (a' := ?_) #[true, true, true, true, true, true, true, true, true, true, true, true, false] rfl rfl (by kernel_rfl) (fun _ _ _ h => h) (Or.inl ⟨by rfl, ?_⟩) ?_ ?_
          rotate_left
          · intro w'
            go_simp
            with_reducible rfl
          rotate_left
          · simp only [Act.put, List.setIfInBounds_toArray, List.set_cons_zero, List.set_cons_succ, i64_w, i32_w]
            rfl
          refine pure_ (i := 12) (N := some 29) (v := ?_) (a' := ?_) #[true, true, true, true, true, true, true, true, true, true, true, true, true] rfl rfl (by kernel_rfl) (fun _ _ _ h => h) (Or.inl ⟨by rfl, ?_⟩) ?_ ?_
          rotate_left
          · intro w'
            go_simp
            with_reducible rfl
          rotate_left
          · simp only [Act.put, List.setIfInBounds_toArray, List.set_cons_zero, List.set_cons_succ, i64_w, i32_w]
            rfl
          refine done_ (by kernel_rfl) ?_
          clear c6_0 c6_1 c6_2 c6_3 pv e1_ e0_
          go_upto_region 7 with (fail)
          replace HS := Go.Lib.hid HS.out.drew
          refine start_ (n := 12) (S := fun w' => w'.cell? ⟨g6, 0, none⟩ = some (.int .i64 x.f0) ∧ w'.cell? ⟨g6, 1, none⟩ = some (.string x.f1) ∧ w'.cell? ⟨g6, 2, none⟩ = some (.bool x.f2) ∧ w'.cell? ⟨g6, 3, none⟩ = some (.slice A3 x.f3.length c3) ∧ w'.cell? ⟨gc, 0, none⟩ = some (.slice A ids.length c) ∧ w'.cell? ⟨gc, 1, none⟩ = some (.map (some bm))) (ds := [11]) #[false, false, false, false, false, false, false, false, false, false, false, false] (by kernel_rfl) rfl rfl ⟨(HS.out.c4 0 _ _ _ _ _ _ rfl).1, (HS.out.c4 0 _ _ _ _ _ _ rfl).2.1, (HS.out.c4 0 _ _ _ _ _ _ rfl).2.2.1, (HS.out.c4 0 _ _ _ _ _ _ rfl).2.2.2, (HS.out.c2 1 _ _ _ _ rfl).1, (HS.out.c2 1 _ _ _ _ rfl).2⟩ (fun hHeld => ?_)
          generalize W_.drew = W2_ at *
          refine pure_ (i := 0) (N := some 30) (v := ?_) (a' := ?_) #[true, false, false, false, false, false, false, false, false, false, false, false] rfl rfl (by kernel_rfl) (fun _ _ _ h => h) (Or.inl ⟨by rfl, ?_⟩) ?_ ?_
          rotate_left
          · intro w'
            go_simp
            with_reducible rfl
          rotate_left
          · simp only [Act.put, List.setIfInBounds_toArray, List.set_cons_zero, List.set_cons_succ, i64_w, i32_w]
            rfl
          refine pure_ (i := 1) (N := some 31) (v := ?_) (a' := ?_) #[true, true, false, false, false, false, false, false, false, false, false, false] rfl rfl (by kernel_rfl) (fun _ _ _ h => h) (Or.inl ⟨by rfl, ?_⟩) ?_ ?_
          rotate_left
          · intro w'
            go_simp
            with_reducible rfl
          rotate_left
          · simp only [Act.put, List.setIfInBounds_toArray, List.set_cons_zero, List.set_cons_succ, i64_w, i32_w]
            rfl
          refine pure_ (i := 2) (N := some 32) (v := ?_) (a' := ?_) #[true, true, true, false, false, false, false, false, false, false, false, false] rfl rfl (by kernel_rfl) (fun _ _ _ h => h) (Or.inl ⟨by rfl, ?_⟩) ?_ ?_
          rotate_left
          · intro w'
            go_simp
            with_reducible rfl
          rotate_left
          · simp only [Act.put, List.setIfInBounds_toArray, List.set_cons_zero, List.set_cons_succ, i64_w, i32_w]
            rfl
          refine pure_ (i := 3) (N := some 33) (v := ?_) (a' := ?_) #[true, true, true, true, false, false, false, false, false, false, false, false] rfl rfl (by kernel_rfl) (fun _ _ _ h => h) (Or.inl ⟨by rfl, ?_⟩) ?_ ?_
          rotate_left
          · intro w'
            go_simp
            with_reducible rfl
          rotate_left
          · simp only [Act.put, List.setIfInBounds_toArray, List.set_cons_zero, List.set_cons_succ, i64_w, i32_w]
            rfl
          refine pure_ (i := 5) (N := some 35) (v := ?_) (a' := ?_) #[true, true, true, true, false, true, false, false, false, false, false, false] rfl rfl (by kernel_rfl) (fun _ _ _ h => h) (Or.inl ⟨by rfl, ?_⟩) ?_ ?_
          rotate_left
          · intro w'
            go_simp
            with_reducible rfl
          rotate_left
          · simp only [Act.put, List.setIfInBounds_toArray, List.set_cons_zero, List.set_cons_succ, i64_w, i32_w]
            rfl
          refine take_ (i := 4) (N := some 34) (v := ?_) (a' := ?_) #[true, true, true, true, true, true, false, false, false, false, false, false] rfl rfl (by kernel_rfl) (fun _ _ _ h => h) (Or.inl ⟨by rfl, ?_⟩) hHeld ?_ ?_
          rotate_left
          · rintro w' ⟨s0, s1, s2, s3, s4, s5⟩
            go_simp
            with_reducible rfl
          rotate_left
          · simp only [Act.put, List.setIfInBounds_toArray, List.set_cons_zero, List.set_cons_succ, i64_w, i32_w]
            rfl
          refine take_ (i := 6) (N := some 36) (v := ?_) (a' := ?_) #[true, true, true, true, true, true, true, false, false, false, false, false] rfl rfl (by kernel_rfl) (fun _ _ _ h => h) (Or.inl ⟨by rfl, ?_⟩) hHeld ?_ ?_
          rotate_left
          · rintro w' ⟨s0, s1, s2, s3, s4, s5⟩
            go_simp
            with_reducible rfl
          rotate_left
          · simp only [Act.put, List.setIfInBounds_toArray, List.set_cons_zero, List.set_cons_succ, i64_w, i32_w]
            rfl
          refine one_ (i := 7) (N := some 37) #[true, true, true, true, true, true, true, true, false, false, false, false] rfl rfl (by kernel_rfl) (by decide) (fun K hK => ?_)
          refine event_step (by rfl) (w1 := W2_.alloc (.cells #[.int .i64 x.f0] 3)) (v := .slice (some ⟨W2_.heap.size, 0, none⟩) 1 1) (by first | (go_simp; done) | (go_simp; rfl)) ?_
          refine hK.out _ _ ⟨((HS.out.alloc _).c4 0 _ _ _ _ _ _ rfl).1, ((HS.out.alloc _).c4 0 _ _ _ _ _ _ rfl).2.1, ((HS.out.alloc _).c4 0 _ _ _ _ _ _ rfl).2.2.1, ((HS.out.alloc _).c4 0 _ _ _ _ _ _ rfl).2.2.2, ((HS.out.alloc _).c2 1 _ _ _ _ rfl).1, ((HS.out.alloc _).c2 1 _ _ _ _ rfl).2⟩ (fun hHeld => ?_)
          clear hK K
          refine norm_ (a' := ?_) ?_ ?_
          rotate_left
          · show Act.put _ (some 37) _ = _
            simp only [Act.put, List.setIfInBounds_toArray, List.set_cons_zero, List.set_cons_succ, i64_w, i32_w]
            rfl
          refine one_ (i := 8) (N := some 38) #[true, true, true, true, true, true, true, true, true, false, false, false] rfl rfl (by kernel_rfl) (by decide) (fun K hK => ?_)
          refine Sl.append_stp (Kd.int .i64) (flat_int .i64) HS.out 2 (.slice A ids.length c) (ids) 3 rfl (by rfl) (.tmp 34) (.tmp 37) 22 (.int .i64 0) 8 rfl Try.underlying22 (by kernel_rfl) rfl (by decide) (by decide) (x.f0) [.int .i64 x.f0] rfl rfl (by first | rfl | exact k3_mk _ _) (by omega) ?_
          intro v11_ w11_ HSn
          obtain ⟨A9_, c9_, hv2_, _⟩ := HSn.rowC 2 rfl
          subst hv2_
          refine hK.out _ _ ⟨(HSn.c4 0 _ _ _ _ _ _ rfl).1, (HSn.c4 0 _ _ _ _ _ _ rfl).2.1, (HSn.c4 0 _ _ _ _ _ _ rfl).2.2.1, (HSn.c4 0 _ _ _ _ _ _ rfl).2.2.2, (HSn.c2 1 _ _ _ _ rfl).1, (HSn.c2 1 _ _ _ _ rfl).2⟩ (fun hHeld => ?_)
          clear hK K
          refine norm_ (a' := ?_) ?_ ?_
          rotate_left
          · show Act.put _ (some 38) _ = _
            simp only [Act.put, List.setIfInBounds_toArray, List.set_cons_zero, List.set_cons_succ, i64_w, i32_w]
            rfl
          refine pure_ (i := 9) (N := some 39) (v := ?_) (a' := ?_) #[true, true, true, true, true, true, true, true, true, true, false, false] rfl rfl (by kernel_rfl) (fun _ _ _ h => h) (Or.inl ⟨by rfl, ?_⟩) ?_ ?_
          rotate_left
          · intro w'
            go_simp
            with_reducible rfl
          rotate_left
          · simp only [Act.put, List.setIfInBounds_toArray, List.set_cons_zero, List.set_cons_succ, i64_w, i32_w]
            rfl
          refine pure_ (i := 10) (N := some 40) (v := ?_) (a' := ?_) #[true, true, true, true, true, true, true, true, true, true, true, false] rfl rfl (by kernel_rfl) (fun _ _ _ h => h) (Or.inl ⟨by rfl, ?_⟩) ?_ ?_
          rotate_left
          · intro w'
            go_simp
            with_reducible rfl
          rotate_left
          · simp only [Act.put, List.setIfInBounds_toArray, List.set_cons_zero, List.set_cons_succ, i64_w, i32_w]
            rfl
          refine last_ (i := 11) (N := none) #[true, true, true, true, true, true, true, true, true, true, true, true] rfl rfl (by kernel_rfl) (by decide) (fun K hK => ?_)
          have c0_1 := HSn.cell 1 _ _ _ rfl 0
          have f0_1 := HSn.free 1 _ _ _ rfl 0
          refine Sl.store_stp HSn 1 gc 188 _ rfl 0 (.slice A9_ (ids ++ [x.f0]).length c9_) (by rfl) rfl (by first | (go_simp; done) | (go_simp; rfl)) ?_
          intro w12_ HSm
          clear c0_1 f0_1
          refine hK.out _ _ ?_
          clear hK K
          refine done_ (by kernel_rfl) ?_
          replace HS : Hid (St (SL.blk g6 63 #[.int .i64 x.f0, .string x.f1, .bool x.f2, .slice A3 x.f3.length c3] :: SL.blk gc 188 #[.slice A9_ (ids ++ [x.f0]).length c9_, .map (some bm)] :: SL.row (Kd.int .i64) 3 (.slice A9_ (ids ++ [x.f0]).length c9_) (ids ++ [x.f0]) :: SL.map KI bm (mapC ps) :: (partsL ps ++ l)) w0 w12_) := Go.Lib.hid HSm
          clear HSm
          go_upto_region 8 with (fail)
          replace HS := Go.Lib.hid HS.out.drew
          refine start_ (n := 9) (S := fun w' => w'.cell? ⟨g6, 0, none⟩ = some (.int .i64 x.f0) ∧ w'.cell? ⟨g6, 1, none⟩ = some (.string x.f1) ∧ w'.cell? ⟨g6, 2, none⟩ = some (.bool x.f2) ∧ w'.cell? ⟨g6, 3, none⟩ = some (.slice A3 x.f3.length c3) ∧ w'.cell? ⟨gc, 1, none⟩ = some (.map (some bm))) (ds := [8]) #[false, false, false, false, false, false, false, false, false] (by kernel_rfl) rfl rfl ⟨(HS.out.c4 0 _ _ _ _ _ _ rfl).1, (HS.out.c4 0 _ _ _ _ _ _ rfl).2.1, (HS.out.c4 0 _ _ _ _ _ _ rfl).2.2.1, (HS.out.c4 0 _ _ _ _ _ _ rfl).2.2.2, (HS.out.c2 1 _ _ _ _ rfl).2⟩ (fun hHeld => ?_)
          generalize w12_.drew = W3_ at *
          refine pure_ (i := 0) (N := some 41) (v := ?_) (a' := ?_) #[true, false, false, false, false, false, false, false, false] rfl rfl (by kernel_rfl) (fun _ _ _ h => h) (Or.inl ⟨by rfl, ?_⟩) ?_ ?_
          rotate_left
          · intro w'
            go_simp
            with_reducible rfl
          rotate_left
          · simp only [Act.put, List.setIfInBounds_toArray, List.set_cons_zero, List.set_cons_succ, i64_w, i32_w]
            rfl
          refine pure_ (i := 1) (N := some 42) (v := ?_) (a' := ?_) #[true, true, false, false, false, false, false, false, false] rfl rfl (by kernel_rfl) (fun _ _ _ h => h) (Or.inl ⟨by rfl, ?_⟩) ?_ ?_
          rotate_left
          · intro w'
            go_simp
            with_reducible rfl
          rotate_left
          · simp only [Act.put, List.setIfInBounds_toArray, List.set_cons_zero, List.set_cons_succ, i64_w, i32_w]
            rfl
          refine pure_ (i := 2) (N := some 43) (v := ?_) (a' := ?_) #[true, true, true, false, false, false, false, false, false] rfl rfl (by kernel_rfl) (fun _ _ _ h => h) (Or.inl ⟨by rfl, ?_⟩) ?_ ?_
          rotate_left
          · intro w'
            go_simp
            with_reducible rfl
          rotate_left
          · simp only [Act.put, List.setIfInBounds_toArray, List.set_cons_zero, List.set_cons_succ, i64_w, i32_w]
            rfl
          refine pure_ (i := 4) (N := some 45) (v := ?_) (a' := ?_) #[true, true, true, false, true, false, false, false, false] rfl rfl (by kernel_rfl) (fun _ _ _ h => h) (Or.inl ⟨by rfl, ?_⟩) ?_ ?_
          rotate_left
          · intro w'
            go_simp
            with_reducible rfl
          rotate_left
          · simp only [Act.put, List.setIfInBounds_toArray, List.set_cons_zero, List.set_cons_succ, i64_w, i32_w]
            rfl
          refine take_ (i := 3) (N := some 44) (v := ?_) (a' := ?_) #[true, true, true, true, true, false, false, false, false] rfl rfl (by kernel_rfl) (fun _ _ _ h => h) (Or.inl ⟨by rfl, ?_⟩) hHeld ?_ ?_
          rotate_left
          · rintro w' ⟨s0, s1, s2, s3, s4⟩
            go_simp
            with_reducible rfl
          rotate_left
          · simp only [Act.put, List.setIfInBounds_toArray, List.set_cons_zero, List.set_cons_succ, i64_w, i32_w]
            rfl
          refine take_ (i := 5) (N := some 46) (v := ?_) (a' := ?_) #[true, true, true, true, true, true, false, false, false] rfl rfl (by kernel_rfl) (fun _ _ _ h => h) (Or.inl ⟨by rfl, ?_⟩) hHeld ?_ ?_
          rotate_left
          · rintro w' ⟨s0, s1, s2, s3, s4⟩
            go_simp
            with_reducible rfl
          rotate_left
          · simp only [Act.put, List.setIfInBounds_toArray, List.set_cons_zero, List.set_cons_succ, i64_w, i32_w]
            rfl
          refine take_ (i := 6) (N := some 47) (v := ?_) (a' := ?_) #[true, true, true, true, true, true, true, false, false] rfl rfl (by kernel_rfl) (fun _ _ _ h => h) (Or.inl ⟨by rfl, ?_⟩) hHeld ?_ ?_
          rotate_left
          · rintro w' ⟨s0, s1, s2, s3, s4⟩
            go_simp
            with_reducible rfl
          rotate_left
          · simp only [Act.put, List.setIfInBounds_toArray, List.set_cons_zero, List.set_cons_succ, i64_w, i32_w]
            rfl
          refine one_ (i := 7) (N := some 48) #[true, true, true, true, true, true, true, true, false] rfl rfl (by kernel_rfl) (by decide) (fun K hK => ?_)
          refine goes_ Try.func39 (by kernel_rfl) rfl #[.agg #[.int .i64 x.f0, .string x.f1, .bool x.f2, .slice A3 x.f3.length c3]] (by rfl) rfl rfl (by (try simp only [List.map_toArray, List.map_cons, List.map_nil]); first | done | rfl) ?_
          refine (new_hd HS.out A3 c3 (HRD.out (_ :: _ :: _ :: _ :: partsL ps) _ HS.out).2.2.2.2 hf3).mono ?_
          rintro e w15_ ⟨gp, rfl, hS⟩
          replace HS : Hid (St (Prt.part gp x.f0 x.f1 x.f2 x.f3 (PS.init x.f3) :: SL.blk g6 63 #[.int .i64 x.f0, .string x.f1, .bool x.f2, .slice A3 x.f3.length c3] :: SL.blk gc 188 #[.slice A9_ (ids ++ [x.f0]).length c9_, .map (some bm)] :: SL.row (Kd.int .i64) 3 (.slice A9_ (ids ++ [x.f0]).length c9_) (ids ++ [x.f0]) :: SL.map KI bm (mapC ps) :: (partsL ps ++ l)) w0 w15_) := Go.Lib.hid hS
          clear hS
          refine ⟨_, rfl, ?_⟩
          refine hK.out _ _ ⟨(HS.out.c4 1 _ _ _ _ _ _ rfl).1, (HS.out.c4 1 _ _ _ _ _ _ rfl).2.1, (HS.out.c4 1 _ _ _ _ _ _ rfl).2.2.1, (HS.out.c4 1 _ _ _ _ _ _ rfl).2.2.2, (HS.out.c2 2 _ _ _ _ rfl).2⟩ (fun hHeld => ?_)
          clear hK K
          refine norm_ (a' := ?_) ?_ ?_
          rotate_left
          · show Act.put _ (some 48) _ = _
            simp only [Act.put, List.setIfInBounds_toArray, List.set_cons_zero, List.set_cons_succ, i64_w, i32_w]
            rfl
          refine last_ (i := 8) (N := none) #[true, true, true, true, true, true, true, true, true] rfl rfl (by kernel_rfl) (by decide) (fun K hK => ?_)
          refine Sl.mapset_stp HS.out 4 rfl 186 65 Try.underlying186 x.f0 (.pointer (some ⟨gp, 0, none⟩)) HWX.out HPL.out (by rfl) rfl (.tmp 44) (.tmp 46) (.tmp 48) rfl rfl rfl rfl ?_
          intro w81_ HSm
          refine hK.out _ _ ?_
          clear hK K
          refine done_ (by kernel_rfl) ?_
          have HS2 : Hid (St (SL.blk gc 188 #[.slice A9_ (ids ++ [x.f0]).length c9_, .map (some bm)] :: SL.row (Kd.int .i64) 3 (.slice A9_ (ids ++ [x.f0]).length c9_) (ids ++ [x.f0]) :: SL.map KI bm (mapC (ps ++ [(⟨gp, x, PS.init x.f3⟩ : CP)])) :: (partsL (ps ++ [(⟨gp, x, PS.init x.f3⟩ : CP)]) ++ l)) w0 w81_) := Go.Lib.hid (by rw [mapC_snoc, partsL_snoc]; exact (((HSm.erase 1).front 3 _ rfl).front 3 _ rfl).front 3 _ rfl)
          clear HSm
          go_wp2_with fail
          go_roundw
          case rel => exact ⟨k + 1, A9_, c9_, ids ++ [x.f0], ps ++ [(⟨gp, x, PS.init x.f3⟩ : CP)], hlt, by first | rfl | go_num, HRN.out hk1 hle, by rw [List.map_append, HPS.out, HTK.out]; rfl, by rw [HID.out, idsC_snoc], (fun z hz => by rcases List.mem_append.1 hz with hz | hz; exact HIN.out z hz; rw [List.mem_singleton.1 hz]), HS2.out⟩
          case measure => simp [intOf]; omega
        · have hq : decide (x.f0 ≤ y) = true := by simp; omega
          refine start_ (n := 13) (S := fun w' => w'.cell? ⟨g6, 0, none⟩ = some (.int .i64 x.f0) ∧ w'.cell? ⟨g6, 1, none⟩ = some (.string x.f1) ∧ w'.cell? ⟨g6, 2, none⟩ = some (.bool x.f2) ∧ w'.cell? ⟨g6, 3, none⟩ = some (.slice A3 x.f3.length c3) ∧ w'.cell? (ad.add ((k - 1) * 4)) = some (.int .i64 y)) (ds := []) #[false, false, false, false, false, false, false, false, false, false, false, false, false] (by kernel_rfl) rfl rfl ⟨c6_0, c6_1, c6_2, c6_3, pv⟩ (fun hHeld => ?_)
          generalize w22_.drew = W_ at *
          refine pure_ (i := 0) (N := some 17) (v := ?_) (a' := ?_) #[true, false, false, false, false, false, false, false, false, false, false, false, false] rfl rfl (by kernel_rfl) (fun _ _ _ h => h) (Or.inl ⟨by rfl, ?_⟩) ?_ ?_
          rotate_left
          · intro w'
            go_simp
            with_reducible rfl
          rotate_left
          · simp only [Act.put, List.setIfInBounds_toArray, List.set_cons_zero, List.set_cons_succ, i64_w, i32_w]
            rfl
          refine pure_ (i := 1) (N := some 18) (v := ?_) (a' := ?_) #[true, true, false, false, false, false, false, false, false, false, false, false, false] rfl rfl (by kernel_rfl) (fun _ _ _ h => h) (Or.inl ⟨by rfl, ?_⟩) ?_ ?_
          rotate_left
          · intro w'
            go_simp
            with_reducible rfl
          rotate_left
          · simp only [Act.put, List.setIfInBounds_toArray, List.set_cons_zero, List.set_cons_succ, i64_w, i32_w]
            rfl
          refine pure_ (i := 2) (N := some 19) (v := ?_) (a' := ?_) #[true, true, true, false, false, false, false, false, false, false, false, false, false] rfl rfl (by kernel_rfl) (fun _ _ _ h => h) (Or.inl ⟨by rfl, ?_⟩) ?_ ?_
          rotate_left
          · intro w'
            go_simp
            with_reducible rfl
          rotate_left
          · simp only [Act.put, List.setIfInBounds_toArray, List.set_cons_zero, List.set_cons_succ, i64_w, i32_w]
            rfl
          refine pure_ (i := 3) (N := some 20) (v := ?_) (a' := ?_) #[true, true, true, true, false, false, false, false, false, false, false, false, false] rfl rfl (by kernel_rfl) (fun _ _ _ h => h) (Or.inl ⟨by rfl, ?_⟩) ?_ ?_
          rotate_left
          · intro w'
            go_simp
            with_reducible rfl
          rotate_left
          · simp only [Act.put, List.setIfInBounds_toArray, List.set_cons_zero, List.set_cons_succ, i64_w, i32_w]
            rfl
          refine pure_ (i := 5) (N := some 22) (v := ?_) (a' := ?_) #[true, true, true, true, false, true, false, false, false, false, false, false, false] rfl rfl (by kernel_rfl) (fun _ _ _ h => h) (Or.inl ⟨by rfl, ?_⟩) ?_ ?_
          rotate_left
          · intro w'
            go_simp
            with_reducible rfl
          rotate_left
          · simp only [Act.put, List.setIfInBounds_toArray, List.set_cons_zero, List.set_cons_succ, i64_w, i32_w]
            rfl
          refine pure_ (i := 6) (N := some 23) (v := ?_) (a' := ?_) #[true, true, true, true, false, true, true, false, false, false, false, false, false] rfl rfl (by kernel_rfl) (fun _ _ _ h => h) (Or.inl ⟨by rfl, ?_⟩) ?_ ?_
          rotate_left
          · intro w'
            go_simp
            with_reducible rfl
          rotate_left
          · simp only [Act.put, List.setIfInBounds_toArray, List.set_cons_zero, List.set_cons_succ, i64_w, i32_w]
            rfl
          refine pure_ (i := 7) (N := some 24) (v := ?_) (a' := ?_) #[true, true, true, true, false, true, true, true, false, false, false, false, false] rfl rfl (by kernel_rfl) (fun _ _ _ h => h) (Or.inl ⟨by rfl, ?_⟩) ?_ ?_
          rotate_left
          · intro w'
            go_simp
            with_reducible rfl
          rotate_left
          · simp only [Act.put, List.setIfInBounds_toArray, List.set_cons_zero, List.set_cons_succ, i64_w, i32_w]
            rfl
          refine pure_ (i := 8) (N := some 25) (v := ?_) (a' := ?_) #[true, true, true, true, false, true, true, true, true, false, false, false, false] rfl rfl (by kernel_rfl) (fun _ _ _ h => h) (Or.inl ⟨by rfl, ?_⟩) ?_ ?_
          rotate_left
          · intro w'
            go_simp
            with_reducible rfl
          rotate_left
          · simp only [Act.put, List.setIfInBounds_toArray, List.set_cons_zero, List.set_cons_succ, i64_w, i32_w]
            rfl
          refine pure_ (i := 9) (N := some 26) (v := ?_) (a' := ?_) #[true, true, true, true, false, true, true, true, true, true, false, false, false] rfl rfl (by kernel_rfl) (fun _ _ _ h => h) (Or.inl ⟨by rfl, ?_⟩) ?_ ?_
          rotate_left
          · intro w'
            go_simp
            with_reducible rfl
          rotate_left
          · simp only [Act.put, List.setIfInBounds_toArray, List.set_cons_zero, List.set_cons_succ, i64_w, i32_w]
            rfl
          refine take_ (i := 4) (N := some 21) (v := ?_) (a' := ?_) #[true, true, true, true, true, true, true, true, true, true, false, false, false] rfl rfl (by kernel_rfl) (fun _ _ _ h => h) (Or.inl ⟨by rfl, ?_⟩) hHeld ?_ ?_
          rotate_left
          · rintro w' ⟨s0, s1, s2, s3, s4⟩
            go_simp
            with_reducible rfl
          rotate_left
          · simp only [Act.put, List.setIfInBounds_toArray, List.set_cons_zero, List.set_cons_succ, i64_w, i32_w]
            rfl
          refine take_ (i := 10) (N := some 27) (v := ?_) (a' := ?_) #[true, true, true, true, true, true, true, true, true, true, true, false, false] rfl rfl (by kernel_rfl) (fun _ _ _ h => h) (Or.inl ⟨by rfl, ?_⟩) hHeld ?_ ?_
          rotate_left
          · rintro w' ⟨s0, s1, s2, s3, s4⟩
            go_simp
            with_reducible rfl
          rotate_left
          · simp only [Act.put, List.setIfInBounds_toArray, List.set_cons_zero, List.set_cons_succ, i64_w, i32_w]
            rfl
          refine pure_ (i := 11) (N := some 28) (v := ?_) (a' := ?_) #[true, true, true, true, true, true, true, true, true, true, true, true, false] rfl rfl (by kernel_rfl) (fun _ _ _ h => h) (Or.inl ⟨by rfl, ?_⟩) ?_ ?_
          rotate_left
          · intro w'
            go_simp
            with_reducible rfl
          rotate_left
          · simp only [Act.put, List.setIfInBounds_toArray, List.set_cons_zero, List.set_cons_succ, i64_w, i32_w]
            rfl
          refine pure_ (i := 12) (N := some 29) (v := ?_) (a' := ?_) #[true, true, true, true, true, true, true, true, true, true, true, true, true] rfl rfl (by kernel_rfl) (fun _ _ _ h => h) (Or.inl ⟨by rfl, ?_⟩) ?_ ?_
          rotate_left
          · intro w'
            go_simp
            with_reducible rfl
          rotate_left
          · simp only [Act.put, List.setIfInBounds_toArray, List.set_cons_zero, List.set_cons_succ, i64_w, i32_w]
            rfl
          refine done_ (by kernel_rfl) ?_
          go_wp2_with fail
          go_ret2
          exact .inr ⟨HRX.out hk1 hle, rfl, drop_all (partsL ps) HS.out.drop.drop.drop.drop⟩
    · obtain rfl : k = xs.length := by omega
      go_wp2_with fail
      go_ret2
      exact .inl ⟨HRI.out, gc, bm, A, c, ids, ps, rfl, by rw [HPS.out, List.take_length], HID.out, HIN.out, HS.out⟩
end Go.Proofs.Ytkmhgolohppliaa.Crw
