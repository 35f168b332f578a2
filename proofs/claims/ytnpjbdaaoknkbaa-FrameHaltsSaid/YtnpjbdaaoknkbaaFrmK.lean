/- FrameHalts: the walk. -/
import Derived.Test.YtnpjbdaaoknkbaaFrmJ
import Derived.IntWalk
namespace Go.Proofs.Ytnpjbdaaoknkbaa.Frm
open Go.RowKit Go.Proofs.YtnpjbdaaoknkbaaW.PrintWords Go.Proofs.YtnpjbdaaoknkbaaW.PrintLast Go.Proofs.YtnpjbdaaoknkbaaW.PrintMore Go.Proofs.Ytnpjbdaaoknkbaa.Mine Go.Proofs.Ytnpjbdaaoknkbaa.PTableFrames
open Go.Proofs.Ytnpjbdaaoknkbaa.Sl (SL Stp Chg St No wpc_seal wpc_round sealed MK look)
open Go.Proofs.Ytnpjbdaaoknkbaa.Tab (InT In InA Runs cur_tick cur_owner step_st nextT nextJ rd_mem cursor_st allR allR_is ownW OkW mkR_len grw_len at_run Small SchedIn BadW NewPost new_st WinIn)
set_option linter.unusedVariables false
set_option linter.unusedSimpArgs false
attribute [local go_sem] max2_int min2_int max_two min_two max_three min_three max_four min_four
/-- No two of the first ones have one id. -/
def Dist (ss : List S25) (k : Nat) : Prop := ∀ a b : Nat, a < b → b < k → (ss.getD a z25).f0 ≠ (ss.getD b z25).f0
theorem dist_next {ss : List S25} {k : Nat} (h : Dist ss k) (h2 : ∀ a : Nat, a < k → (ss.getD a z25).f0 ≠ (ss.getD k z25).f0) : Dist ss (k + 1) := by
  intro a b hab hb
  rcases Nat.lt_or_ge b k with q | q
  · exact h a b hab q
  · obtain rfl : b = k := by omega
    exact h2 a hab
theorem ne_next {ss : List S25} {k m : Nat} (h : ∀ a : Nat, a < m → (ss.getD a z25).f0 ≠ (ss.getD k z25).f0) (h1 : (ss.getD m z25).f0 ≠ (ss.getD k z25).f0) : ∀ a : Nat, a < m + 1 → (ss.getD a z25).f0 ≠ (ss.getD k z25).f0 := by
  intro a ha
  rcases Nat.lt_or_ge a m with q | q
  · exact h a q
  · obtain rfl : a = m := by omega
    exact h1
theorem dist_nodup {ss : List S25} (h : Dist ss ss.length) {ts : List Tb} (hs : ts.map Tb.src = ss.map srcS) : (ts.map Tb.id).Nodup := by
  have e : ts.map Tb.id = ss.map S25.f0 := by
    have := congrArg (List.map Prod.fst) hs
    rw [List.map_map, List.map_map] at this
    exact this
  rw [e, List.nodup_iff_pairwise_ne, List.pairwise_iff_getElem]
  intro a b ha hb hab
  rw [List.length_map] at ha hb
  have := h a b hab hb
  rw [List.getElem_map, List.getElem_map]
  rwa [List.getD_eq_getElem?_getD, List.getElem?_eq_getElem ha, List.getD_eq_getElem?_getD, List.getElem?_eq_getElem hb] at this
theorem cell_id {w : World} {A : Option Addr} {ss : List S25} (h : Kd.C k25 w A ss.length ss) (k : Nat) (hk : k < ss.length) : ∃ ad, A = some ad ∧ w.cell? (ad.add (k * 4)) = some (.int .i64 (ss.getD k z25).f0) := by
  obtain ⟨ad, A2, c2, A3, c3, e, g0, _⟩ := at_T25 h (k : Int) (by omega) (by omega)
  have hx : rd_T25 ss (k : Int) = ss.getD k z25 := by unfold rd_T25; rw [Int.toNat_natCast]
  rw [hx, Int.toNat_natCast] at g0
  exact ⟨ad, e, g0⟩
/-- Which table runs first. -/
theorem first_in {ts : List Tb} {ss : List S25} (hs : ts.map Tb.src = ss.map srcS) {k : Nat} (hk : k < ss.length) : ∃ y, findT ts (ss.getD k z25).f0 = some y := by
  refine find_in ?_
  have e : ts.map Tb.id = ss.map S25.f0 := by
    have := congrArg (List.map Prod.fst) hs
    rw [List.map_map, List.map_map] at this
    exact this
  rw [e, List.getD_eq_getElem?_getD, List.getElem?_eq_getElem hk]
  exact List.mem_map.2 ⟨_, List.getElem_mem hk, rfl⟩
theorem live_yes {x : EM} (h : x.now < 18446744073709551615) : x.live = true := by unfold EM.live; rw [if_neg (by omega)]
theorem tick_now {ts : List Tb} {x : EM} (h : x.now < 18446744073709551615) : (x.tick ts).now = x.now + 1 := by
  unfold EM.tick
  rw [if_neg (by omega)]
  split <;> rfl
theorem halt_all {ts : List Tb} {x : EM} (h : x.now = 18446744073709551615) : x.own = -1 ∧ x.bnd = false ∧ x.live = false ∧ x.tick ts = x := by
  unfold EM.own EM.bnd EM.live EM.tick
  rw [if_pos h, if_pos h, if_pos h, if_pos h]
  exact ⟨rfl, rfl, rfl, rfl⟩
set_option maxHeartbeats 12800000 in
set_option maxRecDepth 100000 in
theorem halts_raw (w : World) (A0 : Option Addr) (c0 : Nat) (ss : List S25) (hr0 : Kd.C k25 w A0 ss.length ss) (hc0 : ss.length ≤ c0) (hgs : ∀ s ∈ ss, Small s.f2 ∧ Small s.f3) (AI : Option Addr) (ci : Nat) (ids : List Int) (hri : Kd.C (Kd.int .i64) w AI ids.length ids) (hci : ids.length ≤ ci) (hwf : ∀ s ∈ ss, (Lit.int .i64 s.f0).wf = true) (nl nm : Int) (hnl0 : 0 ≤ nl) (hnl1 : nl ≤ 255) (hnm0 : 0 ≤ nm) (hnm1 : nm ≤ 255) :
    Calls Try.prog 4 #[.slice A0 ss.length c0, .slice AI ids.length ci, .int .u8 nl, .int .u8 nm] w fun e w' => e = .returned (.bool true) ∧ Below w.heap.size w w' := by
  obtain ⟨K_, r, hfew, hfew2⟩ := few_is ss ids hr0.2.1 hri.2.1 hgs
  have HF := Go.Lib.hid hfew
  have HS := Go.Lib.hid (St.start w)
  have HC := Go.Lib.hid hr0
  have HI := Go.Lib.hid hri
  have HSM : Hid (Small ids) := Go.Lib.hid hri.2.1
  have HWF := Go.Lib.hid hwf
  have hlen : ss.length ≤ 9223372036854775807 := hr0.2.1
  clear hr0 hri hfew hgs hwf
  cases r with
  | false =>
    clear hfew2
    go_enter Try.func4, Try.ntmps4
    go_wp2_with (first | (go_at_call 20; refine (countwheellaw18_few.calls K_ A0 c0 ss AI ci ids false _ HC.out hc0 HI.out hci HF.out).mono ?_; rintro e w1 ⟨rfl, hb⟩; replace HS := Go.Lib.hid (HS.out.then_ hb); clear hb) | (go_at_call 21; refine (awake_st HS.out).mono ?_; rintro e wz ⟨rfl, hS⟩; replace HS := Go.Lib.hid hS; clear hS))
    go_ret
    exact ⟨rfl, HS.out.below⟩
  | true =>
    obtain ⟨hl8, hi40, hask⟩ := hfew2 rfl
    have HASK := Go.Lib.hid hask
    clear hfew2 hask
    by_cases hz : ss.length = 0
    · obtain rfl : ss = [] := List.length_eq_zero_iff.1 hz
      go_enter Try.func4, Try.ntmps4
      go_wp2_with (first | (go_at_call 20; refine (countwheellaw18_few.calls K_ A0 c0 [] AI ci ids true _ HC.out hc0 HI.out hci HF.out).mono ?_; rintro e w1 ⟨rfl, hb⟩; replace HS := Go.Lib.hid (HS.out.then_ hb); clear hb) | (go_at_call 21; refine (awake_st HS.out).mono ?_; rintro e wz ⟨rfl, hS⟩; replace HS := Go.Lib.hid hS; clear hS))
      go_ret
      exact ⟨rfl, HS.out.below⟩
    · have hz2 : ((ss.length : Int) == 0) = false := beq_eq_false_iff_ne.2 (by omega)
      have hz3 : 0 < ss.length := by omega
      clear hz
      go_enter Try.func4, Try.ntmps4
      go_wp2_with (first | (go_at_call 20; refine (countwheellaw18_few.calls K_ A0 c0 ss AI ci ids true _ HC.out hc0 HI.out hci HF.out).mono ?_; rintro e w1 ⟨rfl, hb⟩; replace HS := Go.Lib.hid (HS.out.then_ hb); clear hb) | (go_at_call 21; refine (awake_st HS.out).mono ?_; rintro e wz ⟨rfl, hS⟩; replace HS := Go.Lib.hid hS; clear hS))
      go_loopw [34] (fun i wr => ∃ k : Nat, k ≤ ss.length ∧ i = .int .i64 k ∧ Dist ss k ∧ St [] w wr) (fun i _ => ss.length - (intOf i).toNat)
      case atStart => exact ⟨0, Nat.zero_le _, rfl, fun a b _ hb => absurd hb (Nat.not_lt_zero _), HS.out⟩
      case round =>
        clear HS
        obtain ⟨k, hk, rfl, hd, hS⟩ := hrel
        have HS := Go.Lib.hid hS
        have HD := Go.Lib.hid hd
        clear hS hd
        by_cases hlt : k < ss.length
        · go_wp2_with fail
          obtain ⟨wo, hwo⟩ : ∃ wo : World, wo = wr := ⟨_, rfl⟩
          clear hwo
          skip
          go_loopw [38] (fun i wr => ∃ m : Nat, m ≤ k ∧ i = .int .i64 m ∧ (∀ a : Nat, a < m → (ss.getD a z25).f0 ≠ (ss.getD k z25).f0) ∧ St [] w wr) (fun i _ => k - (intOf i).toNat)
          case atStart => exact ⟨0, Nat.zero_le _, rfl, fun a ha => absurd ha (Nat.not_lt_zero _), HS.out⟩
          case round =>
            clear HS
            obtain ⟨m, hm, rfl, hne, hS⟩ := hrel
            have HS := Go.Lib.hid hS
            have HNE := Go.Lib.hid hne
            clear hS hne
            by_cases hmk : m < k
            · obtain ⟨ad, rfl, g0⟩ := cell_id HC.out k hlt
              obtain ⟨ad2, hae, g1⟩ := cell_id HC.out m (by omega)
              obtain rfl := Option.some.inj hae
              clear hae
              have HNX : Hid ((ss.getD m z25).f0 ≠ (ss.getD k z25).f0 → ∀ a : Nat, a < m + 1 → (ss.getD a z25).f0 ≠ (ss.getD k z25).f0) := Go.Lib.hid (ne_next HNE.out)
              have hml : m < ss.length := by omega
              generalize (ss.getD k z25).f0 = u at g0 HNX
              generalize (ss.getD m z25).f0 = v at g1 HNX
              cases huv : (u == v)
              · have HN2 := Go.Lib.hid (HNX.out (by intro e2; simp [e2] at huv))
                replace HS := Go.Lib.hid HS.out.drew
                go_upto_region 9 with (fail)
                refine start_ (n := 11) (S := fun w' => w'.cell? (ad.add (k * 4)) = some (.int .i64 u) ∧ w'.cell? (ad.add (m * 4)) = some (.int .i64 v)) (ds := []) #[false, false, false, false, false, false, false, false, false, false, false] (by kernel_rfl) rfl rfl ⟨HS.out.old g0, HS.out.old g1⟩ (fun hHeld => ?_)
                generalize wr.drew = W_ at *
                refine pure_ (i := 0) (N := some 41) (v := ?_) (a' := ?_) #[true, false, false, false, false, false, false, false, false, false, false] rfl rfl (by kernel_rfl) (fun _ _ _ h => h) (Or.inl ⟨by rfl, ?_⟩) ?_ ?_
                rotate_left
                · intro w'
                  go_simp
                  with_reducible rfl
                rotate_left
                · simp only [Act.put, List.setIfInBounds_toArray, List.set_cons_zero, List.set_cons_succ, i64_w, i32_w]
                  rfl
                refine pure_ (i := 1) (N := some 42) (v := ?_) (a' := ?_) #[true, true, false, false, false, false, false, false, false, false, false] rfl rfl (by kernel_rfl) (fun _ _ _ h => h) (Or.inl ⟨by rfl, ?_⟩) ?_ ?_
                rotate_left
                · intro w'
                  go_simp
                  with_reducible rfl
                rotate_left
                · simp only [Act.put, List.setIfInBounds_toArray, List.set_cons_zero, List.set_cons_succ, i64_w, i32_w]
                  rfl
                refine pure_ (i := 2) (N := some 43) (v := ?_) (a' := ?_) #[true, true, true, false, false, false, false, false, false, false, false] rfl rfl (by kernel_rfl) (fun _ _ _ h => h) (Or.inl ⟨by rfl, ?_⟩) ?_ ?_
                rotate_left
                · intro w'
                  go_simp
                  with_reducible rfl
                rotate_left
                · simp only [Act.put, List.setIfInBounds_toArray, List.set_cons_zero, List.set_cons_succ, i64_w, i32_w]
                  rfl
                refine pure_ (i := 3) (N := some 44) (v := ?_) (a' := ?_) #[true, true, true, true, false, false, false, false, false, false, false] rfl rfl (by kernel_rfl) (fun _ _ _ h => h) (Or.inl ⟨by rfl, ?_⟩) ?_ ?_
                rotate_left
                · intro w'
                  go_simp
                  with_reducible rfl
                rotate_left
                · simp only [Act.put, List.setIfInBounds_toArray, List.set_cons_zero, List.set_cons_succ, i64_w, i32_w]
                  rfl
                refine pure_ (i := 5) (N := some 46) (v := ?_) (a' := ?_) #[true, true, true, true, false, true, false, false, false, false, false] rfl rfl (by kernel_rfl) (fun _ _ _ h => h) (Or.inl ⟨by rfl, ?_⟩) ?_ ?_
                rotate_left
                · intro w'
                  go_simp
                  with_reducible rfl
                rotate_left
                · simp only [Act.put, List.setIfInBounds_toArray, List.set_cons_zero, List.set_cons_succ, i64_w, i32_w]
                  rfl
                refine pure_ (i := 6) (N := some 47) (v := ?_) (a' := ?_) #[true, true, true, true, false, true, true, false, false, false, false] rfl rfl (by kernel_rfl) (fun _ _ _ h => h) (Or.inl ⟨by rfl, ?_⟩) ?_ ?_
                rotate_left
                · intro w'
                  go_simp
                  with_reducible rfl
                rotate_left
                · simp only [Act.put, List.setIfInBounds_toArray, List.set_cons_zero, List.set_cons_succ, i64_w, i32_w]
                  rfl
                refine pure_ (i := 7) (N := some 48) (v := ?_) (a' := ?_) #[true, true, true, true, false, true, true, true, false, false, false] rfl rfl (by kernel_rfl) (fun _ _ _ h => h) (Or.inl ⟨by rfl, ?_⟩) ?_ ?_
                rotate_left
                · intro w'
                  go_simp
                  with_reducible rfl
                rotate_left
                · simp only [Act.put, List.setIfInBounds_toArray, List.set_cons_zero, List.set_cons_succ, i64_w, i32_w]
                  rfl
                refine pure_ (i := 8) (N := some 49) (v := ?_) (a' := ?_) #[true, true, true, true, false, true, true, true, true, false, false] rfl rfl (by kernel_rfl) (fun _ _ _ h => h) (Or.inl ⟨by rfl, ?_⟩) ?_ ?_
                rotate_left
                · intro w'
                  go_simp
                  with_reducible rfl
                rotate_left
                · simp only [Act.put, List.setIfInBounds_toArray, List.set_cons_zero, List.set_cons_succ, i64_w, i32_w]
                  rfl
                refine take_ (i := 4) (N := some 45) (v := ?_) (a' := ?_) #[true, true, true, true, true, true, true, true, true, false, false] rfl rfl (by kernel_rfl) (fun _ _ _ h => h) (Or.inl ⟨by rfl, ?_⟩) hHeld ?_ ?_
                rotate_left
                · rintro w' ⟨s0, s1⟩
                  go_simp
                  with_reducible rfl
                rotate_left
                · simp only [Act.put, List.setIfInBounds_toArray, List.set_cons_zero, List.set_cons_succ, i64_w, i32_w]
                  rfl
                refine take_ (i := 9) (N := some 50) (v := ?_) (a' := ?_) #[true, true, true, true, true, true, true, true, true, true, false] rfl rfl (by kernel_rfl) (fun _ _ _ h => h) (Or.inl ⟨by rfl, ?_⟩) hHeld ?_ ?_
                rotate_left
                · rintro w' ⟨s0, s1⟩
                  go_simp
                  with_reducible rfl
                rotate_left
                · simp only [Act.put, List.setIfInBounds_toArray, List.set_cons_zero, List.set_cons_succ, i64_w, i32_w]
                  rfl
                refine pure_ (i := 10) (N := some 51) (v := ?_) (a' := ?_) #[true, true, true, true, true, true, true, true, true, true, true] rfl rfl (by kernel_rfl) (fun _ _ _ h => h) (Or.inl ⟨by rfl, ?_⟩) ?_ ?_
                rotate_left
                · intro w'
                  go_simp
                  with_reducible rfl
                rotate_left
                · simp only [Act.put, List.setIfInBounds_toArray, List.set_cons_zero, List.set_cons_succ, i64_w, i32_w]
                  rfl
                refine done_ (by kernel_rfl) ?_
                go_wp2_with fail
                go_roundw
                case rel => exact ⟨m + 1, hmk, rfl, HN2.out, HS.out⟩
                case measure => simp [intOf]; omega
              · replace HS := Go.Lib.hid HS.out.drew
                go_upto_region 9 with (fail)
                refine start_ (n := 11) (S := fun w' => w'.cell? (ad.add (k * 4)) = some (.int .i64 u) ∧ w'.cell? (ad.add (m * 4)) = some (.int .i64 v)) (ds := []) #[false, false, false, false, false, false, false, false, false, false, false] (by kernel_rfl) rfl rfl ⟨HS.out.old g0, HS.out.old g1⟩ (fun hHeld => ?_)
                generalize wr.drew = W_ at *
                refine pure_ (i := 0) (N := some 41) (v := ?_) (a' := ?_) #[true, false, false, false, false, false, false, false, false, false, false] rfl rfl (by kernel_rfl) (fun _ _ _ h => h) (Or.inl ⟨by rfl, ?_⟩) ?_ ?_
                rotate_left
                · intro w'
                  go_simp
                  with_reducible rfl
                rotate_left
                · simp only [Act.put, List.setIfInBounds_toArray, List.set_cons_zero, List.set_cons_succ, i64_w, i32_w]
                  rfl
                refine pure_ (i := 1) (N := some 42) (v := ?_) (a' := ?_) #[true, true, false, false, false, false, false, false, false, false, false] rfl rfl (by kernel_rfl) (fun _ _ _ h => h) (Or.inl ⟨by rfl, ?_⟩) ?_ ?_
                rotate_left
                · intro w'
                  go_simp
                  with_reducible rfl
                rotate_left
                · simp only [Act.put, List.setIfInBounds_toArray, List.set_cons_zero, List.set_cons_succ, i64_w, i32_w]
                  rfl
                refine pure_ (i := 2) (N := some 43) (v := ?_) (a' := ?_) #[true, true, true, false, false, false, false, false, false, false, false] rfl rfl (by kernel_rfl) (fun _ _ _ h => h) (Or.inl ⟨by rfl, ?_⟩) ?_ ?_
                rotate_left
                · intro w'
                  go_simp
                  with_reducible rfl
                rotate_left
                · simp only [Act.put, List.setIfInBounds_toArray, List.set_cons_zero, List.set_cons_succ, i64_w, i32_w]
                  rfl
                refine pure_ (i := 3) (N := some 44) (v := ?_) (a' := ?_) #[true, true, true, true, false, false, false, false, false, false, false] rfl rfl (by kernel_rfl) (fun _ _ _ h => h) (Or.inl ⟨by rfl, ?_⟩) ?_ ?_
                rotate_left
                · intro w'
                  go_simp
                  with_reducible rfl
                rotate_left
                · simp only [Act.put, List.setIfInBounds_toArray, List.set_cons_zero, List.set_cons_succ, i64_w, i32_w]
                  rfl
                refine pure_ (i := 5) (N := some 46) (v := ?_) (a' := ?_) #[true, true, true, true, false, true, false, false, false, false, false] rfl rfl (by kernel_rfl) (fun _ _ _ h => h) (Or.inl ⟨by rfl, ?_⟩) ?_ ?_
                rotate_left
                · intro w'
                  go_simp
                  with_reducible rfl
                rotate_left
                · simp only [Act.put, List.setIfInBounds_toArray, List.set_cons_zero, List.set_cons_succ, i64_w, i32_w]
                  rfl
                refine pure_ (i := 6) (N := some 47) (v := ?_) (a' := ?_) #[true, true, true, true, false, true, true, false, false, false, false] rfl rfl (by kernel_rfl) (fun _ _ _ h => h) (Or.inl ⟨by rfl, ?_⟩) ?_ ?_
                rotate_left
                · intro w'
                  go_simp
                  with_reducible rfl
                rotate_left
                · simp only [Act.put, List.setIfInBounds_toArray, List.set_cons_zero, List.set_cons_succ, i64_w, i32_w]
                  rfl
                refine pure_ (i := 7) (N := some 48) (v := ?_) (a' := ?_) #[true, true, true, true, false, true, true, true, false, false, false] rfl rfl (by kernel_rfl) (fun _ _ _ h => h) (Or.inl ⟨by rfl, ?_⟩) ?_ ?_
                rotate_left
                · intro w'
                  go_simp
                  with_reducible rfl
                rotate_left
                · simp only [Act.put, List.setIfInBounds_toArray, List.set_cons_zero, List.set_cons_succ, i64_w, i32_w]
                  rfl
                refine pure_ (i := 8) (N := some 49) (v := ?_) (a' := ?_) #[true, true, true, true, false, true, true, true, true, false, false] rfl rfl (by kernel_rfl) (fun _ _ _ h => h) (Or.inl ⟨by rfl, ?_⟩) ?_ ?_
                rotate_left
                · intro w'
                  go_simp
                  with_reducible rfl
                rotate_left
                · simp only [Act.put, List.setIfInBounds_toArray, List.set_cons_zero, List.set_cons_succ, i64_w, i32_w]
                  rfl
                refine take_ (i := 4) (N := some 45) (v := ?_) (a' := ?_) #[true, true, true, true, true, true, true, true, true, false, false] rfl rfl (by kernel_rfl) (fun _ _ _ h => h) (Or.inl ⟨by rfl, ?_⟩) hHeld ?_ ?_
                rotate_left
                · rintro w' ⟨s0, s1⟩
                  go_simp
                  with_reducible rfl
                rotate_left
                · simp only [Act.put, List.setIfInBounds_toArray, List.set_cons_zero, List.set_cons_succ, i64_w, i32_w]
                  rfl
                refine take_ (i := 9) (N := some 50) (v := ?_) (a' := ?_) #[true, true, true, true, true, true, true, true, true, true, false] rfl rfl (by kernel_rfl) (fun _ _ _ h => h) (Or.inl ⟨by rfl, ?_⟩) hHeld ?_ ?_
                rotate_left
                · rintro w' ⟨s0, s1⟩
                  go_simp
                  with_reducible rfl
                rotate_left
                · simp only [Act.put, List.setIfInBounds_toArray, List.set_cons_zero, List.set_cons_succ, i64_w, i32_w]
                  rfl
                refine pure_ (i := 10) (N := some 51) (v := ?_) (a' := ?_) #[true, true, true, true, true, true, true, true, true, true, true] rfl rfl (by kernel_rfl) (fun _ _ _ h => h) (Or.inl ⟨by rfl, ?_⟩) ?_ ?_
                rotate_left
                · intro w'
                  go_simp
                  with_reducible rfl
                rotate_left
                · simp only [Act.put, List.setIfInBounds_toArray, List.set_cons_zero, List.set_cons_succ, i64_w, i32_w]
                  rfl
                refine done_ (by kernel_rfl) ?_
                go_wp2_with (go_at_call 21; refine (awake_st HS.out).mono ?_; rintro e wz ⟨rfl, hS⟩; replace HS := Go.Lib.hid hS; clear hS)
                go_ret
                exact ⟨rfl, HS.out.below⟩
            · obtain rfl : m = k := by omega
              have HD2 := Go.Lib.hid (dist_next HD.out HNE.out)
              go_wp2_with fail
              go_roundw
              case rel => exact ⟨m + 1, hlt, rfl, HD2.out, HS.out⟩
              case measure => simp [intOf]; omega
        · obtain rfl : k = ss.length := by omega
          clear hk hlt
          obtain ⟨ad, rfl, g0⟩ := cell_id HC.out 0 hz3
          have HWU : Hid ((Lit.int .i64 (ss.getD 0 z25).f0).wf = true) := Go.Lib.hid (HWF.out _ (by rw [List.getD_eq_getElem?_getD, List.getElem?_eq_getElem hz3]; exact List.getElem_mem hz3))
          obtain ⟨u, hu⟩ : ∃ u, u = (ss.getD 0 z25).f0 := ⟨_, rfl⟩
          rw [← hu] at g0 HWU
          have HU0 := Go.Lib.hid hu
          clear hu
          rw [Nat.zero_mul] at g0
          have had : ad.add 0 = ad := by cases ad; simp [Addr.add]
          rw [had] at g0
          clear had
          have e1_ : IntKind.u64.wrap nl = nl := by unfold IntKind.wrap; simp [IntKind.bits, IntKind.signed]; omega
          have e0_ : IntKind.u64.wrap (18446744073709551615 - nl) = 18446744073709551615 - nl := by unfold IntKind.wrap; simp [IntKind.bits, IntKind.signed]; omega
          go_upto_region 13 with (fail)
          replace HS := Go.Lib.hid HS.out.drew
          refine start_ (n := 16) (S := fun w' => w'.cell? ad = some (.int .i64 u)) (ds := []) #[false, false, false, false, false, false, false, false, false, false, false, false, false, false, false, false] (by kernel_rfl) rfl rfl (HS.out.old g0) (fun hHeld => ?_)
          generalize wr.drew = W_ at *
          refine pure_ (i := 0) (N := some 56) (v := ?_) (a' := ?_) #[true, false, false, false, false, false, false, false, false, false, false, false, false, false, false, false] rfl rfl (by kernel_rfl) (fun _ _ _ h => h) (Or.inl ⟨by rfl, ?_⟩) ?_ ?_
          rotate_left
          · intro w'
            go_simp
            with_reducible rfl
          rotate_left
          · simp only [Act.put, List.setIfInBounds_toArray, List.set_cons_zero, List.set_cons_succ, i64_w, i32_w]
            rfl
          refine pure_ (i := 1) (N := some 57) (v := ?_) (a' := ?_) #[true, true, false, false, false, false, false, false, false, false, false, false, false, false, false, false] rfl rfl (by kernel_rfl) (fun _ _ _ h => h) (Or.inl ⟨by rfl, ?_⟩) ?_ ?_
          rotate_left
          · intro w'
            go_simp
            with_reducible rfl
          rotate_left
          · simp only [Act.put, List.setIfInBounds_toArray, List.set_cons_zero, List.set_cons_succ, i64_w, i32_w]
            rfl
          refine pure_ (i := 3) (N := some 59) (v := ?_) (a' := ?_) #[true, true, false, true, false, false, false, false, false, false, false, false, false, false, false, false] rfl rfl (by kernel_rfl) (fun _ _ _ h => h) (Or.inl ⟨by rfl, ?_⟩) ?_ ?_
          rotate_left
          · intro w'
            go_simp
            with_reducible rfl
          rotate_left
          · simp only [Act.put, List.setIfInBounds_toArray, List.set_cons_zero, List.set_cons_succ, i64_w, i32_w]
            rfl
          refine pure_ (i := 4) (N := some 60) (v := ?_) (a' := ?_) #[true, true, false, true, true, false, false, false, false, false, false, false, false, false, false, false] rfl rfl (by kernel_rfl) (fun _ _ _ h => h) (Or.inl ⟨by rfl, ?_⟩) ?_ ?_
          rotate_left
          · intro w'
            go_simp
            with_reducible rfl
          rotate_left
          · simp only [Act.put, List.setIfInBounds_toArray, List.set_cons_zero, List.set_cons_succ, i64_w, i32_w]
            rfl
          refine pure_ (i := 5) (N := some 61) (v := ?_) (a' := ?_) #[true, true, false, true, true, true, false, false, false, false, false, false, false, false, false, false] rfl rfl (by kernel_rfl) (fun _ _ _ h => h) (Or.inl ⟨by rfl, ?_⟩) ?_ ?_
          rotate_left
          · intro w'
            go_simp
            with_reducible rfl
          rotate_left
          · simp only [Act.put, List.setIfInBounds_toArray, List.set_cons_zero, List.set_cons_succ, i64_w, i32_w]
            rfl
          refine pure_ (i := 7) (N := some 63) (v := ?_) (a' := ?_) #[true, true, false, true, true, true, false, true, false, false, false, false, false, false, false, false] rfl rfl (by kernel_rfl) (fun _ _ _ h => h) (Or.inl ⟨by rfl, ?_⟩) ?_ ?_
          rotate_left
          · intro w'
            go_simp
            with_reducible rfl
          rotate_left
          · simp only [Act.put, List.setIfInBounds_toArray, List.set_cons_zero, List.set_cons_succ, i64_w, i32_w]
            rfl
          refine pure_ (i := 8) (N := some 64) (v := ?_) (a' := ?_) #[true, true, false, true, true, true, false, true, true, false, false, false, false, false, false, false] rfl rfl (by kernel_rfl) (fun _ _ _ h => h) (Or.inl ⟨by rfl, ?_⟩) ?_ ?_
          rotate_left
          · intro w'
            go_simp
            with_reducible rfl
          rotate_left
          · simp only [Act.put, List.setIfInBounds_toArray, List.set_cons_zero, List.set_cons_succ, i64_w, i32_w]
            rfl
          refine pure_ (i := 9) (N := some 65) (v := ?_) (a' := ?_) #[true, true, false, true, true, true, false, true, true, true, false, false, false, false, false, false] rfl rfl (by kernel_rfl) (fun _ _ _ h => h) (Or.inl ⟨by rfl, ?_⟩) ?_ ?_
          rotate_left
          · intro w'
            go_simp
            with_reducible rfl
          rotate_left
          · simp only [Act.put, List.setIfInBounds_toArray, List.set_cons_zero, List.set_cons_succ, i64_w, i32_w]
            rfl
          refine take_ (i := 6) (N := some 62) (v := ?_) (a' := ?_) #[true, true, false, true, true, true, true, true, true, true, false, false, false, false, false, false] rfl rfl (by kernel_rfl) (fun _ _ _ h => h) (Or.inl ⟨by rfl, ?_⟩) hHeld ?_ ?_
          rotate_left
          · rintro w' s0
            go_simp
            with_reducible rfl
          rotate_left
          · simp only [Act.put, List.setIfInBounds_toArray, List.set_cons_zero, List.set_cons_succ, i64_w, i32_w]
            rfl
          refine one_ (i := 2) (N := some 58) #[true, true, true, true, true, true, true, true, true, true, false, false, false, false, false, false] rfl rfl (by kernel_rfl) (by decide) (fun K hK => ?_)
          refine goes_ Try.func23 (by kernel_rfl) rfl #[.slice (some ad) ss.length c0, .slice AI ids.length ci] (by rfl) rfl rfl (by (try simp only [List.map_toArray, List.map_cons, List.map_nil]); first | done | rfl) ?_
          refine (tables_st HS.out (some ad) c0 ss AI ci ids (scheds_arg HC.out) (fun lx w1 h1 => h1.C HI.out) hci HSM.out HASK.out hl8).mono ?_
          rintro e w2 ⟨ts, gs, A, c, rfl, hgs, hsrc, hok, hS⟩
          replace HS := Go.Lib.hid hS
          have HG := Go.Lib.hid hgs
          have HSRC := Go.Lib.hid hsrc
          have hT : Tabs (SL.row KP 31 (.slice A gs.length c) gs :: (tabL ts ++ [])) ts := (tabs_of hok _).cons _
          have HT := Go.Lib.hid hT
          have hnd := dist_nodup HD.out hsrc
          have HM := Go.Lib.hid (maps_of ts hnd)
          have HU := Go.Lib.hid (uniq_of ts hnd)
          have HND := Go.Lib.hid hnd
          have htl : ts.length ≤ 100000 := by rw [← List.length_map (f := Tb.src), hsrc, List.length_map]; omega
          obtain ⟨y0, hy0⟩ := first_in hsrc hz3
          have HY0 := Go.Lib.hid hy0
          clear hS hgs hsrc hok hT hnd hy0
          refine ⟨_, rfl, ?_⟩
          refine hK.out _ _ (HS.out.old g0) (fun hHeld => ?_)
          clear hK K
          refine norm_ (a' := ?_) ?_ ?_
          rotate_left
          · show Act.put _ (some 58) _ = _
            simp only [Act.put, List.setIfInBounds_toArray, List.set_cons_zero, List.set_cons_succ, i64_w, i32_w]
            rfl
          refine one_ (i := 10) (N := some 66) #[true, true, true, true, true, true, true, true, true, true, true, false, false, false, false, false] rfl rfl (by kernel_rfl) (by decide) (fun K hK => ?_)
          refine goes_ Try.func22 (by kernel_rfl) rfl #[.slice A gs.length c, .int .i64 u, .int .u64 (18446744073709551615 - nl)] (by rfl) rfl rfl (by (try simp only [List.map_toArray, List.map_cons, List.map_nil]); first | done | rfl) ?_
          refine (eng_new A c ts gs 0 rfl HS.out HG.out HT.out htl u (18446744073709551615 - nl) HWU.out).mono ?_
          rintro e w3 (⟨ge, gk, bm, y, _, hy, rfl, hE⟩ | ⟨hn, _⟩ | ⟨_, hn, _⟩)
          rotate_left
          · exact absurd HND.out hn
          · rw [HU0.out, HY0.out] at hn; cases hn
          rw [HU0.out, HY0.out] at hy
          obtain rfl := Option.some.inj hy
          have hy1 := findT_mem HY0.out
          have hy2 := (HT.out.ok _ hy1.1).lo
          have hG : Good ts ⟨y0, u, 0, 18446744073709551615 - nl, 0⟩ := ⟨hy1.1, Int.le_refl 0, by show 0 < y0.fr; omega, ⟨y0, by show findT ts u = _; rw [HU0.out, HY0.out]⟩, by show 0 ≤ 18446744073709551615 - nl; omega, by show 18446744073709551615 - nl ≤ _; omega, Int.le_refl 0, by show 0 ≤ 18446744073709551615 - nl; omega⟩
          have HG0 := Go.Lib.hid hG
          have HE := Go.Lib.hid hE
          clear hG hE hy hy1 hy2
          refine ⟨_, rfl, ?_⟩
          refine hK.out _ _ (HE.out.st.old g0) (fun hHeld => ?_)
          clear hK K
          refine norm_ (a' := ?_) ?_ ?_
          rotate_left
          · show Act.put _ (some 66) _ = _
            simp only [Act.put, List.setIfInBounds_toArray, List.set_cons_zero, List.set_cons_succ, i64_w, i32_w]
            rfl
          refine pure_ (i := 11) (N := some 55) (v := ?_) (a' := ?_) #[true, true, true, true, true, true, true, true, true, true, true, true, false, false, false, false] rfl rfl (by kernel_rfl) (fun _ _ _ h => h) (Or.inl ⟨by rfl, ?_⟩) ?_ ?_
          rotate_left
          · intro w'
            go_simp
            with_reducible rfl
          rotate_left
          · simp only [Act.put, List.setIfInBounds_toArray, List.set_cons_zero, List.set_cons_succ, i64_w, i32_w]
            rfl
          refine pure_ (i := 12) (N := some 67) (v := ?_) (a' := ?_) #[true, true, true, true, true, true, true, true, true, true, true, true, true, false, false, false] rfl rfl (by kernel_rfl) (fun _ _ _ h => h) (Or.inl ⟨by rfl, ?_⟩) ?_ ?_
          rotate_left
          · intro w'
            go_simp
            with_reducible rfl
          rotate_left
          · simp only [Act.put, List.setIfInBounds_toArray, List.set_cons_zero, List.set_cons_succ, i64_w, i32_w]
            rfl
          refine pure_ (i := 13) (N := some 68) (v := ?_) (a' := ?_) #[true, true, true, true, true, true, true, true, true, true, true, true, true, true, false, false] rfl rfl (by kernel_rfl) (fun _ _ _ h => h) (Or.inl ⟨by rfl, ?_⟩) ?_ ?_
          rotate_left
          · intro w'
            go_simp
            with_reducible rfl
          rotate_left
          · simp only [Act.put, List.setIfInBounds_toArray, List.set_cons_zero, List.set_cons_succ, i64_w, i32_w]
            rfl
          refine pure_ (i := 14) (N := some 11) (v := ?_) (a' := ?_) #[true, true, true, true, true, true, true, true, true, true, true, true, true, true, true, false] rfl rfl (by kernel_rfl) (fun _ _ _ h => h) (Or.inl ⟨by rfl, ?_⟩) ?_ ?_
          rotate_left
          · intro w'
            go_simp
            with_reducible rfl
          rotate_left
          · simp only [Act.put, List.setIfInBounds_toArray, List.set_cons_zero, List.set_cons_succ, i64_w, i32_w]
            rfl
          refine pure_ (i := 15) (N := some 12) (v := ?_) (a' := ?_) #[true, true, true, true, true, true, true, true, true, true, true, true, true, true, true, true] rfl rfl (by kernel_rfl) (fun _ _ _ h => h) (Or.inl ⟨by rfl, ?_⟩) ?_ ?_
          rotate_left
          · intro w'
            go_simp
            with_reducible rfl
          rotate_left
          · simp only [Act.put, List.setIfInBounds_toArray, List.set_cons_zero, List.set_cons_succ, i64_w, i32_w]
            rfl
          refine done_ (by kernel_rfl) ?_
          clear g0 e0_ e1_
          clear HS
          go_wp2_with fail
          go_loopw [77] (fun i wr => ∃ (k : Nat) (x : EM), (k : Int) ≤ nl ∧ i = .int .i64 k ∧ Good ts x ∧ x.now = 18446744073709551615 - nl + k ∧ EngSt (SL.row KP 31 (.slice A gs.length c) gs :: (tabL ts ++ [])) ge gk bm (mapOf ts) x w wr) (fun i _ => (nl - intOf i).toNat)
          case atStart => exact ⟨0, _, by omega, rfl, HG0.out, by show 18446744073709551615 - nl = _; omega, HE.out⟩
          case round =>
            clear HE HG0
            obtain ⟨k, x, hk, rfl, hG, hnow, hE⟩ := hrel
            have HE := Go.Lib.hid hE
            have HG0 := Go.Lib.hid hG
            have HNOW := Go.Lib.hid hnow
            clear hE hG hnow
            by_cases hlt : (k : Int) < nl
            · have HLV : Hid (x.live = true) := Go.Lib.hid (live_yes (by rw [HNOW.out]; omega))
              have HNX : Hid ((x.tick ts).now = 18446744073709551615 - nl + (k + 1 : Nat)) := Go.Lib.hid (by rw [tick_now (by rw [HNOW.out]; omega), HNOW.out]; omega)
              go_wp2_with (go_at_call 24; refine (tick_st HE.out HT.out HM.out HU.out HG0.out).mono ?_; rintro e w5 ⟨rfl, hE⟩; rw [HLV.out]; replace HE := Go.Lib.hid hE; clear hE)
              go_roundw
              case rel => exact ⟨k + 1, x.tick ts, by omega, by go_num, HG0.out.tick HT.out.ok, HNX.out, HE.out⟩
              case measure => simp [intOf]; omega
            · have hkn : (k : Int) = nl := by omega
              have HH := Go.Lib.hid (halt_all (ts := ts) (x := x) (by rw [HNOW.out]; omega))
              have HNW : Hid (x.now = 18446744073709551615) := Go.Lib.hid (by rw [HNOW.out]; omega)
              clear hkn
              go_wp2_with (first | (go_at_call 25; refine (e_offset HE.out HT.out HG0.out).mono ?_; rintro e w' ⟨rfl, rfl⟩) | (go_at_call 26; refine (e_current HE.out HT.out HG0.out).mono ?_; rintro e w' ⟨rfl, rfl⟩) | (go_at_call 27; refine (e_frames HE.out).mono ?_; rintro e w' ⟨rfl, rfl⟩))
              go_loopw [97] (fun i wr => ∃ k : Nat, (k : Int) ≤ nm % 9 ∧ i = .int .i64 k ∧ EngSt (SL.row KP 31 (.slice A gs.length c) gs :: (tabL ts ++ [])) ge gk bm (mapOf ts) x w wr) (fun i _ => (nm % 9 - intOf i).toNat)
              case atStart => exact ⟨0, by omega, rfl, HE.out⟩
              case round =>
                clear HE
                obtain ⟨k2, hk2, rfl, hE⟩ := hrel
                have HE := Go.Lib.hid hE
                clear hE
                by_cases hlt2 : (k2 : Int) < nm % 9
                · go_wp2_with (go_at_call 24; refine (tick_st HE.out HT.out HM.out HU.out HG0.out).mono ?_; rintro e w5 ⟨rfl, hE⟩; rw [HH.out.1, HH.out.2.1, HH.out.2.2.1]; rw [HH.out.2.2.2] at hE; replace HE := Go.Lib.hid hE; clear hE)
                  go_roundw
                  case rel => exact ⟨k2 + 1, by omega, by go_num, HE.out⟩
                  case measure => simp [intOf]; omega
                · have HHB : Hid ((x.now == 18446744073709551615) = true) := Go.Lib.hid (by rw [HNW.out]; rfl)
                  go_wp2_with (first | (go_at_call 28; refine (e_halted HE.out true HHB.out).mono ?_; rintro e w' ⟨rfl, rfl⟩) | (go_at_call 29; refine (e_now HE.out).mono ?_; rintro e w' ⟨rfl, rfl⟩; rw [HNW.out]) | (go_at_call 25; refine (e_offset HE.out HT.out HG0.out).mono ?_; rintro e w' ⟨rfl, rfl⟩) | (go_at_call 26; refine (e_current HE.out HT.out HG0.out).mono ?_; rintro e w' ⟨rfl, rfl⟩) | (go_at_call 27; refine (e_frames HE.out).mono ?_; rintro e w' ⟨rfl, rfl⟩) | (go_at_call 21; refine (awake_st HE.out.st).mono ?_; rintro e wz ⟨rfl, hS⟩; have HS := Go.Lib.hid hS; clear hS))
                  go_ret
                  exact ⟨rfl, HS.out.below⟩
end Go.Proofs.Ytnpjbdaaoknkbaa.Frm
