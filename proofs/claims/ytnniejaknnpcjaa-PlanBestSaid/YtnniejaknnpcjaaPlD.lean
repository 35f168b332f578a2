/- PlanBest: the walk. -/
import Derived.Test.YtnniejaknnpcjaaPlE1
import Derived.Test.YtnniejaknnpcjaaPlA
namespace Go.Proofs.Ytnniejaknnpcjaa.PlW
open Go.RowKit Go.Proofs.YtnniejaknnpcjaaW.PrintWords Go.Proofs.YtnniejaknnpcjaaW.PrintLast Go.Proofs.YtnniejaknnpcjaaW.PrintMore Go.Proofs.Ytnniejaknnpcjaa.Mine Go.Proofs.Ytnniejaknnpcjaa.PPlanWords
open Go.Proofs.Ytnniejaknnpcjaa.Sl (SL Stp Chg St No)
set_option linter.unusedVariables false
set_option linter.unusedSimpArgs false
attribute [local go_sem] max2_int min2_int max_two min_two max_three min_three max_four min_four
open Go.Proofs.Ytnniejaknnpcjaa.Edf (cnt)
/-- The needs that a word meets, of the first k periods. -/
structure NsOk (xs ps : List Int) (k : Nat) (ns : List S69) : Prop where
  len : ns.length = k
  id : ∀ j, j < k → (ns.getD j z69).f0 = (j : Int)
  per : ∀ j, j < k → (ns.getD j z69).f1 = (pN ns j : Int) ∧ 1 ≤ pN ns j ∧ pN ns j ≤ xs.length ∧ xs.length % pN ns j = 0
  bud : ∀ j, j < k → 0 ≤ (ns.getD j z69).f2 ∧ (ns.getD j z69).f2 ≤ (ns.getD j z69).f1
  met : ∀ j s, j < k → s % pN ns j = 0 → s + pN ns j ≤ xs.length → bN ns j ≤ cnt (has xs (j : Int)) s (pN ns j)
theorem getD_app (ns : List S69) (x : S69) (j : Nat) : (ns ++ [x]).getD j z69 = if j < ns.length then ns.getD j z69 else if j = ns.length then x else z69 := by
  rw [List.getD_eq_getElem?_getD, List.getD_eq_getElem?_getD]
  by_cases e : j < ns.length
  · rw [if_pos e, List.getElem?_append_left e]
  · rw [if_neg e, List.getElem?_append_right (by omega)]
    by_cases e2 : j = ns.length
    · subst e2; rw [if_pos rfl, Nat.sub_self]; rfl
    · rw [if_neg e2, List.getElem?_eq_none (by simp; omega)]; rfl
theorem NsOk.snoc {xs ps : List Int} {k : Nat} {ns : List S69} (h : NsOk xs ps k ns) {p : Nat} {r : Int} (hp : 1 ≤ p) (hp2 : p ≤ xs.length) (hm : xs.length % p = 0) (hr : r ≤ p) (hr0 : 0 ≤ r) (hs : ∀ s, s % p = 0 → s + p ≤ xs.length → r ≤ cnt (has xs (k : Int)) s p) :
    NsOk xs ps (k + 1) (ns ++ [⟨(k : Int), (p : Int), r⟩]) := by
  have hl := h.len
  have ga : ∀ j, j < k → (ns ++ [(⟨(k : Int), (p : Int), r⟩ : S69)]).getD j z69 = ns.getD j z69 := fun j hj => by rw [getD_app, if_pos (by omega)]
  have gb : (ns ++ [(⟨(k : Int), (p : Int), r⟩ : S69)]).getD k z69 = ⟨(k : Int), (p : Int), r⟩ := by rw [getD_app, if_neg (by omega), if_pos hl.symm]
  have pa : ∀ j, j < k → pN (ns ++ [(⟨(k : Int), (p : Int), r⟩ : S69)]) j = pN ns j := fun j hj => by unfold pN; rw [ga j hj]
  have pb : pN (ns ++ [(⟨(k : Int), (p : Int), r⟩ : S69)]) k = p := by unfold pN; rw [gb]; simp
  have ba : ∀ j, j < k → bN (ns ++ [(⟨(k : Int), (p : Int), r⟩ : S69)]) j = bN ns j := fun j hj => by unfold bN; rw [ga j hj]
  have bb : bN (ns ++ [(⟨(k : Int), (p : Int), r⟩ : S69)]) k = r := by unfold bN; rw [gb]
  refine ⟨by simp; omega, fun j hj => ?_, fun j hj => ?_, fun j hj => ?_, fun j s hj => ?_⟩ <;> (by_cases e : j < k)
  · rw [ga j e]; exact h.id j e
  · obtain rfl : j = k := by omega
    rw [gb]
  · rw [ga j e, pa j e]; exact h.per j e
  · obtain rfl : j = k := by omega
    rw [gb, pb]; exact ⟨rfl, hp, hp2, hm⟩
  · rw [ga j e]; exact h.bud j e
  · obtain rfl : j = k := by omega
    rw [gb]; exact ⟨hr0, hr⟩
  · rw [pa j e, ba j e]; exact h.met j s e
  · obtain rfl : j = k := by omega
    rw [pb, bb]; exact hs s
theorem NsOk.right {xs ps : List Int} {ns : List S69} (h : NsOk xs ps ns.length ns) (hn : ns.length ≤ 8) : ∀ i, i < ns.length → Right xs.length ns i := by
  intro i hi
  have h1 := h.id i hi
  have h2 := h.per i hi
  have h3 := h.bud i hi
  refine ⟨by omega, by omega, fun h0 => by have := h.id (i - 1) (by omega); omega, by omega, ?_, by omega, by omega⟩
  rw [h2.1]
  have := h2.2.2.2
  omega
theorem planBest_plain {xs ps : List Int} {ns : List S69} (h : NsOk xs ps ns.length ns) (hn : ns.length ≤ 8) (hx0 : 0 < xs.length) (hx : xs.length ≤ 60) :
    ∃ s, mk ns xs.length = some s ∧ (∀ x ∈ s.1, x ≤ 0) ∧ s.2.length = xs.length ∧ ∀ j, j < ns.length → ∃ r, PPlanBest.countwheelref14_Least.f 200 s.2 (ns.getD j z69).f0 (ns.getD j z69).f1 = some r ∧ (ns.getD j z69).f2 ≤ r := by
  have hR := h.right hn
  have hper := per_of (fr := xs.length) (by omega) (by omega) hR
  have hbud := bud_of (fr := xs.length) (by omega) (by omega) hR
  obtain ⟨s, h1, h2, h3⟩ := make_best hx0 hper hbud (fun k hk => (h.per k hk).2.2.2) h.id xs (fun k s hk hs hle => h.met k s hk hs hle)
  have hl := (mk_len ns _ s h1).2
  refine ⟨s, h1, h2, hl, fun j hj => ?_⟩
  obtain ⟨g1, g2, g3, g4⟩ := h.per j hj
  obtain ⟨r, r1, r2, r3, r4, r5⟩ := least_is (l := s.2) (ns.getD j z69).f0 (p := pN ns j) (by omega) g2 (by omega) (by rw [hl]; exact g4) 200 (by omega)
  rw [← g1] at r1
  refine ⟨r, r1, r5 _ (by have := (h.bud j hj).2; omega) (fun a ha hle => ?_)⟩
  rw [h.id j hj]
  exact h3 j a hj ha (by omega)
set_option maxHeartbeats 6400000 in
set_option maxRecDepth 100000 in
theorem planBest_walk (w : World) (A : Option Addr) (n c : Nat) (xs : List Int) (hx : n ≤ c ∧ (Kd.int .i64).C w A n xs ∧ ∀ z ∈ xs, (Lit.int .i64 z).wf = true) (A2 : Option Addr) (n2 c2 : Nat) (ps : List Int) (hp : n2 ≤ c2 ∧ (Kd.int .i64).C w A2 n2 ps ∧ ∀ z ∈ ps, (Lit.int .i64 z).wf = true) :
    Calls Try.prog 8 #[.slice A n c, .slice A2 n2 c2] w fun e w' => e = .returned (.bool true) ∧ Below w.heap.size w w' := by
  obtain ⟨hnc, hC, _⟩ := hx
  obtain ⟨hnc2, hC2, hwf⟩ := hp
  obtain rfl : xs.length = n := hC.1
  obtain rfl : ps.length = n2 := hC2.1
  have HC := Go.Lib.hid hC
  have HC2 := Go.Lib.hid hC2
  have HWF := Go.Lib.hid hwf
  have HS := Go.Lib.hid (St.start w)
  clear hC hC2 hwf
  by_cases h1 : (60 : Int) < xs.length
  · have d1 : decide ((60 : Int) < (xs.length : Int)) = true := by simpa using h1
    clear h1
    go_enter Try.func8, Try.ntmps8
    go_wp2_with (go_at_call 38; refine (awake_is _).mono ?_; rintro e w' ⟨rfl, hB⟩)
    go_ret
    exact ⟨rfl, hB⟩
  · have d1 : decide ((60 : Int) < (xs.length : Int)) = false := by simpa using h1
    by_cases h2 : (xs.length : Int) = 0
    · have d2 : ((xs.length : Int) == 0) = true := by rw [beq_iff_eq]; exact h2
      clear h1 h2
      go_enter Try.func8, Try.ntmps8
      go_wp2_with (go_at_call 38; refine (awake_is _).mono ?_; rintro e w' ⟨rfl, hB⟩)
      go_ret
      exact ⟨rfl, hB⟩
    · have d2 : ((xs.length : Int) == 0) = false := by rw [beq_eq_false_iff_ne]; exact h2
      by_cases h3 : (8 : Int) < ps.length
      · have d3 : decide ((8 : Int) < (ps.length : Int)) = true := by simpa using h3
        clear h1 h2 h3
        go_enter Try.func8, Try.ntmps8
        go_wp2_with (go_at_call 38; refine (awake_is _).mono ?_; rintro e w' ⟨rfl, hB⟩)
        go_ret
        exact ⟨rfl, hB⟩
      · have d3 : decide ((8 : Int) < (ps.length : Int)) = false := by simpa using h3
        have hx60 : xs.length ≤ 60 := by omega
        have hx0 : 0 < xs.length := by omega
        have hp8 : ps.length ≤ 8 := by omega
        clear h1 h2 h3
        go_enter Try.func8, Try.ntmps8
        go_wp2_with fail
        clear d1 d2 d3
        go_loopw [5, 28] (fun a i wr => ∃ (k : Nat) (ns : List S69) (A5 : Option Addr) (c5 : Nat), k ≤ ps.length ∧ a = .slice A5 ns.length c5 ∧ i = .int .i64 k ∧ NsOk xs ps k ns ∧ St [SL.row k69 69 (.slice A5 ns.length c5) ns] w wr) (fun _ i _ => ps.length - (intOf i).toNat)
        case atStart => exact ⟨0, [], none, 0, Nat.zero_le _, rfl, rfl, ⟨rfl, fun j h => by omega, fun j h => by omega, fun j h => by omega, fun j s h => by omega⟩, HS.out.nilrow k69 69⟩
        case round =>
          clear HS
          obtain ⟨k, ns, A5, c5, hk, rfl, rfl, hns, hS⟩ := hrel
          have HS := Go.Lib.hid hS
          have HNS := Go.Lib.hid hns
          have HNL := Go.Lib.hid hns.len
          clear hS hns
          by_cases hlt : k < ps.length
          · obtain ⟨ad, rfl, g0⟩ := Kd.at_int HC2.out (k : Int) (by omega) (by omega)
            rw [Int.toNat_natCast] at g0
            replace g0 := HS.out.old g0
            have hpw := HWF.out _ (show rd ps (k : Int) ∈ ps by unfold rd; rw [Int.toNat_natCast]; exact getD_mem ps 0 k hlt)
            generalize rd ps (k : Int) = pk at *
            by_cases hp1 : pk < 1
            · have d1 : decide (pk < 1) = true := by simpa using hp1
              clear hp1
              go_wp2_with (go_at_call 38; refine (awake_is _).mono ?_; rintro e w70_ ⟨rfl, hB⟩; replace HS := Go.Lib.hid (HS.out.then_ hB); clear hB)
              go_ret
              exact ⟨rfl, HS.out.below⟩
            · have d1 : decide (pk < 1) = false := by simpa using hp1
              have hp0 : 1 ≤ pk := by omega
              by_cases hpm : (xs.length : Int) % pk = 0
              · have d2 : ((xs.length : Int) % pk != 0) = false := by rw [bne_eq_false_iff_eq]; exact hpm
                obtain ⟨q, hq⟩ : ∃ q : Nat, pk = (q : Int) := ⟨pk.toNat, by omega⟩
                have hq1 : 1 ≤ q := by omega
                have hqm : xs.length % q = 0 := by rw [hq] at hpm; omega
                have hql : q ≤ xs.length := Nat.le_of_dvd hx0 (Nat.dvd_of_mod_eq_zero hqm)
                obtain ⟨r, r1, r2, r3, r4, _⟩ := least_is (l := xs) (k : Int) (p := q) (by omega) hq1 (by omega) hqm 200 (by omega)
                rw [← hq] at r1
                have HR := Go.Lib.hid r1
                have HSN := Go.Lib.hid (HNS.out.snoc hq1 hql hqm r2 r3 r4)
                have HQ := Go.Lib.hid hq
                have hbo : (ns.length + 1) * 24 ≤ 140737488355328 := by have := HNL.out; omega
                clear hp1 hpm hqm r1 r2 r3 r4 hq hq1 hql
                go_wp2_with fail
                refine (PPlanBest.countwheelref14_Least.calls 200 A c xs (k : Int) pk r _ (HS.out.C HC.out) hnc HR.out).mono ?_
                rintro e w70_ ⟨rfl, hD⟩
                replace HS := Go.Lib.hid (HS.out.drawn hD)
                clear hD
                go_wp2_with (first | ((with_reducible refine gate_dst (N := 52) rfl ?_); refine Sl.append_st (k69) ((flat_iso (flat_pair (flat_int .i64) (flat_pair (flat_int .i64) (flat_int .i64))))) HS.out 0 ((.slice A5 ns.length c5)) (ns) 69 rfl (by rfl) (.tmp 43) (.tmp 51) 44 (.agg #[.int .i64 0, .int .i64 0, .int .i64 0]) 24 rfl Try.underlying44 (by kernel_rfl) rfl (by decide) (by decide) ((⟨(k : Int), pk, r⟩ : S69)) [.int .i64 k, .int .i64 pk, .int .i64 r] rfl rfl ?hp ?hb ?_; (case hp => first | rfl | exact k69_mk _ _); (case hb => exact hbo); intro v1_ w71_ HSn; obtain ⟨A9_, c9_, hv2_, _⟩ := HSn.rowC 0 rfl; subst hv2_; replace HS : Hid (St (SL.row (k69) 69 (.slice A9_ (ns ++ [(⟨(k : Int), pk, r⟩ : S69)]).length c9_) (ns ++ [(⟨(k : Int), pk, r⟩ : S69)]) :: []) w w71_) := Go.Lib.hid HSn; clear HSn))
                go_roundw
                case rel => exact ⟨k + 1, ns ++ [⟨(k : Int), pk, r⟩], A9_, c9_, hlt, by first | rfl | (rw [List.length_append]; rfl), rfl, by rw [HQ.out]; exact HSN.out, HS.out⟩
                case measure => simp [intOf]; omega
              · have d2 : ((xs.length : Int) % pk != 0) = true := by rw [bne_iff_ne]; exact hpm
                clear hp1 hpm
                go_wp2_with (go_at_call 38; refine (awake_is _).mono ?_; rintro e w70_ ⟨rfl, hB⟩; replace HS := Go.Lib.hid (HS.out.then_ hB); clear hB)
                go_ret
                exact ⟨rfl, HS.out.below⟩
          · obtain rfl : k = ps.length := by omega
            have hnl := HNL.out
            rw [← hnl] at HNS
            have hn8 : ns.length ≤ 8 := by omega
            clear hnl
            obtain ⟨sf, h1, h2, h3, h4⟩ := planBest_plain HNS.out hn8 hx0 hx60
            have HM := Go.Lib.hid h1
            have HLF := Go.Lib.hid h2
            have HLE := Go.Lib.hid h4
            have HR := Go.Lib.hid (HNS.out.right hn8)
            have H3 := Go.Lib.hid h3
            clear h1 h2 h3 h4 hk
            go_wp2_with fail
            obtain ⟨_, _, hv, hcn, hCn⟩ := HS.out.rowC 0 rfl
            injection hv with q1 _ q3
            subst q1 q3
            refine (make_ok xs.length (by omega) (by omega) A5 c5 ns (by omega) hcn HR.out _ hCn sf HM.out HLF.out).mono ?_
            rintro e w80 ⟨A8, c8, rfl, HSn⟩
            obtain ⟨gt, hgt⟩ : ∃ gt, gt = sf.2 := ⟨_, rfl⟩
            rw [← hgt] at HSn HLE H3 ⊢
            clear hgt
            replace HS : Hid (St [SL.row (Kd.int .i64) 3 (.slice A8 gt.length c8) gt, SL.row k69 69 (.slice A5 ns.length c5) ns] w w80) := Go.Lib.hid (HS.out.join1 HSn)
            clear HSn hCn hcn
            have d1 : ((gt.length : Int) != (xs.length : Int)) = false := by rw [H3.out]; simp
            go_wp2_with fail
            clear d1
            go_loopw [72] (fun i wr => ∃ k : Nat, k ≤ ns.length ∧ i = .int .i64 k ∧ St [SL.row (Kd.int .i64) 3 (.slice A8 gt.length c8) gt, SL.row k69 69 (.slice A5 ns.length c5) ns] w wr) (fun i _ => ns.length - (intOf i).toNat)
            case atStart => exact ⟨0, Nat.zero_le _, rfl, HS.out⟩
            case round =>
              clear HS
              obtain ⟨k, hk, rfl, hS⟩ := hrel
              have HS := Go.Lib.hid hS
              clear hS
              by_cases hlt : k < ns.length
              · obtain ⟨r2, hl1, hl2⟩ := HLE.out k hlt
                obtain ⟨_, _, hv, hcn, hCn⟩ := HS.out.rowC 1 rfl
                injection hv with q1 _ q3
                subst q1 q3
                obtain ⟨ad, q, g0, g1, g2⟩ := at_T69 hCn (k : Int) (by omega) (by omega)
                subst q
                unfold rd_T69 at g0 g1 g2
                rw [Int.toNat_natCast] at g0 g1 g2
                generalize ns.getD k z69 = nd at *
                have HLG := Go.Lib.hid hl1
                have d5 : decide (r2 < nd.f2) = false := by simpa using hl2
                clear hl1 hl2 hCn hcn
                go_upto_region 17 with (first | ((with_reducible refine gate_dst (N := 11) rfl ?_); refine Sl.box_st HS.out (by rfl) (cs := #[.int .i64 0, .int .i64 0, .int .i64 0]) (t := 69) ?hr ?_; (case hr => first | (go_simp; done) | (go_simp; rfl)); intro g11 w81_ HSn HBn; clear HBn; replace HS : Hid (St (SL.blk g11 69 #[.int .i64 0, .int .i64 0, .int .i64 0] :: SL.row (Kd.int .i64) 3 (.slice A8 gt.length c8) gt :: SL.row k69 69 (.slice (some ad) ns.length c5) ns :: []) w w81_) := Go.Lib.hid HSn; clear HSn; obtain ⟨c0_0, c0_1, c0_2⟩ := HS.out.c3 0 _ _ _ _ _ rfl) | ((with_reducible refine gate_store (p := 11) rfl ?_); refine Sl.storeAll_st HS.out 0 g11 69 _ rfl [.int .i64 nd.f0, .int .i64 nd.f1, .int .i64 nd.f2] rfl (by rfl) (by rfl) ?hr ?_; (case hr => have f_ := HS.out.f3 0 _ _ _ _ _ rfl; (try obtain ⟨f0, f1, f2⟩ := f_); first | (go_simp; done) | (go_simp; rfl)); intro w82_ HSn; replace HS : Hid (St (SL.blk g11 69 #[.int .i64 nd.f0, .int .i64 nd.f1, .int .i64 nd.f2] :: SL.row (Kd.int .i64) 3 (.slice A8 gt.length c8) gt :: SL.row k69 69 (.slice (some ad) ns.length c5) ns :: []) w w82_) := Go.Lib.hid HSn; clear HSn; clear c0_0 c0_1 c0_2; obtain ⟨c0_0, c0_1, c0_2⟩ := HS.out.c3 0 _ _ _ _ _ rfl))
                clear g0 g1 g2 c0_0 c0_1 c0_2
                replace HS := Go.Lib.hid HS.out.drew
                obtain ⟨_, _, hv, hcg, hCg⟩ := HS.out.rowC 1 rfl
                injection hv with q1 _ q3
                subst q1 q3
                have HCG := Go.Lib.hid hCg
                clear hCg
                obtain ⟨KG, hKG⟩ : ∃ KG : Nat, KG = 200 := ⟨_, rfl⟩
                rw [← hKG] at HLG
                clear hKG
                refine start_ (n := 9) (S := fun w' => w'.cell? ⟨g11, 0, none⟩ = some (.int .i64 nd.f0) ∧ w'.cell? ⟨g11, 1, none⟩ = some (.int .i64 nd.f1) ∧ w'.cell? ⟨g11, 2, none⟩ = some (.int .i64 nd.f2)) (ds := []) #[false, false, false, false, false, false, false, false, false] (by kernel_rfl) rfl rfl (HS.out.c3 0 _ _ _ _ _ rfl) (fun hHeld => ?_)
                generalize w82_.drew = W_ at *
                refine pure_ (i := 0) (N := some 76) (v := ?_) (a' := ?_) #[true, false, false, false, false, false, false, false, false] rfl rfl (by kernel_rfl) (fun _ _ _ h => h) (Or.inl ⟨by rfl, ?_⟩) ?_ ?_
                rotate_left
                · intro w'
                  go_simp
                  with_reducible rfl
                rotate_left
                · simp only [Act.put, List.setIfInBounds_toArray, List.set_cons_zero, List.set_cons_succ, i64_w, i32_w]
                  rfl
                refine pure_ (i := 1) (N := some 77) (v := ?_) (a' := ?_) #[true, true, false, false, false, false, false, false, false] rfl rfl (by kernel_rfl) (fun _ _ _ h => h) (Or.inl ⟨by rfl, ?_⟩) ?_ ?_
                rotate_left
                · intro w'
                  go_simp
                  with_reducible rfl
                rotate_left
                · simp only [Act.put, List.setIfInBounds_toArray, List.set_cons_zero, List.set_cons_succ, i64_w, i32_w]
                  rfl
                refine pure_ (i := 3) (N := some 79) (v := ?_) (a' := ?_) #[true, true, false, true, false, false, false, false, false] rfl rfl (by kernel_rfl) (fun _ _ _ h => h) (Or.inl ⟨by rfl, ?_⟩) ?_ ?_
                rotate_left
                · intro w'
                  go_simp
                  with_reducible rfl
                rotate_left
                · simp only [Act.put, List.setIfInBounds_toArray, List.set_cons_zero, List.set_cons_succ, i64_w, i32_w]
                  rfl
                refine pure_ (i := 6) (N := some 82) (v := ?_) (a' := ?_) #[true, true, false, true, false, false, true, false, false] rfl rfl (by kernel_rfl) (fun _ _ _ h => h) (Or.inl ⟨by rfl, ?_⟩) ?_ ?_
                rotate_left
                · intro w'
                  go_simp
                  with_reducible rfl
                rotate_left
                · simp only [Act.put, List.setIfInBounds_toArray, List.set_cons_zero, List.set_cons_succ, i64_w, i32_w]
                  rfl
                refine take_ (i := 2) (N := some 78) (v := ?_) (a' := ?_) #[true, true, true, true, false, false, true, false, false] rfl rfl (by kernel_rfl) (fun _ _ _ h => h) (Or.inl ⟨by rfl, ?_⟩) hHeld ?_ ?_
                rotate_left
                · rintro w' ⟨s0, s1, s2⟩
                  go_simp
                  with_reducible rfl
                rotate_left
                · simp only [Act.put, List.setIfInBounds_toArray, List.set_cons_zero, List.set_cons_succ, i64_w, i32_w]
                  rfl
                refine take_ (i := 4) (N := some 80) (v := ?_) (a' := ?_) #[true, true, true, true, true, false, true, false, false] rfl rfl (by kernel_rfl) (fun _ _ _ h => h) (Or.inl ⟨by rfl, ?_⟩) hHeld ?_ ?_
                rotate_left
                · rintro w' ⟨s0, s1, s2⟩
                  go_simp
                  with_reducible rfl
                rotate_left
                · simp only [Act.put, List.setIfInBounds_toArray, List.set_cons_zero, List.set_cons_succ, i64_w, i32_w]
                  rfl
                refine take_ (i := 7) (N := some 83) (v := ?_) (a' := ?_) #[true, true, true, true, true, false, true, true, false] rfl rfl (by kernel_rfl) (fun _ _ _ h => h) (Or.inl ⟨by rfl, ?_⟩) hHeld ?_ ?_
                rotate_left
                · rintro w' ⟨s0, s1, s2⟩
                  go_simp
                  with_reducible rfl
                rotate_left
                · simp only [Act.put, List.setIfInBounds_toArray, List.set_cons_zero, List.set_cons_succ, i64_w, i32_w]
                  rfl
                refine one_ (i := 5) (N := some 81) #[true, true, true, true, true, true, true, true, false] rfl rfl (by kernel_rfl) (by decide) (fun K hK => ?_)
                refine goes_ Try.func39 (by kernel_rfl) rfl #[.slice A8 gt.length c8, .int .i64 nd.f0, .int .i64 nd.f1] (by rfl) rfl rfl (by (try simp only [List.map_toArray, List.map_cons, List.map_nil]); first | done | rfl) ?_
                refine (PPlanBest.countwheelref14_Least.calls KG A8 c8 gt nd.f0 nd.f1 r2 _ HCG.out hcg HLG.out).mono ?_
                rintro e w92 ⟨rfl, hD⟩
                have HSm := HS.out.drawn hD
                refine ⟨_, rfl, ?_⟩
                refine hK.out _ _ (HSm.c3 0 _ _ _ _ _ rfl) (fun hHeld => ?_)
                clear hK K
                refine norm_ (a' := ?_) ?_ ?_
                rotate_left
                · show Act.put _ (some 81) _ = _
                  simp only [Act.put, List.setIfInBounds_toArray, List.set_cons_zero, List.set_cons_succ, i64_w, i32_w]
                  rfl
                refine pure_ (i := 8) (N := some 84) (v := ?_) (a' := ?_) #[true, true, true, true, true, true, true, true, true] rfl rfl (by kernel_rfl) (fun _ _ _ h => h) (Or.inl ⟨by rfl, ?_⟩) ?_ ?_
                rotate_left
                · intro w'
                  go_simp
                  with_reducible rfl
                rotate_left
                · simp only [Act.put, List.setIfInBounds_toArray, List.set_cons_zero, List.set_cons_succ, i64_w, i32_w]
                  rfl
                refine done_ (by kernel_rfl) ?_
                replace HS := Go.Lib.hid HSm
                clear HSm HCG
                go_wp2_with fail
                go_roundw
                case rel => exact ⟨k + 1, hlt, rfl, HS.out.drop⟩
                case measure => simp [intOf]; omega
              · go_wp2_with fail
                refine (awake_is _).mono ?_
                rintro e w90 ⟨rfl, hB⟩
                replace HS := Go.Lib.hid (HS.out.then_ hB)
                clear hB
                go_wp2_with fail
                go_ret
                exact ⟨rfl, HS.out.below⟩
end Go.Proofs.Ytnniejaknnpcjaa.PlW
