/- GanttReads, walked. -/
import Derived.Test.YtolokohgphdngaaGns
import Derived.Test.YtolokohgphdngaaOst
namespace Go.Proofs.Ytolokohgphdngaa.Gnt
open Go.RowKit Go.Proofs.YtolokohgphdngaaW.PrintWords Go.Proofs.YtolokohgphdngaaW.PrintLast Go.Proofs.YtolokohgphdngaaW.PrintMore Go.Proofs.Ytolokohgphdngaa.Mine Go.Proofs.Ytolokohgphdngaa.PGanttReads
open Go.Proofs.Ytolokohgphdngaa.Sl (SL Stp Chg St No)
set_option linter.unusedVariables false
set_option linter.unusedSimpArgs false
attribute [local go_sem] max2_int min2_int max_two min_two max_three min_three max_four min_four
variable {l : List SL} {w0 w : World}
section
variable {P : Program} {ops : Array Oper} {rest : List Oper} {o : Oper} {a : Act} {Q : Exit → Act → World → Prop} {W : World}
theorem slit_st (HS : St l w0 W) (hgd : o.guard = none) {cs : Array Value} {t n : Nat} (hrun : (execOp a.eval o).run P W = .ok (.value (.slice (some ⟨W.heap.size, 0, none⟩) n n)) (W.alloc (.cells cs t (0, 0))))
    (h : ∀ g w1, St (SL.blk g t cs :: l) w0 w1 → wpList P ops Q rest (a.put o.dst (.slice (some ⟨g, 0, none⟩) n n)) w1) : wpList P ops Q (o :: rest) a W :=
  Kd.event_run hgd hrun (h _ _ (HS.box t cs))
end
theorem one_txt : txt (Win.wordOf (4 : Int).toNat [⟨1, 1, 2⟩]) = ⟨#[46, 49, 49, 46]⟩ := by decide +kernel
set_option maxHeartbeats 3200000 in
set_option maxRecDepth 100000 in
theorem awake_st (h : St l w0 w) : Calls Try.prog 50 #[] w fun e w' => e = .returned (.bool true) ∧ St l w0 w' := by
  have HS := Go.Lib.hid h
  clear h
  have hs : ∀ (g : Nat) (W : World), St (SL.blk g 153 #[.int .i64 1, .int .i64 1, .int .i64 2] :: l) w0 W → Calls Try.prog 67 #[.agg #[.int .i64 0, .int .i64 4, .slice (some ⟨g, 0, none⟩) 1 1, .slice none 0 0]] W fun e w' => e = .returned (.string ⟨#[46, 49, 49, 46]⟩) ∧ St (SL.blk g 153 #[.int .i64 1, .int .i64 1, .int .i64 2] :: l) w0 w' := fun g W h => by
    have hb := h.heap 0 _ _ _ rfl
    have hlt : g < W.heap.size := (Array.getElem?_eq_some_iff.1 hb).1
    have := sched_st h 0 4 (some ⟨g, 0, none⟩) 1 1 none 0 0 [⟨1, 1, 2⟩] (.inr ⟨g, 0, 1, rfl, hlt, fun j hj => by
      have hj0 : j = 0 := by simpa using hj
      subst hj0
      exact ⟨blk_cell hb 0, blk_cell hb 1, blk_cell hb 2⟩⟩) (by decide) (by decide)
    rw [one_txt] at this
    exact this
  have HH := Go.Lib.hid hs
  clear hs
  go_enter Try.func50, Try.ntmps50
  go_wp2_with (first | ((with_reducible refine gate_dst (N := 2) rfl ?_); refine slit_st HS.out (by rfl) (cs := #[.int .i64 1, .int .i64 1, .int .i64 2]) (t := 153) (n := 1) (by first | (go_simp; done) | (go_simp; rfl)) ?_; intro g w1 HSn; replace HS := Go.Lib.hid HSn; clear HSn) | (go_at_call 67; refine (HH.out _ _ HS.out).mono ?_; rintro e w2 ⟨rfl, HSn⟩; replace HS := Go.Lib.hid HSn; clear HSn))
  go_ret
  exact ⟨rfl, HS.out.drop⟩
theorem readL_len : ∀ (l : List Nat) (acc : List Int), (readL l acc).1.length ≤ acc.length + l.length
  | [], acc => by simp [readL]
  | b :: l, acc => by
    unfold readL
    cases idOf b with
    | none => simp
    | some v => have := readL_len l (acc ++ [v]); simp at this ⊢; omega
theorem read_st (h : St l w0 w) (s : ByteArray) (hs : s.size ≤ 1000) {xs : List Int} {ok : Bool} (hr : readL (bys s) [] = (xs, ok)) : Calls Try.prog 51 #[.string s] w fun e w' => ∃ A c, e = .returned (.tuple #[.slice A xs.length c, .bool ok]) ∧ St (SL.row (Kd.int .i64) 3 (.slice A xs.length c) xs :: l) w0 w' := by
  have hf := read_is s hs
  rw [hr] at hf
  refine (gantt_Read.calls (s.size + 2) s _ _ w hf).mono ?_
  rintro e w' ⟨v, rfl, hR, hB⟩
  have hS := h.row hR hB
  obtain ⟨A, c, hv, _⟩ := hS.rowC 0 rfl
  subst hv
  exact ⟨A, c, rfl, hS⟩
theorem refr_st (h : St l w0 w) (s : ByteArray) (hs : s.size ≤ 1000) {xs : List Int} {ok : Bool} (hr : readL (bys s) [] = (xs, ok)) : Calls Try.prog 52 #[.string s] w fun e w' => ∃ A c, e = .returned (.tuple #[.slice A xs.length c, .bool ok]) ∧ St (SL.row (Kd.int .i64) 3 (.slice A xs.length c) xs :: l) w0 w' := by
  have := ref_st h s hs
  rw [hr] at this
  exact this
theorem same_st (h : St l w0 w) {A B : Option Addr} {n m c d : Nat} {xs : List Int} (h1 : (Kd.int .i64).C w A n xs) (h1c : n ≤ c) (h2 : (Kd.int .i64).C w B m xs) (h2c : m ≤ d) (hl : xs.length ≤ 1000000) : Calls Try.prog 53 #[.slice A n c, .slice B m d] w fun e w' => e = .returned (.bool true) ∧ St l w0 w' := by
  obtain rfl : xs.length = n := h1.1
  obtain rfl : xs.length = m := h2.1
  exact (countwheelref10_SameInts.calls (xs.length + 1) A c xs B d xs true w h1 h1c h2 h2c (same_is xs hl)).mono fun _ _ ⟨he, hd⟩ => ⟨he, h.drawn hd⟩
theorem rsigns_st (h : St l w0 w) {A : Option Addr} {n c : Nat} {xs : List Int} {t : ByteArray} (h1 : (Kd.int .i64).C w A n xs) (h1c : n ≤ c) (ht : countwheelref36_Signs.f (xs.length + 1) xs = some t) : Calls Try.prog 54 #[.slice A n c] w fun e w' => e = .returned (.string t) ∧ St l w0 w' := by
  obtain rfl : xs.length = n := h1.1
  exact (countwheelref36_Signs.calls (xs.length + 1) A c xs t w h1 h1c ht).mono fun _ _ ⟨he, hd⟩ => ⟨he, h.drawn hd⟩
set_option maxHeartbeats 6400000 in
set_option maxRecDepth 100000 in
theorem ganttReads_walk (w : World) (s : ByteArray) (wf : s.size ≤ maxLen) (A : Option Addr) (n c : Nat) (xs : List Int) (hr : n ≤ c ∧ (Kd.int .i64).C w A n xs ∧ ∀ z ∈ xs, (Lit.int .i64 z).wf = true) : Calls Try.prog 8 #[.string s, .slice A n c] w fun e w' => e = .returned (.bool true) ∧ Below w.heap.size w w' := by
  have hC := Go.Lib.hid hr.2.1
  have hnc := hr.1
  have hlen : xs.length = n := hr.2.1.1
  have HLen := Go.Lib.hid hlen
  clear hr hlen wf
  have HS := Go.Lib.hid (St.start w)
  by_cases h1 : (200 : Int) < (s.size : Int)
  · have h1' : decide ((200 : Int) < (s.size : Int)) = true := by simpa using h1
    clear h1
    go_enter Try.func8, Try.ntmps8
    go_wp2_with fail
    refine (awake_st HS.out).mono ?_
    rintro e w2 ⟨rfl, HSn⟩
    replace HS := Go.Lib.hid HSn
    clear HSn
    go_wp2_with fail
    go_ret
    exact ⟨rfl, HS.out.below⟩
  have h1' : decide ((200 : Int) < (s.size : Int)) = false := by simpa using h1
  have hs : s.size ≤ 1000 := by omega
  clear h1
  by_cases h2 : (200 : Int) < (n : Int)
  · have h2' : decide ((200 : Int) < (n : Int)) = true := by simpa using h2
    clear h2
    go_enter Try.func8, Try.ntmps8
    go_wp2_with fail
    refine (awake_st HS.out).mono ?_
    rintro e w2 ⟨rfl, HSn⟩
    replace HS := Go.Lib.hid HSn
    clear HSn
    go_wp2_with fail
    go_ret
    exact ⟨rfl, HS.out.below⟩
  have h2' : decide ((200 : Int) < (n : Int)) = false := by simpa using h2
  have hn : n ≤ 1000 := by omega
  clear h2
  obtain ⟨r1, r2, hrr⟩ : ∃ a b, readL (bys s) [] = (a, b) := ⟨_, _, rfl⟩
  have hrl : r1.length ≤ 1000000 := by
    have := readL_len (bys s) []
    rw [hrr, bys_len] at this
    simp at this
    omega
  have HRR := Go.Lib.hid hrr
  clear hrr
  go_enter Try.func8, Try.ntmps8
  go_wp2_with fail
  refine (read_st HS.out s hs HRR.out).mono ?_
  rintro e w2 ⟨A1, c1, rfl, HSn⟩
  replace HS := Go.Lib.hid HSn
  clear HSn
  go_wp2_with fail
  refine (refr_st HS.out s hs HRR.out).mono ?_
  rintro e w2 ⟨A2, c2, rfl, HSn⟩
  replace HS := Go.Lib.hid HSn
  clear HSn
  obtain ⟨_, _, q1, g1, hC1⟩ := HS.out.rowC 1 rfl
  obtain ⟨_, _, q2, g2, hC2⟩ := HS.out.rowC 0 rfl
  injection q1 with q1a q1b q1c
  injection q2 with q2a q2b q2c
  subst q1a q1c q2a q2c
  clear q1b q2b
  have HC1 := Go.Lib.hid hC1
  have HC2 := Go.Lib.hid hC2
  clear hC1 hC2
  go_wp2_with fail
  refine (same_st HS.out HC1.out g1 HC2.out g2 hrl).mono ?_
  rintro e w2 ⟨rfl, HSn⟩
  replace HS := Go.Lib.hid HSn
  clear HSn
  clear HC1 HC2
  go_wp2_with fail
  go_loopw [43] (fun i wr => ∃ k : Nat, k ≤ n ∧ i = .int .i64 k ∧ (∀ v ∈ xs.take k, -1 ≤ v ∧ v ≤ 35) ∧ St [SL.row (Kd.int .i64) 3 (.slice A2 r1.length c2) r1, SL.row (Kd.int .i64) 3 (.slice A1 r1.length c1) r1] w wr) (fun i _ => n - (intOf i).toNat)
  case atStart => exact ⟨0, Nat.zero_le _, rfl, fun v hv => by simp at hv, HS.out⟩
  case round =>
    clear HS
    obtain ⟨k, hk, rfl, hv, hS⟩ := hrel
    have HV := Go.Lib.hid hv
    have HS := Go.Lib.hid hS
    clear hS hv
    by_cases hlt : k < n
    · obtain ⟨ad, rfl, g0⟩ := Kd.at_int (HS.out.C hC.out) (k : Int) (by omega) (by omega)
      rw [Int.toNat_natCast] at g0
      have hxk : rd xs (k : Int) = xs[k]'(by rw [HLen.out]; exact hlt) := rd_at xs k _
      have hnx : xs.take (k + 1) = xs.take k ++ [rd xs (k : Int)] := by rw [hxk, List.take_succ_eq_append_getElem (by rw [HLen.out]; exact hlt)]
      generalize rd xs (k : Int) = x at *
      have HNX := Go.Lib.hid hnx
      clear hnx hxk
      by_cases hx0 : x < -1
      · have d0 : decide (x < -1) = true := by simpa using hx0
        clear hx0
        go_wp2_with fail
        refine (awake_st HS.out).mono ?_
        rintro e w2 ⟨rfl, HSn⟩
        replace HS := Go.Lib.hid HSn
        clear HSn
        go_wp2_with fail
        go_ret
        exact ⟨rfl, HS.out.below⟩
      have d0 : decide (x < -1) = false := by simpa using hx0
      by_cases hx1 : 35 < x
      · have d1 : decide (35 < x) = true := by simpa using hx1
        clear hx0 hx1
        go_wp2_with fail
        refine (awake_st HS.out).mono ?_
        rintro e w2 ⟨rfl, HSn⟩
        replace HS := Go.Lib.hid HSn
        clear HSn
        go_wp2_with fail
        go_ret
        exact ⟨rfl, HS.out.below⟩
      have d1 : decide (35 < x) = false := by simpa using hx1
      have hv2 : ∀ v ∈ xs.take (k + 1), -1 ≤ v ∧ v ≤ 35 := by
        intro v hv
        rw [HNX.out, List.mem_append, List.mem_singleton] at hv
        rcases hv with hv | rfl
        · exact HV.out v hv
        · omega
      have HV2 := Go.Lib.hid hv2
      clear hx0 hx1 hv2
      go_wp2_with fail
      go_roundw
      case rel => exact ⟨k + 1, by omega, rfl, HV2.out, HS.out⟩
      case measure => simp [intOf]; omega
    · have hkn : k = n := by omega
      have hv3 : ∀ v ∈ xs, -1 ≤ v ∧ v ≤ 35 := by have := HV.out; rw [hkn, List.take_of_length_le (by rw [HLen.out]; exact Nat.le_refl _)] at this; exact this
      obtain ⟨t, ht, htb⟩ := signs_is xs (by rw [HLen.out]; omega) hv3
      have hrt : readL (bys t) [] = (xs, true) := by rw [htb, readL_signs xs [] hv3]; rfl
      have hts : t.size ≤ 1000 := by rw [← bys_len, htb, List.length_map, HLen.out]; exact hn
      have hxl : xs.length ≤ 1000000 := by rw [HLen.out]; omega
      have HT := Go.Lib.hid ht
      have HRT := Go.Lib.hid hrt
      have HXL := Go.Lib.hid hxl
      clear ht htb hrt hv3 HV hxl hkn
      go_wp2_with fail
      refine (rsigns_st HS.out (HS.out.C hC.out) hnc HT.out).mono ?_
      rintro e w2 ⟨rfl, HSn⟩
      replace HS := Go.Lib.hid HSn
      clear HSn
      go_wp2_with fail
      refine (read_st HS.out t hts HRT.out).mono ?_
      rintro e w2 ⟨A3, c3, rfl, HSn⟩
      replace HS := Go.Lib.hid HSn
      clear HSn
      obtain ⟨_, _, q1, g1, hC1⟩ := HS.out.rowC 0 rfl
      injection q1 with q1a q1b q1c
      subst q1a q1c
      clear q1b
      have HC1 := Go.Lib.hid hC1
      clear hC1
      go_wp2_with fail
      refine (same_st HS.out HC1.out g1 (HS.out.C hC.out) hnc HXL.out).mono ?_
      rintro e w2 ⟨rfl, HSn⟩
      replace HS := Go.Lib.hid HSn
      clear HSn
      go_wp2_with fail
      refine (awake_st HS.out).mono ?_
      rintro e w2 ⟨rfl, HSn⟩
      replace HS := Go.Lib.hid HSn
      clear HSn
      go_wp2_with fail
      go_ret
      exact ⟨rfl, HS.out.below⟩
end Go.Proofs.Ytolokohgphdngaa.Gnt
