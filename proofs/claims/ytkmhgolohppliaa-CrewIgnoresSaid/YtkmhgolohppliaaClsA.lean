/- ClsA: texts of one matter, laid together. -/
import Derived.Test.YtkmhgolohppliaaCelA
import Derived.Test.YtkmhgolohppliaaSl
import Derived.Test.YtkmhgolohppliaaSle
import Derived.Test.YtkmhgolohppliaaPCellsPlaysx2
/-! Cells as owned memory: what each call of them comes to, among other things that the caller owns. -/
namespace Go.Proofs.Ytkmhgolohppliaa.Cls
open Go.RowKit Go.Proofs.Ytkmhgolohppliaa.PCellsPlays Go.Proofs.YtkmhgolohppliaaW.PrintWords Go.Proofs.YtkmhgolohppliaaW.PrintLast Go.Proofs.YtkmhgolohppliaaW.PrintMore Go.Proofs.Ytkmhgolohppliaa.Mine Go.Proofs.Ytkmhgolohppliaa.Cel
set_option linter.unusedVariables false
set_option linter.unusedSimpArgs false
open Go.Proofs.Ytkmhgolohppliaa.Sl (SL Stp St No)

theorem base0 {w : World} {base g : Nat} {v1 v2 : Value} {fst : List S43} {now : List Int} {wr : Int} (h : IsCells w base g v1 v2 fst now wr) : IsCells w 0 g v1 v2 fst now wr :=
  ⟨h.blk, Nat.zero_le _, Kd.R_lower h.fst_ (Nat.zero_le _), Kd.R_lower h.now_ (Nat.zero_le _), h.len⟩
/-- Cells, owned. -/
def cells (g : Nat) (fst : List S43) (now : List Int) (wr : Int) : SL where
  P S w := ∃ v1 v2, IsCells w 0 g v1 v2 fst now wr ∧ ∀ i, S i ↔ All g v1 v2 i
  lt := by rintro S w ⟨v1, v2, h, hs⟩ i hi; exact h.lt i ((hs i).1 hi)
  move := by
    rintro S w w' ⟨v1, v2, h, hs⟩ hm
    exact ⟨v1, v2, ⟨(hm g ((hs g).2 (.inl rfl))).trans h.blk, h.base_, Kd.R_move h.fst_ (fun k hk => hm k ((hs k).2 (.inr (.inl hk)))), Kd.R_move h.now_ (fun k hk => hm k ((hs k).2 (.inr (.inr hk)))), h.len⟩, hs⟩
theorem chg_ {S : Nat → Prop} {w w1 : World} (h : Cel.Chg S w w1) : Sl.Chg S w w1 := ⟨h.os, h.tape, h.output, h.size, h.block⟩
section
variable {l : List SL} {w0 w : World} {g : Nat} {fst : List S43} {now : List Int} {wr : Int}
theorem new_st (h : St l w0 w) (A : Option Addr) (c : Nat) (hC : k43.C w A fst.length fst) (hn : fst.length ≤ 1000) :
    Calls Try.prog 23 #[.slice A fst.length c] w fun e w' => ∃ g, e = .returned (.pointer (some ⟨g, 0, none⟩)) ∧ St (cells g fst (fst.map (·.f0)) 0 :: l) w0 w' := by
  refine (new_calls A c hC hn).mono ?_
  rintro e w1 ⟨g, v1, v2, rfl, hI, hB⟩
  exact ⟨g, rfl, h.add (A := cells g _ _ _) (S2 := All g v1 v2) ⟨v1, v2, base0 hI, fun _ => Iff.rfl⟩ ⟨Sl.Chg.of_below hB, fun i hi => .inr (hI.ge i hi)⟩⟩
theorem open_ (h : St l w0 w) (n : Nat) (e : l[n]? = some (cells g fst now wr)) : ∃ v1 v2, IsCells w 0 g v1 v2 fst now wr ∧
    ∀ (now2 : List Int) (wr2 : Int) (w1 : World), IsCells w1 0 g v1 v2 fst now2 wr2 → Cel.Chg (Mut g v2) w w1 → St (l.set n (cells g fst now2 wr2)) w0 w1 := by
  obtain ⟨S1, ⟨v1, v2, hI, hs⟩, hk⟩ := h.at_ n _ e
  refine ⟨v1, v2, hI, fun now2 wr2 w1 h1 k1 => hk (cells g fst now2 wr2) w1 S1 ⟨v1, v2, h1, hs⟩ ⟨(chg_ k1).mono (fun i hi => (hs i).2 hi.all), fun i hi => .inl hi⟩⟩
theorem len_eq (h : St l w0 w) (n : Nat) (e : l[n]? = some (cells g fst now wr)) : now.length = fst.length := by
  obtain ⟨v1, v2, hI, _⟩ := open_ h n e
  exact hI.len
theorem set_st (h : St l w0 w) (n : Nat) (e : l[n]? = some (cells g fst now wr)) (i x : Int) (hw0 : 0 ≤ wr) (hw1 : wr ≤ 1000000) :
    Calls Try.prog 25 #[.pointer (some ⟨g, 0, none⟩), .int .i64 i, .int .u32 x] w fun e w' => e = .returned (.bool (inB i now.length)) ∧ St (l.set n (cells g fst (setN now i x) (setM now i wr))) w0 w' := by
  obtain ⟨v1, v2, hI, hk⟩ := open_ h n e
  refine (set_calls hI i x hw0 hw1).mono ?_
  rintro e w1 ⟨rfl, h1, k1⟩
  exact ⟨rfl, hk _ _ _ h1 k1⟩
theorem warm_st (h : St l w0 w) (n : Nat) (e : l[n]? = some (cells g fst now wr)) (hn : fst.length ≤ 1000000) :
    Calls Try.prog 27 #[.pointer (some ⟨g, 0, none⟩)] w fun e w' => e = .returned (.tuple #[]) ∧ St (l.set n (cells g fst (back false fst now fst.length) wr)) w0 w' := by
  obtain ⟨v1, v2, hI, hk⟩ := open_ h n e
  refine (warm_calls hI hn).mono ?_
  rintro e w1 ⟨rfl, h1, k1⟩
  exact ⟨rfl, hk _ _ _ h1 k1⟩
theorem cold_st (h : St l w0 w) (n : Nat) (e : l[n]? = some (cells g fst now wr)) (hn : fst.length ≤ 1000000) :
    Calls Try.prog 28 #[.pointer (some ⟨g, 0, none⟩)] w fun e w' => e = .returned (.tuple #[]) ∧ St (l.set n (cells g fst (fst.map (·.f0)) 0)) w0 w' := by
  obtain ⟨v1, v2, hI, hk⟩ := open_ h n e
  refine (cold_calls hI hn).mono ?_
  rintro e w1 ⟨rfl, h1, k1⟩
  rw [back_all fst now hI.len] at h1
  exact ⟨rfl, hk _ _ _ h1 k1⟩
theorem len_st (h : St l w0 w) (n : Nat) (e : l[n]? = some (cells g fst now wr)) :
    Calls Try.prog 31 #[.pointer (some ⟨g, 0, none⟩)] w fun e w' => e = .returned (.int .i64 (now.length : Int)) ∧ w = w' := by
  obtain ⟨v1, v2, hI, hk⟩ := open_ h n e
  exact len_calls hI
theorem writes_st (h : St l w0 w) (n : Nat) (e : l[n]? = some (cells g fst now wr)) :
    Calls Try.prog 29 #[.pointer (some ⟨g, 0, none⟩)] w fun e w' => e = .returned (.int .i64 wr) ∧ w = w' := by
  obtain ⟨v1, v2, hI, hk⟩ := open_ h n e
  exact writes_calls hI
theorem all_st (h : St l w0 w) (n : Nat) (e : l[n]? = some (cells g fst now wr)) (hn : now.length ≤ 1000000) :
    Calls Try.prog 26 #[.pointer (some ⟨g, 0, none⟩)] w fun e w' => ∃ v, e = .returned v ∧ St (SL.row (Kd.int .u32) 39 v now :: l) w0 w' := by
  obtain ⟨v1, v2, hI, hk⟩ := open_ h n e
  refine (all_calls hI hn).mono ?_
  rintro e w1 ⟨v, rfl, hR, hB⟩
  exact ⟨v, rfl, h.row hR hB⟩
theorem fresh_st (h : St l w0 w) (n : Nat) (e : l[n]? = some (cells g fst now wr)) :
    Calls Try.prog 24 #[.pointer (some ⟨g, 0, none⟩)] w fun e w' => e = .returned (.bool (fresh fst now)) ∧ St l w0 w' := by
  obtain ⟨v1, v2, hI, hk⟩ := open_ h n e
  refine (fresh_calls hI).mono ?_
  rintro e w1 ⟨rfl, hB⟩
  exact ⟨rfl, h.then_ hB⟩
theorem same_st (h : St l w0 w) (n m : Nat) (e : l[n]? = some (cells g fst now wr)) {g2 : Nat} {fst2 : List S43} {now2 : List Int} {wr2 : Int} (e2 : l[m]? = some (cells g2 fst2 now2 wr2)) (hn : now.length ≤ 1000000) :
    Calls Try.prog 30 #[.pointer (some ⟨g, 0, none⟩), .pointer (some ⟨g2, 0, none⟩)] w fun e w' => e = .returned (.bool (decide (now = now2))) ∧ St l w0 w' := by
  obtain ⟨v1, v2, hI, hk⟩ := open_ h n e
  obtain ⟨u1, u2, hJ, hk2⟩ := open_ h m e2
  refine (same_calls hI hJ hn).mono ?_
  rintro e w1 ⟨rfl, hD⟩
  exact ⟨rfl, h.drawn hD⟩
theorem awake_st (h : St l w0 w) : Calls Try.prog 22 #[] w fun e w' => e = .returned (.bool true) ∧ St l w0 w' := by
  refine (awake_calls w).mono ?_
  rintro e w1 ⟨rfl, hB⟩
  exact ⟨rfl, h.then_ hB⟩
end
end Go.Proofs.Ytkmhgolohppliaa.Cls

/-! The document's cells: what each of its functions comes to. -/
namespace Go.Proofs.Ytkmhgolohppliaa.Rfc
open Go.RowKit Go.Proofs.Ytkmhgolohppliaa.PCellsPlays Go.Proofs.YtkmhgolohppliaaW.PrintWords Go.Proofs.YtkmhgolohppliaaW.PrintLast Go.Proofs.YtkmhgolohppliaaW.PrintMore Go.Proofs.Ytkmhgolohppliaa.Mine Go.Proofs.Ytkmhgolohppliaa.Cel
open Go.Proofs.Ytkmhgolohppliaa.Sl (SL Stp St No)
set_option linter.unusedVariables false
set_option linter.unusedSimpArgs false
attribute [local go_sem] max2_int min2_int max_two min_two max_three min_three max_four min_four
variable {l : List SL} {w0 w : World} {g : Nat} {fst : List S43} {now : List Int} {wr : Int}
theorem back_rd (fst : List S43) (now : List Int) (hl : now.length = fst.length) (cold : Bool) (j : Nat) (hj : j < fst.length) : (back cold fst now fst.length)[j]? = some (if goes cold (rd_T43 fst j) = true then (rd_T43 fst j).f0 else rd now j) := by
  rw [back_get fst now hl cold fst.length j (Nat.le_refl _) hj, rd43_get fst j hj, rd_nat now j (by omega)]
  simp only [hj, true_and]

set_option maxHeartbeats 800000 in
set_option maxRecDepth 100000 in
theorem set_no (A : Option Addr) (n c : Nat) (A2 : Option Addr) (n2 c2 : Nat) (wr i x : Int) (h : inB i n2 = false) :
    Calls Try.prog 33 #[.agg #[.slice A n c, .slice A2 n2 c2, .int .i64 wr], .int .i64 i, .int .u32 x] w fun e w' => e = .returned (.tuple #[.agg #[.slice A n c, .slice A2 n2 c2, .int .i64 wr], .bool false]) ∧ Below w.heap.size w w' := by
  by_cases h0 : i < 0
  · have h1 : decide (i < 0) = true := by simpa using h0
    clear h h0
    go_enter Try.func33, Try.ntmps33
    go_wp2_with fail
    exact bodyPost_ret (v := .tuple #[.agg #[.slice A n c, .slice A2 n2 c2, .int .i64 wr], .bool false]) (by simp [results, Try.results33, go_sem]) rfl ⟨rfl, by go_grown⟩
  · have h1 : decide (i < 0) = false := by simpa using h0
    have h2 : decide ((n2 : Int) ≤ i) = true := by unfold inB at h; simp at h; simp; omega
    clear h h0
    go_enter Try.func33, Try.ntmps33
    go_wp2_with fail
    exact bodyPost_ret (v := .tuple #[.agg #[.slice A n c, .slice A2 n2 c2, .int .i64 wr], .bool false]) (by simp [results, Try.results33, go_sem]) rfl ⟨rfl, by go_grown⟩

set_option maxHeartbeats 1600000 in
set_option maxRecDepth 100000 in
theorem set_yes (A : Option Addr) (n c : Nat) (A2 : Option Addr) (c2 : Nat) (wr i x : Int) (hC : (Kd.int .u32).C w A2 now.length now) (hc : now.length ≤ c2) (hn : now.length ≤ 1000000) (h : inB i now.length = true) (hw0 : 0 ≤ wr) (hw1 : wr ≤ 1000000) :
    Calls Try.prog 33 #[.agg #[.slice A n c, .slice A2 now.length c2, .int .i64 wr], .int .i64 i, .int .u32 x] w fun e w' => ∃ v, e = .returned (.tuple #[.agg #[.slice A n c, v, .int .i64 (wr + 1)], .bool true]) ∧ St [SL.row (Kd.int .u32) 39 v (now.set i.toNat x)] w w' := by
  have hi0 : 0 ≤ i := by unfold inB at h; simp at h; omega
  have hi1 : i < now.length := by unfold inB at h; simp at h; omega
  have h1 : decide (i < 0) = false := by simp; omega
  have h2 : decide ((now.length : Int) ≤ i) = false := by simp; omega
  obtain ⟨ad, rfl, _⟩ := Kd.at_int hC i hi0 hi1
  have HC := Go.Lib.hid hC
  have HS := Go.Lib.hid (St.start w)
  clear hC h
  go_enter Try.func33, Try.ntmps33
  go_wp2_with (first | ((with_reducible refine gate_dst (N := 3) rfl ?_); refine Sl.box_st HS.out (by rfl) (cs := #[.slice A n c, .slice (some ad) now.length c2, .int .i64 wr]) (t := 52) ?hr ?_; (case hr => first | (go_simp; done) | (go_simp; rfl)); intro g3 w1_ HSn HBn; clear HBn; replace HS : Hid (St [SL.blk g3 52 #[.slice A n c, .slice (some ad) now.length c2, .int .i64 wr]] w w1_) := Go.Lib.hid HSn; clear HSn; obtain ⟨c0_0, c0_1, c0_2⟩ := HS.out.c3 0 _ _ _ _ _ rfl) | ((with_reducible refine gate_dst (N := 6) rfl ?_); refine Sl.box_st HS.out (by rfl) (cs := #[.slice none 0 0, .slice none 0 0, .int .i64 0]) (t := 52) ?hr ?_; (case hr => first | (go_simp; done) | (go_simp; rfl)); intro g6 w2_ HSn HBn; clear HBn; replace HS : Hid (St [SL.blk g6 52 #[.slice none 0 0, .slice none 0 0, .int .i64 0], SL.blk g3 52 #[.slice A n c, .slice (some ad) now.length c2, .int .i64 wr]] w w2_) := Go.Lib.hid HSn; clear HSn; clear c0_0 c0_1 c0_2; obtain ⟨c0_0, c0_1, c0_2⟩ := HS.out.c3 0 _ _ _ _ _ rfl; obtain ⟨c1_0, c1_1, c1_2⟩ := HS.out.c3 1 _ _ _ _ _ rfl) | ((with_reducible refine gate_dst (N := 19) rfl ?_); refine Sl.lit_st (Kd.int .u32) (flat_int .u32) HS.out 39 (by rfl) (xs := ([] : List Int)) (inner := []) ?hr ?hp ?hm ?_; (case hr => first | (go_simp; done) | (go_simp; rfl)); (case hp => first | exact Reps.none _ _ | skip); (case hm => first | decide | (simp; done)); intro v19_ w3_ HSn; replace HS : Hid (St [SL.row (Kd.int .u32) 39 v19_ [], SL.blk g6 52 #[.slice none 0 0, .slice none 0 0, .int .i64 0], SL.blk g3 52 #[.slice A n c, .slice (some ad) now.length c2, .int .i64 wr]] w w3_) := Go.Lib.hid HSn; clear HSn; clear c0_0 c0_1 c0_2 c1_0 c1_1 c1_2; obtain ⟨c1_0, c1_1, c1_2⟩ := HS.out.c3 1 _ _ _ _ _ rfl; obtain ⟨c2_0, c2_1, c2_2⟩ := HS.out.c3 2 _ _ _ _ _ rfl) | ((with_reducible refine gate_dst (N := 23) rfl ?_); refine Sl.appends_st (Kd.int .u32) (flat_int .u32) HS.out 0 v19_ ([]) (now) 39 rfl (by rfl) (.tmp 20) (.tmp 22) 36 (.int .u32 0) 4 rfl Try.underlying36 (by kernel_rfl) rfl (by decide) (by decide) (some ad) now.length c2 rfl rfl ?hR ?hb ?_; (case hR => exact HS.out.C HC.out); (case hb => simp; omega); intro v23_ w4_ HSn; obtain ⟨b_, cap_, hv_, hcap_, hcc_, hff_, _⟩ := HSn.put 0 rfl (i) (hi0) (hi1); subst hv_; replace HS : Hid (St [SL.row (Kd.int .u32) 39 (.slice (some ⟨b_, 0, none⟩) now.length cap_) now, SL.blk g6 52 #[.slice none 0 0, .slice none 0 0, .int .i64 0], SL.blk g3 52 #[.slice A n c, .slice (some ad) now.length c2, .int .i64 wr]] w w4_) := Go.Lib.hid HSn; clear HSn; clear c1_0 c1_1 c1_2 c2_0 c2_1 c2_2; obtain ⟨c1_0, c1_1, c1_2⟩ := HS.out.c3 1 _ _ _ _ _ rfl; obtain ⟨c2_0, c2_1, c2_2⟩ := HS.out.c3 2 _ _ _ _ _ rfl) | ((with_reducible refine gate_store (p := 27) rfl ?_); refine Sl.put_st HS.out 0 rfl (i) hi0 hi1 (x) (by rfl) (by rfl) ?hr ?_; (case hr => intro b_ cap_ hv_ hc_ hf_; first | subst hv_ | cases hv_; first | (go_simp; done) | (go_simp; rfl)); intro w5_ HSn; replace HS : Hid (St [SL.row (Kd.int .u32) 39 (.slice (some ⟨b_, 0, none⟩) now.length cap_) (now.set i.toNat x), SL.blk g6 52 #[.slice none 0 0, .slice none 0 0, .int .i64 0], SL.blk g3 52 #[.slice A n c, .slice (some ad) now.length c2, .int .i64 wr]] w w5_) := Go.Lib.hid HSn; clear HSn; clear c1_0 c1_1 c1_2 c2_0 c2_1 c2_2; obtain ⟨c1_0, c1_1, c1_2⟩ := HS.out.c3 1 _ _ _ _ _ rfl; obtain ⟨c2_0, c2_1, c2_2⟩ := HS.out.c3 2 _ _ _ _ _ rfl) | ((with_reducible refine gate_store (p := 6) rfl ?_); refine Sl.storeAll_st HS.out 1 g6 52 _ rfl [.slice A n c, (.slice (some ⟨b_, 0, none⟩) now.length cap_), .int .i64 (wr + 1)] rfl (by rfl) (by rfl) ?hr ?_; (case hr => have f_ := HS.out.f3 1 _ _ _ _ _ rfl; (try obtain ⟨f0, f1, f2⟩ := f_); first | (go_simp; done) | (go_simp; rfl)); intro w6_ HSn; replace HS : Hid (St [SL.row (Kd.int .u32) 39 (.slice (some ⟨b_, 0, none⟩) now.length cap_) (now.set i.toNat x), SL.blk g6 52 #[.slice A n c, (.slice (some ⟨b_, 0, none⟩) now.length cap_), .int .i64 (wr + 1)], SL.blk g3 52 #[.slice A n c, .slice (some ad) now.length c2, .int .i64 wr]] w w6_) := Go.Lib.hid HSn; clear HSn; clear c1_0 c1_1 c1_2 c2_0 c2_1 c2_2; obtain ⟨c1_0, c1_1, c1_2⟩ := HS.out.c3 1 _ _ _ _ _ rfl; obtain ⟨c2_0, c2_1, c2_2⟩ := HS.out.c3 2 _ _ _ _ _ rfl))
  exact bodyPost_ret (v := .tuple #[.agg #[.slice A n c, (.slice (some ⟨b_, 0, none⟩) now.length cap_), .int .i64 (wr + 1)], .bool true]) (by simp [results, Try.results33, go_sem, c1_0, c1_1, c1_2]) rfl ⟨_, rfl, (HS.out.erase 1).erase 1⟩

set_option maxHeartbeats 3200000 in
set_option maxRecDepth 100000 in
theorem new_calls (A : Option Addr) (c : Nat) (hC : k43.C w A fst.length fst) (hn : fst.length ≤ 1000) :
    Calls Try.prog 32 #[.slice A fst.length c] w fun e w' => ∃ v, e = .returned (.agg #[.slice A fst.length c, v, .int .i64 0]) ∧ St [SL.row (Kd.int .u32) 39 v (fst.map (·.f0))] w w' := by
  have HC := Go.Lib.hid hC
  have HS := Go.Lib.hid (St.start w)
  clear hC
  go_enter Try.func32, Try.ntmps32
  go_wp2_with (first | ((with_reducible refine gate_dst (N := 2) rfl ?_); refine Sl.box_st HS.out (by rfl) (cs := #[.slice none 0 0, .slice none 0 0, .int .i64 0]) (t := 52) ?hr ?_; (case hr => first | (go_simp; done) | (go_simp; rfl)); intro g2 w1_ HSn HBn; clear HBn; replace HS : Hid (St [SL.blk g2 52 #[.slice none 0 0, .slice none 0 0, .int .i64 0]] w w1_) := Go.Lib.hid HSn; clear HSn; obtain ⟨c0_0, c0_1, c0_2⟩ := HS.out.c3 0 _ _ _ _ _ rfl) | ((with_reducible refine gate_dst (N := 3) rfl ?_); refine Sl.box_st HS.out (by rfl) (cs := #[.slice none 0 0, .slice none 0 0, .int .i64 0]) (t := 52) ?hr ?_; (case hr => first | (go_simp; done) | (go_simp; rfl)); intro g3 w2_ HSn HBn; clear HBn; replace HS : Hid (St [SL.blk g3 52 #[.slice none 0 0, .slice none 0 0, .int .i64 0], SL.blk g2 52 #[.slice none 0 0, .slice none 0 0, .int .i64 0]] w w2_) := Go.Lib.hid HSn; clear HSn; clear c0_0 c0_1 c0_2; obtain ⟨c0_0, c0_1, c0_2⟩ := HS.out.c3 0 _ _ _ _ _ rfl; obtain ⟨c1_0, c1_1, c1_2⟩ := HS.out.c3 1 _ _ _ _ _ rfl) | ((with_reducible refine gate_store (p := 3) rfl ?_); refine Sl.storeAll_st HS.out 0 g3 52 _ rfl [.slice A fst.length c, .slice none 0 0, .int .i64 0] rfl (by rfl) (by rfl) ?hr ?_; (case hr => have f_ := HS.out.f3 0 _ _ _ _ _ rfl; (try obtain ⟨f0, f1, f2⟩ := f_); first | (go_simp; done) | (go_simp; rfl)); intro w3_ HSn; replace HS : Hid (St [SL.blk g3 52 #[.slice A fst.length c, .slice none 0 0, .int .i64 0], SL.blk g2 52 #[.slice none 0 0, .slice none 0 0, .int .i64 0]] w w3_) := Go.Lib.hid HSn; clear HSn; clear c0_0 c0_1 c0_2 c1_0 c1_1 c1_2; obtain ⟨c0_0, c0_1, c0_2⟩ := HS.out.c3 0 _ _ _ _ _ rfl; obtain ⟨c1_0, c1_1, c1_2⟩ := HS.out.c3 1 _ _ _ _ _ rfl))
  go_loopw [4] (fun i wr => ∃ (k : Nat) (v : Value) (ys : List Int), k ≤ fst.length ∧ i = .int .i64 k ∧ ys = (fst.take k).map (·.f0) ∧ St [SL.row (Kd.int .u32) 39 v (ys), SL.blk g3 52 #[.slice A fst.length c, v, .int .i64 0], SL.blk g2 52 #[.slice none 0 0, .slice none 0 0, .int .i64 0]] w wr) (fun i _ => fst.length - (intOf i).toNat)
  case atStart => exact ⟨0, _, [], Nat.zero_le _, rfl, rfl, HS.out.nilrow (Kd.int .u32) 39⟩
  case round =>
    clear HS c0_0 c0_1 c0_2 c1_0 c1_1 c1_2
    obtain ⟨k, v, ys, hk, rfl, hy, hS⟩ := hrel
    have hyl : ys.length = k := by rw [hy]; simp; omega
    obtain ⟨A1, c1, hv1, _⟩ := hS.rowC 0 rfl
    subst hv1
    have HY := Go.Lib.hid hy
    clear hy
    by_cases hlt : k < fst.length
    · obtain ⟨ad, rfl, g0, _⟩ := at_T43 HC.out (k : Int) (by omega) (by omega)
      rw [Int.toNat_natCast] at g0
      have hx := rd43_get fst k hlt
      generalize rd_T43 fst (k : Int) = x at *
      have HX := Go.Lib.hid hx
      have HYL := Go.Lib.hid hyl
      have hb : (ys.length + 1) * 4 ≤ 140737488355328 := by omega
      clear hx hyl
      have HS := Go.Lib.hid hS.drew
      clear hS
      go_wp2_with fail
      refine start_ (n := 11) (S := fun w' => w'.cell? ⟨g3, 1, none⟩ = some (.slice A1 ys.length c1) ∧ w'.cell? (ad.add (k * 2)) = some (.int .u32 x.f0)) (ds := [10]) #[false, false, false, false, false, false, false, false, false, false, false] (by kernel_rfl) rfl rfl ⟨HS.out.cell 1 _ _ _ rfl 1, HS.out.old g0⟩ (fun hHeld => ?_)
      generalize wr.drew = W_ at *
      refine pure_ (i := 0) (N := some 13) (v := ?_) (a' := ?_) #[true, false, false, false, false, false, false, false, false, false, false] rfl rfl (by kernel_rfl) (fun _ _ _ h => h) (Or.inl ⟨by rfl, ?_⟩) ?_ ?_
      rotate_left
      · intro w'
        go_simp
        with_reducible rfl
      rotate_left
      · simp only [Act.put, List.setIfInBounds_toArray, List.set_cons_zero, List.set_cons_succ, i64_w, i32_w]
        rfl
      refine pure_ (i := 2) (N := some 15) (v := ?_) (a' := ?_) #[true, false, true, false, false, false, false, false, false, false, false] rfl rfl (by kernel_rfl) (fun _ _ _ h => h) (Or.inl ⟨by rfl, ?_⟩) ?_ ?_
      rotate_left
      · intro w'
        go_simp
        with_reducible rfl
      rotate_left
      · simp only [Act.put, List.setIfInBounds_toArray, List.set_cons_zero, List.set_cons_succ, i64_w, i32_w]
        rfl
      refine pure_ (i := 3) (N := some 16) (v := ?_) (a' := ?_) #[true, false, true, true, false, false, false, false, false, false, false] rfl rfl (by kernel_rfl) (fun _ _ _ h => h) (Or.inl ⟨by rfl, ?_⟩) ?_ ?_
      rotate_left
      · intro w'
        go_simp
        with_reducible rfl
      rotate_left
      · simp only [Act.put, List.setIfInBounds_toArray, List.set_cons_zero, List.set_cons_succ, i64_w, i32_w]
        rfl
      refine pure_ (i := 4) (N := some 17) (v := ?_) (a' := ?_) #[true, false, true, true, true, false, false, false, false, false, false] rfl rfl (by kernel_rfl) (fun _ _ _ h => h) (Or.inl ⟨by rfl, ?_⟩) ?_ ?_
      rotate_left
      · intro w'
        go_simp
        with_reducible rfl
      rotate_left
      · simp only [Act.put, List.setIfInBounds_toArray, List.set_cons_zero, List.set_cons_succ, i64_w, i32_w]
        rfl
      refine pure_ (i := 5) (N := some 18) (v := ?_) (a' := ?_) #[true, false, true, true, true, true, false, false, false, false, false] rfl rfl (by kernel_rfl) (fun _ _ _ h => h) (Or.inl ⟨by rfl, ?_⟩) ?_ ?_
      rotate_left
      · intro w'
        go_simp
        with_reducible rfl
      rotate_left
      · simp only [Act.put, List.setIfInBounds_toArray, List.set_cons_zero, List.set_cons_succ, i64_w, i32_w]
        rfl
      refine take_ (i := 1) (N := some 14) (v := ?_) (a' := ?_) #[true, true, true, true, true, true, false, false, false, false, false] rfl rfl (by kernel_rfl) (fun _ _ _ h => h) (Or.inl ⟨by rfl, ?_⟩) hHeld ?_ ?_
      rotate_left
      · rintro w' ⟨s0, s1⟩
        go_simp
        with_reducible rfl
      rotate_left
      · simp only [Act.put, List.setIfInBounds_toArray, List.set_cons_zero, List.set_cons_succ, i64_w, i32_w]
        rfl
      refine take_ (i := 6) (N := some 19) (v := ?_) (a' := ?_) #[true, true, true, true, true, true, true, false, false, false, false] rfl rfl (by kernel_rfl) (fun _ _ _ h => h) (Or.inl ⟨by rfl, ?_⟩) hHeld ?_ ?_
      rotate_left
      · rintro w' ⟨s0, s1⟩
        go_simp
        with_reducible rfl
      rotate_left
      · simp only [Act.put, List.setIfInBounds_toArray, List.set_cons_zero, List.set_cons_succ, i64_w, i32_w]
        rfl
      refine one_ (i := 7) (N := some 20) #[true, true, true, true, true, true, true, true, false, false, false] rfl rfl (by kernel_rfl) (by decide) (fun K hK => ?_)
      refine event_step (by rfl) (w1 := W_.alloc (.cells #[.int .u32 x.f0] 39)) (v := .slice (some ⟨W_.heap.size, 0, none⟩) 1 1) (by first | (go_simp; done) | (go_simp; rfl)) ?_
      refine hK.out _ _ ⟨(HS.out.alloc _).cell 1 _ _ _ rfl 1, (HS.out.alloc _).old g0⟩ (fun hHeld => ?_)
      clear hK K
      refine norm_ (a' := ?_) ?_ ?_
      rotate_left
      · show Act.put _ (some 20) _ = _
        simp only [Act.put, List.setIfInBounds_toArray, List.set_cons_zero, List.set_cons_succ, i64_w, i32_w]
        rfl
      refine one_ (i := 8) (N := some 21) #[true, true, true, true, true, true, true, true, true, false, false] rfl rfl (by kernel_rfl) (by decide) (fun K hK => ?_)
      refine Sl.append_stp (Kd.int .u32) (flat_int .u32) HS.out 0 (.slice A1 ys.length c1) ys 39 rfl (by rfl) (.tmp 14) (.tmp 20) 36 (.int .u32 0) 4 rfl Try.underlying36 (by kernel_rfl) rfl (by decide) (by decide) x.f0 [.int .u32 x.f0] rfl rfl rfl (by omega) ?_
      intro v11_ w11_ HSn
      obtain ⟨A2, c2, hv2, _⟩ := HSn.rowC 0 rfl
      subst hv2
      refine hK.out _ _ ⟨HSn.cell 1 _ _ _ rfl 1, HSn.old g0⟩ (fun hHeld => ?_)
      clear hK K
      refine norm_ (a' := ?_) ?_ ?_
      rotate_left
      · show Act.put _ (some 21) _ = _
        simp only [Act.put, List.setIfInBounds_toArray, List.set_cons_zero, List.set_cons_succ, i64_w, i32_w]
        rfl
      refine pure_ (i := 9) (N := some 22) (v := ?_) (a' := ?_) #[true, true, true, true, true, true, true, true, true, true, false] rfl rfl (by kernel_rfl) (fun _ _ _ h => h) (Or.inl ⟨by rfl, ?_⟩) ?_ ?_
      rotate_left
      · intro w'
        go_simp
        with_reducible rfl
      rotate_left
      · simp only [Act.put, List.setIfInBounds_toArray, List.set_cons_zero, List.set_cons_succ, i64_w, i32_w]
        rfl
      refine last_ (i := 10) (N := none) #[true, true, true, true, true, true, true, true, true, true, true] rfl rfl (by kernel_rfl) (by decide) (fun K hK => ?_)
      have c0_1 := HSn.cell 1 _ _ _ rfl 1
      have f0_1 := HSn.free 1 _ _ _ rfl 1
      refine Sl.store_stp HSn 1 g3 52 _ rfl 1 (.slice A2 (ys ++ [x.f0]).length c2) (by rfl) rfl (by first | (go_simp; done) | (go_simp; rfl)) ?_
      intro w12_ HSm
      clear c0_1 f0_1
      refine hK.out _ _ ?_
      clear hK K
      refine done_ (by kernel_rfl) ?_
      go_wp2_with fail
      go_roundw
      case rel => exact ⟨k + 1, _, _, by omega, by go_num, by rw [List.take_succ_eq_append_getElem hlt, List.map_append, ← HY.out, HX.out]; rfl, HSm⟩
      case measure => simp [intOf]; omega
    · obtain rfl : k = fst.length := by omega
      have HYL := Go.Lib.hid hyl
      have HS := Go.Lib.hid hS
      clear hS hyl
      obtain ⟨c1_0, c1_1, c1_2⟩ := HS.out.c3 1 _ _ _ _ _ rfl
      obtain ⟨c2_0, c2_1, c2_2⟩ := HS.out.c3 2 _ _ _ _ _ rfl
      go_wp2_with (first | ((with_reducible refine gate_store (p := 2) rfl ?_); refine Sl.storeAll_st HS.out 2 g2 52 _ rfl [.slice A fst.length c, .slice A1 ys.length c1, .int .i64 0] rfl (by rfl) (by rfl) ?hr ?_; (case hr => have f_ := HS.out.f3 2 _ _ _ _ _ rfl; (try obtain ⟨f0, f1, f2⟩ := f_); first | (go_simp; done) | (go_simp; rfl)); intro w21_ HSn; replace HS : Hid (St [SL.row (Kd.int .u32) 39 (.slice A1 ys.length c1) (ys), SL.blk g3 52 #[.slice A fst.length c, .slice A1 ys.length c1, .int .i64 0], SL.blk g2 52 #[.slice A fst.length c, .slice A1 ys.length c1, .int .i64 0]] w w21_) := Go.Lib.hid HSn; clear HSn; clear c1_0 c1_1 c1_2 c2_0 c2_1 c2_2; obtain ⟨c1_0, c1_1, c1_2⟩ := HS.out.c3 1 _ _ _ _ _ rfl; obtain ⟨c2_0, c2_1, c2_2⟩ := HS.out.c3 2 _ _ _ _ _ rfl))
      exact bodyPost_ret (v := .agg #[.slice A fst.length c, .slice A1 ys.length c1, .int .i64 0]) (by simp [results, Try.results32, go_sem, c2_0, c2_1, c2_2]) rfl ⟨_, rfl, by have h1 := (HS.out.erase 2).erase 1; rw [HY.out, List.take_length] at h1; rw [HY.out, List.take_length]; exact h1⟩

set_option maxHeartbeats 3200000 in
set_option maxRecDepth 100000 in
theorem start_true (A : Option Addr) (c : Nat) (A2 : Option Addr) (c2 : Nat) (hC : k43.C w A fst.length fst) (hD : (Kd.int .u32).C w A2 now.length now) (hl : now.length = fst.length) (hn : fst.length ≤ 1000) (m : Int) :
    Calls Try.prog 34 #[.agg #[.slice A fst.length c, .slice A2 now.length c2, .int .i64 m], .bool true] w fun e w' => ∃ v, e = .returned (.agg #[.slice A fst.length c, v, .int .i64 0]) ∧ St [SL.row (Kd.int .u32) 39 v (back true fst now fst.length)] w w' := by
  have HC := Go.Lib.hid hC
  have HD := Go.Lib.hid hD
  have HL := Go.Lib.hid hl
  have HS := Go.Lib.hid (St.start w)
  have HBL := Go.Lib.hid (back_len true fst now fst.length)
  have HBG := Go.Lib.hid (back_rd fst now hl true)
  generalize back true fst now fst.length = bs at *
  clear hC hD hl
  go_enter Try.func34, Try.ntmps34
  go_wp2_with (first | ((with_reducible refine gate_dst (N := 2) rfl ?_); refine Sl.box_st HS.out (by rfl) (cs := #[.slice A fst.length c, .slice A2 now.length c2, .int .i64 m]) (t := 52) ?hr ?_; (case hr => first | (go_simp; done) | (go_simp; rfl)); intro g2 w1_ HSn HBn; clear HBn; replace HS : Hid (St [SL.blk g2 52 #[.slice A fst.length c, .slice A2 now.length c2, .int .i64 m]] w w1_) := Go.Lib.hid HSn; clear HSn; obtain ⟨c0_0, c0_1, c0_2⟩ := HS.out.c3 0 _ _ _ _ _ rfl) | ((with_reducible refine gate_dst (N := 4) rfl ?_); refine Sl.box_st HS.out (by rfl) (cs := #[.slice none 0 0, .slice none 0 0, .int .i64 0]) (t := 52) ?hr ?_; (case hr => first | (go_simp; done) | (go_simp; rfl)); intro g4 w2_ HSn HBn; clear HBn; replace HS : Hid (St [SL.blk g4 52 #[.slice none 0 0, .slice none 0 0, .int .i64 0], SL.blk g2 52 #[.slice A fst.length c, .slice A2 now.length c2, .int .i64 m]] w w2_) := Go.Lib.hid HSn; clear HSn; clear c0_0 c0_1 c0_2; obtain ⟨c0_0, c0_1, c0_2⟩ := HS.out.c3 0 _ _ _ _ _ rfl; obtain ⟨c1_0, c1_1, c1_2⟩ := HS.out.c3 1 _ _ _ _ _ rfl) | ((with_reducible refine gate_dst (N := 5) rfl ?_); refine Sl.box_st HS.out (by rfl) (cs := #[.slice none 0 0, .slice none 0 0, .int .i64 0]) (t := 52) ?hr ?_; (case hr => first | (go_simp; done) | (go_simp; rfl)); intro g5 w3_ HSn HBn; clear HBn; replace HS : Hid (St [SL.blk g5 52 #[.slice none 0 0, .slice none 0 0, .int .i64 0], SL.blk g4 52 #[.slice none 0 0, .slice none 0 0, .int .i64 0], SL.blk g2 52 #[.slice A fst.length c, .slice A2 now.length c2, .int .i64 m]] w w3_) := Go.Lib.hid HSn; clear HSn; clear c0_0 c0_1 c0_2 c1_0 c1_1 c1_2; obtain ⟨c0_0, c0_1, c0_2⟩ := HS.out.c3 0 _ _ _ _ _ rfl; obtain ⟨c1_0, c1_1, c1_2⟩ := HS.out.c3 1 _ _ _ _ _ rfl; obtain ⟨c2_0, c2_1, c2_2⟩ := HS.out.c3 2 _ _ _ _ _ rfl) | ((with_reducible refine gate_store (p := 5) rfl ?_); refine Sl.storeAll_st HS.out 0 g5 52 _ rfl [.slice A fst.length c, .slice none 0 0, .int .i64 m] rfl (by rfl) (by rfl) ?hr ?_; (case hr => have f_ := HS.out.f3 0 _ _ _ _ _ rfl; (try obtain ⟨f0, f1, f2⟩ := f_); first | (go_simp; done) | (go_simp; rfl)); intro w4_ HSn; replace HS : Hid (St [SL.blk g5 52 #[.slice A fst.length c, .slice none 0 0, .int .i64 m], SL.blk g4 52 #[.slice none 0 0, .slice none 0 0, .int .i64 0], SL.blk g2 52 #[.slice A fst.length c, .slice A2 now.length c2, .int .i64 m]] w w4_) := Go.Lib.hid HSn; clear HSn; clear c0_0 c0_1 c0_2 c1_0 c1_1 c1_2 c2_0 c2_1 c2_2; obtain ⟨c0_0, c0_1, c0_2⟩ := HS.out.c3 0 _ _ _ _ _ rfl; obtain ⟨c1_0, c1_1, c1_2⟩ := HS.out.c3 1 _ _ _ _ _ rfl; obtain ⟨c2_0, c2_1, c2_2⟩ := HS.out.c3 2 _ _ _ _ _ rfl) | ((with_reducible refine gate_store (p := 14) rfl ?_); refine Sl.store_st HS.out 0 g5 52 _ rfl 2 (.int .i64 0) (by rfl) (by rfl) ?hr ?_; (case hr => have f_ := HS.out.free 0 _ _ _ rfl 2; first | (go_simp; done) | (go_simp; rfl)); intro w5_ HSn; replace HS : Hid (St [SL.blk g5 52 #[.slice A fst.length c, .slice none 0 0, .int .i64 0], SL.blk g4 52 #[.slice none 0 0, .slice none 0 0, .int .i64 0], SL.blk g2 52 #[.slice A fst.length c, .slice A2 now.length c2, .int .i64 m]] w w5_) := Go.Lib.hid HSn; clear HSn; clear c0_0 c0_1 c0_2 c1_0 c1_1 c1_2 c2_0 c2_1 c2_2; obtain ⟨c0_0, c0_1, c0_2⟩ := HS.out.c3 0 _ _ _ _ _ rfl; obtain ⟨c1_0, c1_1, c1_2⟩ := HS.out.c3 1 _ _ _ _ _ rfl; obtain ⟨c2_0, c2_1, c2_2⟩ := HS.out.c3 2 _ _ _ _ _ rfl))
  go_loopw [6] (fun i wr => ∃ (k : Nat) (v : Value) (ys : List Int), k ≤ fst.length ∧ i = .int .i64 k ∧ ys = bs.take k ∧ St [SL.row (Kd.int .u32) 39 v (ys), SL.blk g5 52 #[.slice A fst.length c, v, .int .i64 0], SL.blk g4 52 #[.slice none 0 0, .slice none 0 0, .int .i64 0], SL.blk g2 52 #[.slice A fst.length c, .slice A2 now.length c2, .int .i64 m]] w wr) (fun i _ => fst.length - (intOf i).toNat)
  case atStart => exact ⟨0, _, [], Nat.zero_le _, rfl, rfl, HS.out.nilrow (Kd.int .u32) 39⟩
  case round =>
    clear HS c0_0 c0_1 c0_2 c1_0 c1_1 c1_2 c2_0 c2_1 c2_2
    obtain ⟨k, v, ys, hk, rfl, hy, hS⟩ := hrel
    have hyl : ys.length = k := by rw [hy, List.length_take, HBL.out, HL.out]; omega
    obtain ⟨A1, c1, hv1, _⟩ := hS.rowC 0 rfl
    subst hv1
    have HY := Go.Lib.hid hy
    clear hy
    by_cases hlt : k < fst.length
    · have hlb : k < bs.length := by rw [HBL.out, HL.out]; exact hlt
      have hln : k < now.length := by rw [HL.out]; exact hlt
      obtain ⟨ad, rfl, g0, g1⟩ := at_T43 HC.out (k : Int) (by omega) (by omega)
      obtain ⟨ad2, rfl, g2_⟩ := Kd.at_int HD.out (k : Int) (by omega) (by omega)
      rw [Int.toNat_natCast] at g0 g1 g2_
      replace g0 := hS.old g0
      replace g1 := hS.old g1
      replace g2_ := hS.old g2_
      have hb0 := HBG.out k hlt
      rw [List.getElem?_eq_getElem hlb] at hb0
      injection hb0 with hb0
      generalize rd_T43 fst (k : Int) = x at *
      generalize rd now (k : Int) = y at *
      obtain ⟨x0, x1⟩ := x
      have HYL := Go.Lib.hid hyl
      have hb : (ys.length + 1) * 4 ≤ 140737488355328 := by omega
      clear hyl
      have HS := Go.Lib.hid hS
      clear hS
      have HB : Hid (bs[k] = x0) := Go.Lib.hid (by simpa [goes] using hb0)
      clear hb0
      obtain ⟨c1_0, c1_1, c1_2⟩ := HS.out.c3 1 _ _ _ _ _ rfl
      obtain ⟨c2_0, c2_1, c2_2⟩ := HS.out.c3 2 _ _ _ _ _ rfl
      obtain ⟨c3_0, c3_1, c3_2⟩ := HS.out.c3 3 _ _ _ _ _ rfl
      go_wp2_with (first | ((with_reducible refine gate_dst (N := 47) rfl ?_); refine Sl.append_st (Kd.int .u32) (flat_int .u32) HS.out 0 (.slice A1 ys.length c1) (ys) 39 rfl (by rfl) (.tmp 44) (.tmp 46) 36 (.int .u32 0) 4 rfl Try.underlying36 (by kernel_rfl) rfl (by decide) (by decide) (x0) [.int .u32 (x0)] rfl rfl ?hp ?hb ?_; (case hp => first | rfl | exact k39_mk _ _); (case hb => omega); intro v1_ w21_ HSn; obtain ⟨A9_, c9_, hv2_, _⟩ := HSn.rowC 0 rfl; subst hv2_; replace HS : Hid (St [SL.row (Kd.int .u32) 39 (.slice A9_ (ys ++ [x0]).length c9_) (ys ++ [x0]), SL.blk g5 52 #[.slice (some ad) fst.length c, .slice A1 ys.length c1, .int .i64 0], SL.blk g4 52 #[.slice none 0 0, .slice none 0 0, .int .i64 0], SL.blk g2 52 #[.slice (some ad) fst.length c, .slice (some ad2) now.length c2, .int .i64 m]] w w21_) := Go.Lib.hid HSn; clear HSn; clear c1_0 c1_1 c1_2 c2_0 c2_1 c2_2 c3_0 c3_1 c3_2; obtain ⟨c1_0, c1_1, c1_2⟩ := HS.out.c3 1 _ _ _ _ _ rfl; obtain ⟨c2_0, c2_1, c2_2⟩ := HS.out.c3 2 _ _ _ _ _ rfl; obtain ⟨c3_0, c3_1, c3_2⟩ := HS.out.c3 3 _ _ _ _ _ rfl) | ((with_reducible refine gate_store (p := 48) rfl ?_); refine Sl.store_st HS.out 1 g5 52 _ rfl 1 ((.slice A9_ (ys ++ [x0]).length c9_)) (by rfl) (by rfl) ?hr ?_; (case hr => have f_ := HS.out.free 1 _ _ _ rfl 1; first | (go_simp; done) | (go_simp; rfl)); intro w22_ HSn; replace HS : Hid (St [SL.row (Kd.int .u32) 39 (.slice A9_ (ys ++ [x0]).length c9_) (ys ++ [x0]), SL.blk g5 52 #[.slice (some ad) fst.length c, (.slice A9_ (ys ++ [x0]).length c9_), .int .i64 0], SL.blk g4 52 #[.slice none 0 0, .slice none 0 0, .int .i64 0], SL.blk g2 52 #[.slice (some ad) fst.length c, .slice (some ad2) now.length c2, .int .i64 m]] w w22_) := Go.Lib.hid HSn; clear HSn; clear c1_0 c1_1 c1_2 c2_0 c2_1 c2_2 c3_0 c3_1 c3_2; obtain ⟨c1_0, c1_1, c1_2⟩ := HS.out.c3 1 _ _ _ _ _ rfl; obtain ⟨c2_0, c2_1, c2_2⟩ := HS.out.c3 2 _ _ _ _ _ rfl; obtain ⟨c3_0, c3_1, c3_2⟩ := HS.out.c3 3 _ _ _ _ _ rfl))
      go_roundw
      case rel => exact ⟨k + 1, _, _, by omega, by go_num, by rw [List.take_succ_eq_append_getElem (by omega), ← HY.out, HB.out], HS.out⟩
      case measure => simp [intOf]; omega
    · obtain rfl : k = fst.length := by omega
      have HYL := Go.Lib.hid hyl
      have HS := Go.Lib.hid hS
      clear hS hyl
      obtain ⟨c1_0, c1_1, c1_2⟩ := HS.out.c3 1 _ _ _ _ _ rfl
      obtain ⟨c2_0, c2_1, c2_2⟩ := HS.out.c3 2 _ _ _ _ _ rfl
      obtain ⟨c3_0, c3_1, c3_2⟩ := HS.out.c3 3 _ _ _ _ _ rfl
      go_wp2_with (first | ((with_reducible refine gate_store (p := 4) rfl ?_); refine Sl.storeAll_st HS.out 2 g4 52 _ rfl [.slice A fst.length c, .slice A1 ys.length c1, .int .i64 0] rfl (by rfl) (by rfl) ?hr ?_; (case hr => have f_ := HS.out.f3 2 _ _ _ _ _ rfl; (try obtain ⟨f0, f1, f2⟩ := f_); first | (go_simp; done) | (go_simp; rfl)); intro w21_ HSn; replace HS : Hid (St [SL.row (Kd.int .u32) 39 (.slice A1 ys.length c1) (ys), SL.blk g5 52 #[.slice A fst.length c, .slice A1 ys.length c1, .int .i64 0], SL.blk g4 52 #[.slice A fst.length c, .slice A1 ys.length c1, .int .i64 0], SL.blk g2 52 #[.slice A fst.length c, .slice A2 now.length c2, .int .i64 m]] w w21_) := Go.Lib.hid HSn; clear HSn; clear c1_0 c1_1 c1_2 c2_0 c2_1 c2_2 c3_0 c3_1 c3_2; obtain ⟨c1_0, c1_1, c1_2⟩ := HS.out.c3 1 _ _ _ _ _ rfl; obtain ⟨c2_0, c2_1, c2_2⟩ := HS.out.c3 2 _ _ _ _ _ rfl; obtain ⟨c3_0, c3_1, c3_2⟩ := HS.out.c3 3 _ _ _ _ _ rfl))
      have h1 := ((HS.out.erase 3).erase 2).erase 1
      have e1 : ys = bs := by rw [HY.out, List.take_of_length_le (by rw [HBL.out, HL.out]; omega)]
      have H1 := Go.Lib.hid h1
      have E1 := Go.Lib.hid e1
      clear h1 e1
      refine bodyPost_ret (v := .agg #[.slice A fst.length c, .slice A1 ys.length c1, .int .i64 0]) (by simp [results, Try.results34, go_sem, c2_0, c2_1, c2_2]) rfl ⟨_, rfl, ?_⟩
      have h1 := H1.out
      rw [E1.out] at h1 ⊢
      exact h1

set_option maxHeartbeats 3200000 in
set_option maxRecDepth 100000 in
theorem start_false (A : Option Addr) (c : Nat) (A2 : Option Addr) (c2 : Nat) (hC : k43.C w A fst.length fst) (hD : (Kd.int .u32).C w A2 now.length now) (hl : now.length = fst.length) (hn : fst.length ≤ 1000) (m : Int) :
    Calls Try.prog 34 #[.agg #[.slice A fst.length c, .slice A2 now.length c2, .int .i64 m], .bool false] w fun e w' => ∃ v, e = .returned (.agg #[.slice A fst.length c, v, .int .i64 m]) ∧ St [SL.row (Kd.int .u32) 39 v (back false fst now fst.length)] w w' := by
  have HC := Go.Lib.hid hC
  have HD := Go.Lib.hid hD
  have HL := Go.Lib.hid hl
  have HS := Go.Lib.hid (St.start w)
  have HBL := Go.Lib.hid (back_len false fst now fst.length)
  have HBG := Go.Lib.hid (back_rd fst now hl false)
  generalize back false fst now fst.length = bs at *
  clear hC hD hl
  go_enter Try.func34, Try.ntmps34
  go_wp2_with (first | ((with_reducible refine gate_dst (N := 2) rfl ?_); refine Sl.box_st HS.out (by rfl) (cs := #[.slice A fst.length c, .slice A2 now.length c2, .int .i64 m]) (t := 52) ?hr ?_; (case hr => first | (go_simp; done) | (go_simp; rfl)); intro g2 w1_ HSn HBn; clear HBn; replace HS : Hid (St [SL.blk g2 52 #[.slice A fst.length c, .slice A2 now.length c2, .int .i64 m]] w w1_) := Go.Lib.hid HSn; clear HSn; obtain ⟨c0_0, c0_1, c0_2⟩ := HS.out.c3 0 _ _ _ _ _ rfl) | ((with_reducible refine gate_dst (N := 4) rfl ?_); refine Sl.box_st HS.out (by rfl) (cs := #[.slice none 0 0, .slice none 0 0, .int .i64 0]) (t := 52) ?hr ?_; (case hr => first | (go_simp; done) | (go_simp; rfl)); intro g4 w2_ HSn HBn; clear HBn; replace HS : Hid (St [SL.blk g4 52 #[.slice none 0 0, .slice none 0 0, .int .i64 0], SL.blk g2 52 #[.slice A fst.length c, .slice A2 now.length c2, .int .i64 m]] w w2_) := Go.Lib.hid HSn; clear HSn; clear c0_0 c0_1 c0_2; obtain ⟨c0_0, c0_1, c0_2⟩ := HS.out.c3 0 _ _ _ _ _ rfl; obtain ⟨c1_0, c1_1, c1_2⟩ := HS.out.c3 1 _ _ _ _ _ rfl) | ((with_reducible refine gate_dst (N := 5) rfl ?_); refine Sl.box_st HS.out (by rfl) (cs := #[.slice none 0 0, .slice none 0 0, .int .i64 0]) (t := 52) ?hr ?_; (case hr => first | (go_simp; done) | (go_simp; rfl)); intro g5 w3_ HSn HBn; clear HBn; replace HS : Hid (St [SL.blk g5 52 #[.slice none 0 0, .slice none 0 0, .int .i64 0], SL.blk g4 52 #[.slice none 0 0, .slice none 0 0, .int .i64 0], SL.blk g2 52 #[.slice A fst.length c, .slice A2 now.length c2, .int .i64 m]] w w3_) := Go.Lib.hid HSn; clear HSn; clear c0_0 c0_1 c0_2 c1_0 c1_1 c1_2; obtain ⟨c0_0, c0_1, c0_2⟩ := HS.out.c3 0 _ _ _ _ _ rfl; obtain ⟨c1_0, c1_1, c1_2⟩ := HS.out.c3 1 _ _ _ _ _ rfl; obtain ⟨c2_0, c2_1, c2_2⟩ := HS.out.c3 2 _ _ _ _ _ rfl) | ((with_reducible refine gate_store (p := 5) rfl ?_); refine Sl.storeAll_st HS.out 0 g5 52 _ rfl [.slice A fst.length c, .slice none 0 0, .int .i64 m] rfl (by rfl) (by rfl) ?hr ?_; (case hr => have f_ := HS.out.f3 0 _ _ _ _ _ rfl; (try obtain ⟨f0, f1, f2⟩ := f_); first | (go_simp; done) | (go_simp; rfl)); intro w4_ HSn; replace HS : Hid (St [SL.blk g5 52 #[.slice A fst.length c, .slice none 0 0, .int .i64 m], SL.blk g4 52 #[.slice none 0 0, .slice none 0 0, .int .i64 0], SL.blk g2 52 #[.slice A fst.length c, .slice A2 now.length c2, .int .i64 m]] w w4_) := Go.Lib.hid HSn; clear HSn; clear c0_0 c0_1 c0_2 c1_0 c1_1 c1_2 c2_0 c2_1 c2_2; obtain ⟨c0_0, c0_1, c0_2⟩ := HS.out.c3 0 _ _ _ _ _ rfl; obtain ⟨c1_0, c1_1, c1_2⟩ := HS.out.c3 1 _ _ _ _ _ rfl; obtain ⟨c2_0, c2_1, c2_2⟩ := HS.out.c3 2 _ _ _ _ _ rfl))
  go_loopw [6] (fun i wr => ∃ (k : Nat) (v : Value) (ys : List Int), k ≤ fst.length ∧ i = .int .i64 k ∧ ys = bs.take k ∧ St [SL.row (Kd.int .u32) 39 v (ys), SL.blk g5 52 #[.slice A fst.length c, v, .int .i64 m], SL.blk g4 52 #[.slice none 0 0, .slice none 0 0, .int .i64 0], SL.blk g2 52 #[.slice A fst.length c, .slice A2 now.length c2, .int .i64 m]] w wr) (fun i _ => fst.length - (intOf i).toNat)
  case atStart => exact ⟨0, _, [], Nat.zero_le _, rfl, rfl, HS.out.nilrow (Kd.int .u32) 39⟩
  case round =>
    clear HS c0_0 c0_1 c0_2 c1_0 c1_1 c1_2 c2_0 c2_1 c2_2
    obtain ⟨k, v, ys, hk, rfl, hy, hS⟩ := hrel
    have hyl : ys.length = k := by rw [hy, List.length_take, HBL.out, HL.out]; omega
    obtain ⟨A1, c1, hv1, _⟩ := hS.rowC 0 rfl
    subst hv1
    have HY := Go.Lib.hid hy
    clear hy
    by_cases hlt : k < fst.length
    · have hlb : k < bs.length := by rw [HBL.out, HL.out]; exact hlt
      have hln : k < now.length := by rw [HL.out]; exact hlt
      obtain ⟨ad, rfl, g0, g1⟩ := at_T43 HC.out (k : Int) (by omega) (by omega)
      obtain ⟨ad2, rfl, g2_⟩ := Kd.at_int HD.out (k : Int) (by omega) (by omega)
      rw [Int.toNat_natCast] at g0 g1 g2_
      replace g0 := hS.old g0
      replace g1 := hS.old g1
      replace g2_ := hS.old g2_
      have hb0 := HBG.out k hlt
      rw [List.getElem?_eq_getElem hlb] at hb0
      injection hb0 with hb0
      generalize rd_T43 fst (k : Int) = x at *
      generalize rd now (k : Int) = y at *
      obtain ⟨x0, x1⟩ := x
      have HYL := Go.Lib.hid hyl
      have hb : (ys.length + 1) * 4 ≤ 140737488355328 := by omega
      clear hyl
      have HS := Go.Lib.hid hS
      clear hS
      cases x1 with
      | true =>
        have HB : Hid (bs[k] = y) := Go.Lib.hid (by simpa [goes] using hb0)
        clear hb0
        obtain ⟨c1_0, c1_1, c1_2⟩ := HS.out.c3 1 _ _ _ _ _ rfl
        obtain ⟨c2_0, c2_1, c2_2⟩ := HS.out.c3 2 _ _ _ _ _ rfl
        obtain ⟨c3_0, c3_1, c3_2⟩ := HS.out.c3 3 _ _ _ _ _ rfl
        go_wp2_with (first | ((with_reducible refine gate_dst (N := 47) rfl ?_); refine Sl.append_st (Kd.int .u32) (flat_int .u32) HS.out 0 (.slice A1 ys.length c1) (ys) 39 rfl (by rfl) (.tmp 44) (.tmp 46) 36 (.int .u32 0) 4 rfl Try.underlying36 (by kernel_rfl) rfl (by decide) (by decide) (y) [.int .u32 (y)] rfl rfl ?hp ?hb ?_; (case hp => first | rfl | exact k39_mk _ _); (case hb => omega); intro v1_ w21_ HSn; obtain ⟨A9_, c9_, hv2_, _⟩ := HSn.rowC 0 rfl; subst hv2_; replace HS : Hid (St [SL.row (Kd.int .u32) 39 (.slice A9_ (ys ++ [y]).length c9_) (ys ++ [y]), SL.blk g5 52 #[.slice (some ad) fst.length c, .slice A1 ys.length c1, .int .i64 m], SL.blk g4 52 #[.slice none 0 0, .slice none 0 0, .int .i64 0], SL.blk g2 52 #[.slice (some ad) fst.length c, .slice (some ad2) now.length c2, .int .i64 m]] w w21_) := Go.Lib.hid HSn; clear HSn; clear c1_0 c1_1 c1_2 c2_0 c2_1 c2_2 c3_0 c3_1 c3_2; obtain ⟨c1_0, c1_1, c1_2⟩ := HS.out.c3 1 _ _ _ _ _ rfl; obtain ⟨c2_0, c2_1, c2_2⟩ := HS.out.c3 2 _ _ _ _ _ rfl; obtain ⟨c3_0, c3_1, c3_2⟩ := HS.out.c3 3 _ _ _ _ _ rfl) | ((with_reducible refine gate_store (p := 48) rfl ?_); refine Sl.store_st HS.out 1 g5 52 _ rfl 1 ((.slice A9_ (ys ++ [y]).length c9_)) (by rfl) (by rfl) ?hr ?_; (case hr => have f_ := HS.out.free 1 _ _ _ rfl 1; first | (go_simp; done) | (go_simp; rfl)); intro w22_ HSn; replace HS : Hid (St [SL.row (Kd.int .u32) 39 (.slice A9_ (ys ++ [y]).length c9_) (ys ++ [y]), SL.blk g5 52 #[.slice (some ad) fst.length c, (.slice A9_ (ys ++ [y]).length c9_), .int .i64 m], SL.blk g4 52 #[.slice none 0 0, .slice none 0 0, .int .i64 0], SL.blk g2 52 #[.slice (some ad) fst.length c, .slice (some ad2) now.length c2, .int .i64 m]] w w22_) := Go.Lib.hid HSn; clear HSn; clear c1_0 c1_1 c1_2 c2_0 c2_1 c2_2 c3_0 c3_1 c3_2; obtain ⟨c1_0, c1_1, c1_2⟩ := HS.out.c3 1 _ _ _ _ _ rfl; obtain ⟨c2_0, c2_1, c2_2⟩ := HS.out.c3 2 _ _ _ _ _ rfl; obtain ⟨c3_0, c3_1, c3_2⟩ := HS.out.c3 3 _ _ _ _ _ rfl))
        go_roundw
        case rel => exact ⟨k + 1, _, _, by omega, by go_num, by rw [List.take_succ_eq_append_getElem (by omega), ← HY.out, HB.out], HS.out⟩
        case measure => simp [intOf]; omega
      | false =>
        have HB : Hid (bs[k] = x0) := Go.Lib.hid (by simpa [goes] using hb0)
        clear hb0
        obtain ⟨c1_0, c1_1, c1_2⟩ := HS.out.c3 1 _ _ _ _ _ rfl
        obtain ⟨c2_0, c2_1, c2_2⟩ := HS.out.c3 2 _ _ _ _ _ rfl
        obtain ⟨c3_0, c3_1, c3_2⟩ := HS.out.c3 3 _ _ _ _ _ rfl
        go_wp2_with (first | ((with_reducible refine gate_dst (N := 47) rfl ?_); refine Sl.append_st (Kd.int .u32) (flat_int .u32) HS.out 0 (.slice A1 ys.length c1) (ys) 39 rfl (by rfl) (.tmp 44) (.tmp 46) 36 (.int .u32 0) 4 rfl Try.underlying36 (by kernel_rfl) rfl (by decide) (by decide) (x0) [.int .u32 (x0)] rfl rfl ?hp ?hb ?_; (case hp => first | rfl | exact k39_mk _ _); (case hb => omega); intro v1_ w21_ HSn; obtain ⟨A9_, c9_, hv2_, _⟩ := HSn.rowC 0 rfl; subst hv2_; replace HS : Hid (St [SL.row (Kd.int .u32) 39 (.slice A9_ (ys ++ [x0]).length c9_) (ys ++ [x0]), SL.blk g5 52 #[.slice (some ad) fst.length c, .slice A1 ys.length c1, .int .i64 m], SL.blk g4 52 #[.slice none 0 0, .slice none 0 0, .int .i64 0], SL.blk g2 52 #[.slice (some ad) fst.length c, .slice (some ad2) now.length c2, .int .i64 m]] w w21_) := Go.Lib.hid HSn; clear HSn; clear c1_0 c1_1 c1_2 c2_0 c2_1 c2_2 c3_0 c3_1 c3_2; obtain ⟨c1_0, c1_1, c1_2⟩ := HS.out.c3 1 _ _ _ _ _ rfl; obtain ⟨c2_0, c2_1, c2_2⟩ := HS.out.c3 2 _ _ _ _ _ rfl; obtain ⟨c3_0, c3_1, c3_2⟩ := HS.out.c3 3 _ _ _ _ _ rfl) | ((with_reducible refine gate_store (p := 48) rfl ?_); refine Sl.store_st HS.out 1 g5 52 _ rfl 1 ((.slice A9_ (ys ++ [x0]).length c9_)) (by rfl) (by rfl) ?hr ?_; (case hr => have f_ := HS.out.free 1 _ _ _ rfl 1; first | (go_simp; done) | (go_simp; rfl)); intro w22_ HSn; replace HS : Hid (St [SL.row (Kd.int .u32) 39 (.slice A9_ (ys ++ [x0]).length c9_) (ys ++ [x0]), SL.blk g5 52 #[.slice (some ad) fst.length c, (.slice A9_ (ys ++ [x0]).length c9_), .int .i64 m], SL.blk g4 52 #[.slice none 0 0, .slice none 0 0, .int .i64 0], SL.blk g2 52 #[.slice (some ad) fst.length c, .slice (some ad2) now.length c2, .int .i64 m]] w w22_) := Go.Lib.hid HSn; clear HSn; clear c1_0 c1_1 c1_2 c2_0 c2_1 c2_2 c3_0 c3_1 c3_2; obtain ⟨c1_0, c1_1, c1_2⟩ := HS.out.c3 1 _ _ _ _ _ rfl; obtain ⟨c2_0, c2_1, c2_2⟩ := HS.out.c3 2 _ _ _ _ _ rfl; obtain ⟨c3_0, c3_1, c3_2⟩ := HS.out.c3 3 _ _ _ _ _ rfl))
        go_roundw
        case rel => exact ⟨k + 1, _, _, by omega, by go_num, by rw [List.take_succ_eq_append_getElem (by omega), ← HY.out, HB.out], HS.out⟩
        case measure => simp [intOf]; omega
    · obtain rfl : k = fst.length := by omega
      have HYL := Go.Lib.hid hyl
      have HS := Go.Lib.hid hS
      clear hS hyl
      obtain ⟨c1_0, c1_1, c1_2⟩ := HS.out.c3 1 _ _ _ _ _ rfl
      obtain ⟨c2_0, c2_1, c2_2⟩ := HS.out.c3 2 _ _ _ _ _ rfl
      obtain ⟨c3_0, c3_1, c3_2⟩ := HS.out.c3 3 _ _ _ _ _ rfl
      go_wp2_with (first | ((with_reducible refine gate_store (p := 4) rfl ?_); refine Sl.storeAll_st HS.out 2 g4 52 _ rfl [.slice A fst.length c, .slice A1 ys.length c1, .int .i64 m] rfl (by rfl) (by rfl) ?hr ?_; (case hr => have f_ := HS.out.f3 2 _ _ _ _ _ rfl; (try obtain ⟨f0, f1, f2⟩ := f_); first | (go_simp; done) | (go_simp; rfl)); intro w21_ HSn; replace HS : Hid (St [SL.row (Kd.int .u32) 39 (.slice A1 ys.length c1) (ys), SL.blk g5 52 #[.slice A fst.length c, .slice A1 ys.length c1, .int .i64 m], SL.blk g4 52 #[.slice A fst.length c, .slice A1 ys.length c1, .int .i64 m], SL.blk g2 52 #[.slice A fst.length c, .slice A2 now.length c2, .int .i64 m]] w w21_) := Go.Lib.hid HSn; clear HSn; clear c1_0 c1_1 c1_2 c2_0 c2_1 c2_2 c3_0 c3_1 c3_2; obtain ⟨c1_0, c1_1, c1_2⟩ := HS.out.c3 1 _ _ _ _ _ rfl; obtain ⟨c2_0, c2_1, c2_2⟩ := HS.out.c3 2 _ _ _ _ _ rfl; obtain ⟨c3_0, c3_1, c3_2⟩ := HS.out.c3 3 _ _ _ _ _ rfl))
      have h1 := ((HS.out.erase 3).erase 2).erase 1
      have e1 : ys = bs := by rw [HY.out, List.take_of_length_le (by rw [HBL.out, HL.out]; omega)]
      have H1 := Go.Lib.hid h1
      have E1 := Go.Lib.hid e1
      clear h1 e1
      refine bodyPost_ret (v := .agg #[.slice A fst.length c, .slice A1 ys.length c1, .int .i64 m]) (by simp [results, Try.results34, go_sem, c2_0, c2_1, c2_2]) rfl ⟨_, rfl, ?_⟩
      have h1 := H1.out
      rw [E1.out] at h1 ⊢
      exact h1
end Go.Proofs.Ytkmhgolohppliaa.Rfc

/-! Cells as owned memory: Get, Copy; the document's calls in the same words. -/
namespace Go.Proofs.Ytkmhgolohppliaa.Cls
open Go.RowKit Go.Proofs.Ytkmhgolohppliaa.PCellsPlays Go.Proofs.YtkmhgolohppliaaW.PrintWords Go.Proofs.YtkmhgolohppliaaW.PrintLast Go.Proofs.YtkmhgolohppliaaW.PrintMore Go.Proofs.Ytkmhgolohppliaa.Mine Go.Proofs.Ytkmhgolohppliaa.Cel
open Go.Proofs.Ytkmhgolohppliaa.Sl (SL Stp St No)
set_option linter.unusedVariables false
set_option linter.unusedSimpArgs false
attribute [local go_sem] max2_int min2_int max_two min_two max_three min_three max_four min_four
variable {l : List SL} {w0 w : World} {g : Nat} {fst : List S43} {now : List Int} {wr : Int}

def getN (now : List Int) (i : Int) : Int := if inB i now.length = true then rd now i else 0
set_option maxHeartbeats 800000 in
theorem get_st (h : St l w0 w) (n : Nat) (e : l[n]? = some (cells g fst now wr)) (i : Int) :
    Calls Try.prog 35 #[.pointer (some ⟨g, 0, none⟩), .int .i64 i] w fun e w' => e = .returned (.tuple #[.int .u32 (getN now i), .bool (inB i now.length)]) ∧ w = w' := by
  obtain ⟨v1, v2, hI, _⟩ := open_ h n e
  clear e h
  have HI := Go.Lib.hid hI
  unfold getN
  by_cases hb : inB i now.length = true
  · rw [hb, if_pos rfl]
    have h0 : 0 ≤ i := by unfold inB at hb; simp at hb; omega
    have h1 : i < now.length := by unfold inB at hb; simp at hb; omega
    obtain ⟨b, cap, rfl, hcap, hc, hf, _⟩ := hI.at_ i h0 h1
    have c1 := blk_cell hI.blk 1
    clear hI
    go_enter Try.func35, Try.ntmps35
    go_wp2_with (go_at_call 92; refine (there_calls HI.out i).mono ?_; rintro e w' ⟨rfl, rfl⟩)
    go_ret2
    exact ⟨rfl, rfl⟩
  · have hb' : inB i now.length = false := by simpa using hb
    rw [hb', if_neg (by simp)]
    clear hI hb
    go_enter Try.func35, Try.ntmps35
    go_wp2_with (go_at_call 92; refine (there_calls HI.out i).mono ?_; rintro e w' ⟨rfl, rfl⟩)
    go_ret2
    exact ⟨rfl, rfl⟩
theorem fold_cells {v1 v2 : Value} (h : St (SL.blk g 170 #[v1, v2, .int .i64 wr] :: SL.row (Kd.int .u32) 39 v2 now :: SL.row k43 43 v1 fst :: l) w0 w) (hl : now.length = fst.length) : St (cells g fst now wr :: l) w0 w := by
  refine (h.pair.fuse _ (fun S hS => ?_))
  obtain ⟨S1, S2, ⟨T1, T2, h1, h2, hd1, hs1⟩, h3, hd, hs⟩ := hS
  refine ⟨All g v1 v2, ⟨v1, v2, ⟨h1.1, Nat.zero_le _, Kd.R_flat (fun h => h) h3.1 (fun k hk _ => hk), Kd.R_flat (fun h => h) h2.1 (fun k hk _ => hk), hl⟩, fun _ => Iff.rfl⟩, ?_⟩
  rintro i (rfl | hi | hi)
  · exact (hs _).2 (.inl ((hs1 _).2 (.inl ((h1.2 _).2 rfl))))
  · exact (hs _).2 (.inr (h3.1.1 i hi))
  · exact (hs _).2 (.inl ((hs1 _).2 (.inr (h2.1.1 i hi))))
-- COPY
set_option maxHeartbeats 1600000 in
set_option maxRecDepth 100000 in
theorem copy_st (h : St l w0 w) (n : Nat) (e : l[n]? = some (cells g fst now wr)) (hn : fst.length ≤ 1000000) :
    Calls Try.prog 37 #[.pointer (some ⟨g, 0, none⟩)] w fun e w' => ∃ g2, e = .returned (.pointer (some ⟨g2, 0, none⟩)) ∧ St (cells g2 fst now wr :: l) w0 w' := by
  obtain ⟨v1, v2, hI, _⟩ := open_ h n e
  clear e
  have hl := hI.len
  obtain ⟨A1, c1, rfl, _, hC⟩ := Kd.R_reads hI.drew.fst_
  obtain ⟨A2, c2, rfl, _, hD⟩ := Kd.R_reads hI.drew.now_
  have HC := Go.Lib.hid hC
  have HD := Go.Lib.hid hD
  have k0 := blk_cell hI.blk 0
  have k1 := blk_cell hI.blk 1
  have k2 := blk_cell hI.blk 2
  have HS := Go.Lib.hid h.drew
  have HL := Go.Lib.hid hl
  have hn2 : now.length ≤ 1000000 := by omega
  clear hC hD hI h hl
  go_enter Try.func37, Try.ntmps37
  go_wp2_with fail
  refine start_ (n := 17) (S := fun w' => w'.cell? ⟨g, 0, none⟩ = some (.slice A1 fst.length c1) ∧ w'.cell? ⟨g, 1, none⟩ = some (.slice A2 now.length c2) ∧ w'.cell? ⟨g, 2, none⟩ = some (.int .i64 wr)) (ds := []) #[false, false, false, false, false, false, false, false, false, false, false, false, false, false, false, false, false] (by kernel_rfl) rfl rfl ⟨pw_cell_below (below_drew (Below.refl _ _)) k0, pw_cell_below (below_drew (Below.refl _ _)) k1, pw_cell_below (below_drew (Below.refl _ _)) k2⟩ (fun hHeld => ?_)
  generalize w.drew = W_ at *
  refine pure_ (i := 0) (N := some 3) (v := ?_) (a' := ?_) #[true, false, false, false, false, false, false, false, false, false, false, false, false, false, false, false, false] rfl rfl (by kernel_rfl) (fun _ _ _ h => h) (Or.inl ⟨by rfl, ?_⟩) ?_ ?_
  rotate_left
  · intro w'
    go_simp
    with_reducible rfl
  rotate_left
  · simp only [Act.put, List.setIfInBounds_toArray, List.set_cons_zero, List.set_cons_succ, i64_w, i32_w]
    rfl
  refine pure_ (i := 1) (N := some 4) (v := ?_) (a' := ?_) #[true, true, false, false, false, false, false, false, false, false, false, false, false, false, false, false, false] rfl rfl (by kernel_rfl) (fun _ _ _ h => h) (Or.inl ⟨by rfl, ?_⟩) ?_ ?_
  rotate_left
  · intro w'
    go_simp
    with_reducible rfl
  rotate_left
  · simp only [Act.put, List.setIfInBounds_toArray, List.set_cons_zero, List.set_cons_succ, i64_w, i32_w]
    rfl
  refine pure_ (i := 2) (N := some 5) (v := ?_) (a' := ?_) #[true, true, true, false, false, false, false, false, false, false, false, false, false, false, false, false, false] rfl rfl (by kernel_rfl) (fun _ _ _ h => h) (Or.inl ⟨by rfl, ?_⟩) ?_ ?_
  rotate_left
  · intro w'
    go_simp
    with_reducible rfl
  rotate_left
  · simp only [Act.put, List.setIfInBounds_toArray, List.set_cons_zero, List.set_cons_succ, i64_w, i32_w]
    rfl
  refine pure_ (i := 5) (N := some 8) (v := ?_) (a' := ?_) #[true, true, true, false, false, true, false, false, false, false, false, false, false, false, false, false, false] rfl rfl (by kernel_rfl) (fun _ _ _ h => h) (Or.inl ⟨by rfl, ?_⟩) ?_ ?_
  rotate_left
  · intro w'
    go_simp
    with_reducible rfl
  rotate_left
  · simp only [Act.put, List.setIfInBounds_toArray, List.set_cons_zero, List.set_cons_succ, i64_w, i32_w]
    rfl
  refine pure_ (i := 6) (N := some 9) (v := ?_) (a' := ?_) #[true, true, true, false, false, true, true, false, false, false, false, false, false, false, false, false, false] rfl rfl (by kernel_rfl) (fun _ _ _ h => h) (Or.inl ⟨by rfl, ?_⟩) ?_ ?_
  rotate_left
  · intro w'
    go_simp
    with_reducible rfl
  rotate_left
  · simp only [Act.put, List.setIfInBounds_toArray, List.set_cons_zero, List.set_cons_succ, i64_w, i32_w]
    rfl
  refine pure_ (i := 7) (N := some 10) (v := ?_) (a' := ?_) #[true, true, true, false, false, true, true, true, false, false, false, false, false, false, false, false, false] rfl rfl (by kernel_rfl) (fun _ _ _ h => h) (Or.inl ⟨by rfl, ?_⟩) ?_ ?_
  rotate_left
  · intro w'
    go_simp
    with_reducible rfl
  rotate_left
  · simp only [Act.put, List.setIfInBounds_toArray, List.set_cons_zero, List.set_cons_succ, i64_w, i32_w]
    rfl
  refine pure_ (i := 10) (N := some 13) (v := ?_) (a' := ?_) #[true, true, true, false, false, true, true, true, false, false, true, false, false, false, false, false, false] rfl rfl (by kernel_rfl) (fun _ _ _ h => h) (Or.inl ⟨by rfl, ?_⟩) ?_ ?_
  rotate_left
  · intro w'
    go_simp
    with_reducible rfl
  rotate_left
  · simp only [Act.put, List.setIfInBounds_toArray, List.set_cons_zero, List.set_cons_succ, i64_w, i32_w]
    rfl
  refine pure_ (i := 11) (N := some 14) (v := ?_) (a' := ?_) #[true, true, true, false, false, true, true, true, false, false, true, true, false, false, false, false, false] rfl rfl (by kernel_rfl) (fun _ _ _ h => h) (Or.inl ⟨by rfl, ?_⟩) ?_ ?_
  rotate_left
  · intro w'
    go_simp
    with_reducible rfl
  rotate_left
  · simp only [Act.put, List.setIfInBounds_toArray, List.set_cons_zero, List.set_cons_succ, i64_w, i32_w]
    rfl
  refine pure_ (i := 12) (N := some 15) (v := ?_) (a' := ?_) #[true, true, true, false, false, true, true, true, false, false, true, true, true, false, false, false, false] rfl rfl (by kernel_rfl) (fun _ _ _ h => h) (Or.inl ⟨by rfl, ?_⟩) ?_ ?_
  rotate_left
  · intro w'
    go_simp
    with_reducible rfl
  rotate_left
  · simp only [Act.put, List.setIfInBounds_toArray, List.set_cons_zero, List.set_cons_succ, i64_w, i32_w]
    rfl
  refine take_ (i := 3) (N := some 6) (v := ?_) (a' := ?_) #[true, true, true, true, false, true, true, true, false, false, true, true, true, false, false, false, false] rfl rfl (by kernel_rfl) (fun _ _ _ h => h) (Or.inl ⟨by rfl, ?_⟩) hHeld ?_ ?_
  rotate_left
  · rintro w' ⟨s0, s1, s2⟩
    go_simp
    with_reducible rfl
  rotate_left
  · simp only [Act.put, List.setIfInBounds_toArray, List.set_cons_zero, List.set_cons_succ, i64_w, i32_w]
    rfl
  refine take_ (i := 8) (N := some 11) (v := ?_) (a' := ?_) #[true, true, true, true, false, true, true, true, true, false, true, true, true, false, false, false, false] rfl rfl (by kernel_rfl) (fun _ _ _ h => h) (Or.inl ⟨by rfl, ?_⟩) hHeld ?_ ?_
  rotate_left
  · rintro w' ⟨s0, s1, s2⟩
    go_simp
    with_reducible rfl
  rotate_left
  · simp only [Act.put, List.setIfInBounds_toArray, List.set_cons_zero, List.set_cons_succ, i64_w, i32_w]
    rfl
  refine take_ (i := 13) (N := some 16) (v := ?_) (a' := ?_) #[true, true, true, true, false, true, true, true, true, false, true, true, true, true, false, false, false] rfl rfl (by kernel_rfl) (fun _ _ _ h => h) (Or.inl ⟨by rfl, ?_⟩) hHeld ?_ ?_
  rotate_left
  · rintro w' ⟨s0, s1, s2⟩
    go_simp
    with_reducible rfl
  rotate_left
  · simp only [Act.put, List.setIfInBounds_toArray, List.set_cons_zero, List.set_cons_succ, i64_w, i32_w]
    rfl
  refine one_ (i := 4) (N := some 7) #[true, true, true, true, true, true, true, true, true, false, true, true, true, true, false, false, false] rfl rfl (by kernel_rfl) (by decide) (fun K hK => ?_)
  refine goes_ Try.func89 (by kernel_rfl) rfl #[.slice A1 fst.length c1] (by rfl) rfl rfl (by (try simp only [List.map_toArray, List.map_cons, List.map_nil]); first | done | rfl) ?_
  refine (clone89_calls A1 fst.length c1 fst _ HC.out (by omega)).mono ?_
  rintro e w9 ⟨v9, rfl, hR9, hB9⟩
  have hS9 := HS.out.row hR9 hB9
  obtain ⟨A9, c9, hv9, _⟩ := hS9.rowC 0 rfl
  subst hv9
  have HS9 := Go.Lib.hid hS9
  clear hS9
  have HD9 := Go.Lib.hid (Kd.C_below HD.out hB9)
  refine ⟨_, rfl, ?_⟩
  refine hK.out _ _ ⟨pw_cell_below hB9 hHeld.1, pw_cell_below hB9 hHeld.2.1, pw_cell_below hB9 hHeld.2.2⟩ (fun hHeld => ?_)
  clear hK K
  refine norm_ (a' := ?_) ?_ ?_
  rotate_left
  · show Act.put _ (some 7) _ = _
    simp only [Act.put, List.setIfInBounds_toArray, List.set_cons_zero, List.set_cons_succ, i64_w, i32_w]
    rfl
  refine one_ (i := 9) (N := some 12) #[true, true, true, true, true, true, true, true, true, true, true, true, true, true, false, false, false] rfl rfl (by kernel_rfl) (by decide) (fun K hK => ?_)
  clear hB9 hR9
  refine goes_ Try.func93 (by kernel_rfl) rfl #[.slice A2 now.length c2] (by rfl) rfl rfl (by (try simp only [List.map_toArray, List.map_cons, List.map_nil]); first | done | rfl) ?_
  refine (clone93_calls A2 now.length c2 now _ HD9.out (by omega)).mono ?_
  rintro e w10 ⟨v10, rfl, hR10, hB10⟩
  have hS10 := HS9.out.row hR10 hB10
  obtain ⟨A10, c10, hv10, _⟩ := hS10.rowC 0 rfl
  subst hv10
  have HS10 := Go.Lib.hid hS10
  clear hS10
  refine ⟨_, rfl, ?_⟩
  refine hK.out _ _ ⟨pw_cell_below hB10 hHeld.1, pw_cell_below hB10 hHeld.2.1, pw_cell_below hB10 hHeld.2.2⟩ (fun hHeld => ?_)
  clear hK K
  refine norm_ (a' := ?_) ?_ ?_
  rotate_left
  · show Act.put _ (some 12) _ = _
    simp only [Act.put, List.setIfInBounds_toArray, List.set_cons_zero, List.set_cons_succ, i64_w, i32_w]
    rfl
  refine pure_ (i := 14) (N := some 17) (v := ?_) (a' := ?_) #[true, true, true, true, true, true, true, true, true, true, true, true, true, true, true, false, false] rfl rfl (by kernel_rfl) (fun _ _ _ h => h) (Or.inl ⟨by rfl, ?_⟩) ?_ ?_
  rotate_left
  · intro w'
    go_simp
    with_reducible rfl
  rotate_left
  · simp only [Act.put, List.setIfInBounds_toArray, List.set_cons_zero, List.set_cons_succ, i64_w, i32_w]
    rfl
  refine one_ (i := 15) (N := some 18) #[true, true, true, true, true, true, true, true, true, true, true, true, true, true, true, true, false] rfl rfl (by kernel_rfl) (by decide) (fun K hK => ?_)
  refine Sl.box_stp HS10.out (by rfl) (cs := #[.slice A9 fst.length c9, .slice A10 now.length c10, .int .i64 wr]) (t := 170) ?hr ?_
  case hr => first | (go_simp; done) | (go_simp; rfl)
  intro g2 w11 HS11 hB11
  refine hK.out _ _ ⟨pw_cell_below hB11 hHeld.1, pw_cell_below hB11 hHeld.2.1, pw_cell_below hB11 hHeld.2.2⟩ (fun hHeld => ?_)
  clear hK K
  refine norm_ (a' := ?_) ?_ ?_
  rotate_left
  · show Act.put _ (some 18) _ = _
    simp only [Act.put, List.setIfInBounds_toArray, List.set_cons_zero, List.set_cons_succ, i64_w, i32_w]
    rfl
  refine pure_ (i := 16) (N := some 2) (v := ?_) (a' := ?_) #[true, true, true, true, true, true, true, true, true, true, true, true, true, true, true, true, true] rfl rfl (by kernel_rfl) (fun _ _ _ h => h) (Or.inl ⟨by rfl, ?_⟩) ?_ ?_
  rotate_left
  · intro w'
    go_simp
    with_reducible rfl
  rotate_left
  · simp only [Act.put, List.setIfInBounds_toArray, List.set_cons_zero, List.set_cons_succ, i64_w, i32_w]
    rfl
  refine done_ (by kernel_rfl) ?_
  go_wp2_with fail
  go_ret
  exact ⟨_, rfl, fold_cells HS11 HL.out⟩

theorem rnew_st (h : St l w0 w) (A : Option Addr) (c : Nat) (hC : k43.C w A fst.length fst) (hn : fst.length ≤ 1000) :
    Calls Try.prog 32 #[.slice A fst.length c] w fun e w' => ∃ v, e = .returned (.agg #[.slice A fst.length c, v, .int .i64 0]) ∧ St (SL.row (Kd.int .u32) 39 v (fst.map (·.f0)) :: l) w0 w' := by
  refine (Rfc.new_calls A c hC hn).mono ?_
  rintro e w1 ⟨v, rfl, hS⟩
  exact ⟨v, rfl, h.join1 hS⟩
theorem rset_st (h : St l w0 w) (n : Nat) (A : Option Addr) (m c : Nat) (A2 : Option Addr) (c2 : Nat) (e : l[n]? = some (SL.row (Kd.int .u32) 39 (.slice A2 now.length c2) now)) (i x : Int) (hn : now.length ≤ 1000000) (hw0 : 0 ≤ wr) (hw1 : wr ≤ 1000000) :
    Calls Try.prog 33 #[.agg #[.slice A m c, .slice A2 now.length c2, .int .i64 wr], .int .i64 i, .int .u32 x] w fun e w' => ∃ A3 c3, e = .returned (.tuple #[.agg #[.slice A m c, .slice A3 (setN now i x).length c3, .int .i64 (setM now i wr)], .bool (inB i now.length)]) ∧ St (l.set n (SL.row (Kd.int .u32) 39 (.slice A3 (setN now i x).length c3) (setN now i x))) w0 w' := by
  obtain ⟨S1, h1, hk⟩ := h.at_ n _ e
  by_cases hi : inB i now.length = true
  · obtain ⟨A', c', hv, hc', hC⟩ := Kd.R_reads h1.1
    injection hv with q1 _ q2
    subst q1 q2
    refine (Rfc.set_yes A m c A2 c2 wr i x hC hc' hn hi hw0 hw1).mono ?_
    rintro e w1 ⟨v, rfl, hS⟩
    obtain ⟨A3, c3, rfl, _, _⟩ := hS.rowC 0 rfl
    unfold setN setM
    rw [if_pos hi, if_pos hi, hi]
    obtain ⟨S2, ⟨S3, S4, h3, h4, _, hs⟩, k2⟩ := hS
    exact ⟨A3, c3, rfl, hk _ _ S3 h3 ((k2.sub (fun i hi => (hs i).2 (.inl hi))).more (fun _ h => h.elim))⟩
  · refine (Rfc.set_no A m c A2 now.length c2 wr i x (by simpa using hi)).mono ?_
    rintro e w1 ⟨rfl, hB⟩
    unfold setN setM
    rw [if_neg hi, if_neg hi, show inB i now.length = false by simpa using hi]
    exact ⟨A2, c2, rfl, hk _ _ S1 (SL.below h1 hB) (Stp.of_below hB)⟩
theorem rstart_st (h : St l w0 w) (n : Nat) (A : Option Addr) (c : Nat) (A2 : Option Addr) (c2 : Nat) (hC : k43.C w A fst.length fst) (e : l[n]? = some (SL.row (Kd.int .u32) 39 (.slice A2 now.length c2) now)) (hl : now.length = fst.length) (hn : fst.length ≤ 1000) (m : Int) (cold : Bool) :
    Calls Try.prog 34 #[.agg #[.slice A fst.length c, .slice A2 now.length c2, .int .i64 m], .bool cold] w fun e w' => ∃ A3 c3, e = .returned (.agg #[.slice A fst.length c, .slice A3 (back cold fst now fst.length).length c3, .int .i64 (if cold = true then 0 else m)]) ∧ St (l.set n (SL.row (Kd.int .u32) 39 (.slice A3 (back cold fst now fst.length).length c3) (back cold fst now fst.length))) w0 w' := by
  obtain ⟨S1, h1, hk⟩ := h.at_ n _ e
  obtain ⟨A', c', hv, hc', hD⟩ := Kd.R_reads h1.1
  injection hv with q1 _ q2
  subst q1 q2
  have fin : ∀ (v : Value) (w1 : World), St [SL.row (Kd.int .u32) 39 v (back cold fst now fst.length)] w w1 → ∃ A3 c3, v = .slice A3 (back cold fst now fst.length).length c3 ∧ St (l.set n (SL.row (Kd.int .u32) 39 v (back cold fst now fst.length))) w0 w1 := by
    intro v w1 hS
    obtain ⟨A3, c3, hv, _, _⟩ := hS.rowC 0 rfl
    obtain ⟨S2, ⟨S3, S4, h3, h4, _, hs⟩, k2⟩ := hS
    exact ⟨A3, c3, hv, hk _ _ S3 h3 ((k2.sub (fun i hi => (hs i).2 (.inl hi))).more (fun _ h => h.elim))⟩
  cases cold with
  | true =>
    refine (Rfc.start_true A c A2 c2 hC hD hl hn m).mono ?_
    rintro e w1 ⟨v, rfl, hS⟩
    obtain ⟨A3, c3, rfl, h5⟩ := fin v w1 hS
    exact ⟨A3, c3, rfl, h5⟩
  | false =>
    refine (Rfc.start_false A c A2 c2 hC hD hl hn m).mono ?_
    rintro e w1 ⟨v, rfl, hS⟩
    obtain ⟨A3, c3, rfl, h5⟩ := fin v w1 hS
    exact ⟨A3, c3, rfl, h5⟩
theorem rsame_tell (a b : List Int) (hl : a.length = b.length) (hm : a.length ≤ 1000000) (d : Nat) : ∀ (k i : Nat), i ≤ a.length → a.length - i = d → d < k → (∀ j : Nat, j < i → rd a j = rd b j) →
    countwheelref20_Same.l0 k a b (i : Int) = some (decide (a = b)) := by
  induction d with
  | zero =>
    intro k i hi hd hk hp
    obtain ⟨k, rfl⟩ : ∃ m, k = m + 1 := ⟨k - 1, by omega⟩
    obtain rfl : i = a.length := by omega
    simp only [countwheelref20_Same.l0]
    rw [if_neg (by omega)]
    have : a = b := List.ext_getElem hl (fun j h1 h2 => by have := hp j h1; rwa [rd_nat _ _ h1, rd_nat _ _ h2] at this)
    simp [this]
  | succ d ih =>
    intro k i hi hd hk hp
    obtain ⟨k, rfl⟩ : ∃ m, k = m + 1 := ⟨k - 1, by omega⟩
    have c1 : (i : Int) < (a.length : Int) := by omega
    have c2 : (0 : Int) ≤ (i : Int) := by omega
    have c3 : (i : Int) < (b.length : Int) := by omega
    have e : wrap64 ((i : Int) + 1) = ((i + 1 : Nat) : Int) := by unfold wrap64; omega
    simp only [countwheelref20_Same.l0]
    rw [if_pos c1, if_pos c2, if_pos c3]
    by_cases hq : rd a i = rd b i
    · rw [if_pos hq, e]
      clear e
      exact ih k (i + 1) (by omega) (by omega) (by omega) (fun j hj => by
        by_cases ej : j = i
        · subst ej; exact hq
        · exact hp j (by omega))
    · rw [if_neg hq]
      have : a ≠ b := by rintro rfl; exact hq rfl
      simp [this]
theorem rsame_at (a b : List Int) (hm : a.length ≤ 1000000) : countwheelref20_Same.f (a.length + 5) a b = some (decide (a = b)) := by
  unfold countwheelref20_Same.f
  by_cases h : (a.length : Int) = (b.length : Int)
  · rw [if_pos h]
    exact rsame_tell a b (by omega) hm a.length (a.length + 5) 0 (by omega) (by omega) (by omega) (fun j hj => absurd hj (Nat.not_lt_zero _))
  · rw [if_neg h]
    have : a ≠ b := by rintro rfl; exact h rfl
    simp [this]
/-- Are two rows of numbers one: the document's. -/
theorem rsame_st (h : St l w0 w) (n m : Nat) {a b : List Int} {A : Option Addr} {c : Nat} {B : Option Addr} {d : Nat} (e : l[n]? = some (SL.row (Kd.int .u32) 39 (.slice A a.length c) a)) (e2 : l[m]? = some (SL.row (Kd.int .u32) 39 (.slice B b.length d) b)) (hm : a.length ≤ 1000000) :
    Calls Try.prog 36 #[.slice A a.length c, .slice B b.length d] w fun e w' => e = .returned (.bool (decide (a = b))) ∧ St l w0 w' := by
  obtain ⟨A', c', hv, hc, hC⟩ := h.rowC n e
  injection hv with q1 _ q2
  subst q1 q2
  obtain ⟨A', c', hv, hc', hC'⟩ := h.rowC m e2
  injection hv with q1 _ q2
  subst q1 q2
  refine (countwheelref20_Same.calls (a.length + 5) A c a B d b _ w hC hc hC' hc' (rsame_at a b hm)).mono ?_
  rintro e w1 ⟨rfl, hD⟩
  exact ⟨rfl, h.drawn hD⟩
end Go.Proofs.Ytkmhgolohppliaa.Cls

/-! Cells and the document's, calls in their last form. -/
namespace Go.Proofs.Ytkmhgolohppliaa.Cls
open Go.RowKit Go.Proofs.Ytkmhgolohppliaa.PCellsPlays Go.Proofs.YtkmhgolohppliaaW.PrintWords Go.Proofs.YtkmhgolohppliaaW.PrintLast Go.Proofs.YtkmhgolohppliaaW.PrintMore Go.Proofs.Ytkmhgolohppliaa.Mine Go.Proofs.Ytkmhgolohppliaa.Cel
open Go.Proofs.Ytkmhgolohppliaa.Sl (SL Stp St No)
set_option linter.unusedVariables false
set_option linter.unusedSimpArgs false
attribute [local go_sem] max2_int min2_int max_two min_two max_three min_three max_four min_four
variable {l : List SL} {w0 w : World} {g : Nat} {fst : List S43} {now : List Int}

theorem rsame_eq (h : St l w0 w) (n m : Nat) {a : List Int} {A : Option Addr} {c : Nat} {B : Option Addr} {d : Nat} (e : l[n]? = some (SL.row (Kd.int .u32) 39 (.slice A a.length c) a)) (e2 : l[m]? = some (SL.row (Kd.int .u32) 39 (.slice B a.length d) a)) (hm : a.length ≤ 1000000) :
    Calls Try.prog 36 #[.slice A a.length c, .slice B a.length d] w fun e w' => e = .returned (.bool true) ∧ St l w0 w' := by
  have h1 := rsame_st h n m e e2 hm
  rw [decide_eq_true rfl] at h1
  exact h1
theorem all_row (h : St l w0 w) (n : Nat) {m : Int} (e : l[n]? = some (cells g fst now m)) (hn : now.length ≤ 1000000) :
    Calls Try.prog 26 #[.pointer (some ⟨g, 0, none⟩)] w fun e w' => ∃ A c, e = .returned (.slice A now.length c) ∧ St (SL.row (Kd.int .u32) 39 (.slice A now.length c) now :: l) w0 w' := by
  refine (all_st h n e hn).mono ?_
  rintro e w1 ⟨v, rfl, hS⟩
  obtain ⟨A, c, rfl, _, _⟩ := hS.rowC 0 rfl
  exact ⟨A, c, rfl, hS⟩
theorem len_eq_st (h : St l w0 w) (n : Nat) {m : Int} (e : l[n]? = some (cells g fst now m)) :
    Calls Try.prog 31 #[.pointer (some ⟨g, 0, none⟩)] w fun e w' => e = .returned (.int .i64 (fst.length : Int)) ∧ w = w' := by
  have h1 := len_st h n e
  rw [len_eq h n e] at h1
  exact h1
theorem setN_len (now : List Int) (i x : Int) : (setN now i x).length = now.length := by unfold setN; split <;> simp
/-- Are the first k what they were at first? -/
def freshTo (fst : List S43) (now : List Int) (k : Nat) : Bool := decide (∀ i : Nat, i < k → rd now i = (rd_T43 fst i).f0)
theorem freshTo_all (fst : List S43) (now : List Int) : freshTo fst now fst.length = fresh fst now := by
  unfold freshTo fresh
  congr 1
  exact propext ⟨fun h i hi => (h i hi).symm, fun h i hi => (h i hi).symm⟩
theorem fresh_to (h : St l w0 w) (n : Nat) {m : Int} (e : l[n]? = some (cells g fst now m)) :
    Calls Try.prog 24 #[.pointer (some ⟨g, 0, none⟩)] w fun e w' => e = .returned (.bool (freshTo fst now fst.length)) ∧ St l w0 w' := by
  have h1 := fresh_st h n e
  rw [← freshTo_all] at h1
  exact h1
theorem get_in (h : St l w0 w) (n : Nat) {m : Int} (e : l[n]? = some (cells g fst now m)) (i : Int) (h0 : 0 ≤ i) (h1 : i < now.length) :
    Calls Try.prog 35 #[.pointer (some ⟨g, 0, none⟩), .int .i64 i] w fun e w' => e = .returned (.tuple #[.int .u32 (rd now i), .bool true]) ∧ w = w' := by
  have h2 := get_st h n e i
  have hb : inB i now.length = true := by unfold inB; simp; omega
  unfold getN at h2
  rw [hb, if_pos rfl] at h2
  exact h2
theorem get_out (h : St l w0 w) (n : Nat) {m : Int} (e : l[n]? = some (cells g fst now m)) (i : Int) (h0 : i < 0 ∨ now.length ≤ i) :
    Calls Try.prog 35 #[.pointer (some ⟨g, 0, none⟩), .int .i64 i] w fun e w' => e = .returned (.tuple #[.int .u32 0, .bool false]) ∧ w = w' := by
  have h2 := get_st h n e i
  have hb : inB i now.length = false := by unfold inB; simp; omega
  unfold getN at h2
  rw [hb, if_neg (by simp)] at h2
  exact h2
theorem same_eq (h : St l w0 w) (n m : Nat) {q : Int} (e : l[n]? = some (cells g fst now q)) {g2 : Nat} {fst2 : List S43} {q2 : Int} (e2 : l[m]? = some (cells g2 fst2 now q2)) (hn : now.length ≤ 1000000) :
    Calls Try.prog 30 #[.pointer (some ⟨g, 0, none⟩), .pointer (some ⟨g2, 0, none⟩)] w fun e w' => e = .returned (.bool true) ∧ St l w0 w' := by
  have h1 := same_st h n m e e2 hn
  rw [decide_eq_true rfl] at h1
  exact h1
theorem same_set (h : St l w0 w) (n m : Nat) {q : Int} (e : l[n]? = some (cells g fst now q)) {g2 : Nat} {fst2 : List S43} {q2 : Int} (e2 : l[m]? = some (cells g2 fst2 (setN now 0 12345) q2)) (hn : now.length ≤ 1000000) (h0 : 0 < now.length) :
    Calls Try.prog 30 #[.pointer (some ⟨g, 0, none⟩), .pointer (some ⟨g2, 0, none⟩)] w fun e w' => e = .returned (.bool (rd now 0 == 12345)) ∧ St l w0 w' := by
  have h1 := same_st h n m e e2 hn
  have e3 : decide (now = setN now 0 12345) = (rd now 0 == 12345) := by
    rw [Bool.eq_iff_iff, decide_eq_true_eq, beq_iff_eq]
    cases now with
    | nil => simp at h0
    | cons a t => simp [setN, inB, rd]
  rw [e3] at h1
  exact h1
theorem set_in (h : St l w0 w) (n : Nat) {q : Int} (e : l[n]? = some (cells g fst now q)) (x : Int) (hw0 : 0 ≤ q) (hw1 : q ≤ 1000000) (b : Bool) (hb : inB 0 now.length = b) :
    Calls Try.prog 25 #[.pointer (some ⟨g, 0, none⟩), .int .i64 0, .int .u32 x] w fun e w' => e = .returned (.bool b) ∧ St (l.set n (cells g fst (setN now 0 x) (setM now 0 q))) w0 w' := by
  have h1 := set_st h n e 0 x hw0 hw1
  rw [hb] at h1
  exact h1
theorem freshTo_succ (fst : List S43) (now : List Int) (k : Nat) : freshTo fst now (k + 1) = (freshTo fst now k && (rd now k == (rd_T43 fst k).f0)) := by
  unfold freshTo
  rw [Bool.eq_iff_iff]
  simp only [decide_eq_true_eq, Bool.and_eq_true, beq_iff_eq]
  exact ⟨fun h => ⟨fun i hi => h i (by omega), h k (by omega)⟩, fun h i hi => by
    by_cases e : i = k
    · subst e; exact h.2
    · exact h.1 i (by omega)⟩

end Go.Proofs.Ytkmhgolohppliaa.Cls
