/- The document's cells: what each of its functions comes to. -/
import Derived.Test.YtkmhgolohppliaaCls
import Derived.Test.YtkmhgolohppliaaSle
import Derived.Test.YtkmhgolohppliaaPCellsPlaysx2
namespace Go.Proofs.Ytkmhgolohppliaa.Rfc
open Go.RowKit Go.Proofs.Ytkmhgolohppliaa.PCellsPlays Go.Proofs.YtkmhgolohppliaaW.PrintWords Go.Proofs.YtkmhgolohppliaaW.PrintLast Go.Proofs.YtkmhgolohppliaaW.PrintMore Go.Proofs.Ytkmhgolohppliaa.Mine Go.Proofs.Ytkmhgolohppliaa.Cel
open Go.Proofs.Ytkmhgolohppliaa.Sl (SL Stp St No)
set_option linter.unusedVariables false
set_option linter.unusedSimpArgs false
attribute [local go_sem] max2_int min2_int max_two min_two max_three min_three max_four min_four
variable {l : List SL} {w0 w : World} {g : Nat} {fst : List S43} {now : List Int} {wr : Int}
theorem back_rd (fst : List S43) (now : List Int) (hl : now.length = fst.length) (cold : Bool) (j : Nat) (hj : j < fst.length) : (back cold fst now fst.length)[j]? = some (if goes cold (rd_T43 fst j) = true then (rd_T43 fst j).f0 else rd now j) := by
  rw [back_get fst now hl cold fst.length j (Nat.le_refl _) hj, rd43_get fst j hj, rd_nat now j (by omega)]
  simp only [hj, true_and]

set_option maxHeartbeats 800000 in
set_option maxRecDepth 100000 in
theorem set_no (A : Option Addr) (n c : Nat) (A2 : Option Addr) (n2 c2 : Nat) (wr i x : Int) (h : inB i n2 = false) :
    Calls Try.prog 33 #[.agg #[.slice A n c, .slice A2 n2 c2, .int .i64 wr], .int .i64 i, .int .u32 x] w fun e w' => e = .returned (.tuple #[.agg #[.slice A n c, .slice A2 n2 c2, .int .i64 wr], .bool false]) ∧ Below w.heap.size w w' := by
  by_cases h0 : i < 0
  · have h1 : decide (i < 0) = true := by simpa using h0
    clear h h0
    go_enter Try.func33, Try.ntmps33
    go_wp2_with fail
    exact bodyPost_ret (v := .tuple #[.agg #[.slice A n c, .slice A2 n2 c2, .int .i64 wr], .bool false]) (by simp [results, Try.results33, go_sem]) rfl ⟨rfl, by go_grown⟩
  · have h1 : decide (i < 0) = false := by simpa using h0
    have h2 : decide ((n2 : Int) ≤ i) = true := by unfold inB at h; simp at h; simp; omega
    clear h h0
    go_enter Try.func33, Try.ntmps33
    go_wp2_with fail
    exact bodyPost_ret (v := .tuple #[.agg #[.slice A n c, .slice A2 n2 c2, .int .i64 wr], .bool false]) (by simp [results, Try.results33, go_sem]) rfl ⟨rfl, by go_grown⟩

set_option maxHeartbeats 1600000 in
set_option maxRecDepth 100000 in
theorem set_yes (A : Option Addr) (n c : Nat) (A2 : Option Addr) (c2 : Nat) (wr i x : Int) (hC : (Kd.int .u32).C w A2 now.length now) (hc : now.length ≤ c2) (hn : now.length ≤ 1000000) (h : inB i now.length = true) (hw0 : 0 ≤ wr) (hw1 : wr ≤ 1000000) :
    Calls Try.prog 33 #[.agg #[.slice A n c, .slice A2 now.length c2, .int .i64 wr], .int .i64 i, .int .u32 x] w fun e w' => ∃ v, e = .returned (.tuple #[.agg #[.slice A n c, v, .int .i64 (wr + 1)], .bool true]) ∧ St [SL.row (Kd.int .u32) 39 v (now.set i.toNat x)] w w' := by
  have hi0 : 0 ≤ i := by unfold inB at h; simp at h; omega
  have hi1 : i < now.length := by unfold inB at h; simp at h; omega
  have h1 : decide (i < 0) = false := by simp; omega
  have h2 : decide ((now.length : Int) ≤ i) = false := by simp; omega
  obtain ⟨ad, rfl, _⟩ := Kd.at_int hC i hi0 hi1
  have HC := Go.Lib.hid hC
  have HS := Go.Lib.hid (St.start w)
  clear hC h
  go_enter Try.func33, Try.ntmps33
  go_wp2_with (first | ((with_reducible refine gate_dst (N := 3) rfl ?_); refine Sl.box_st HS.out (by rfl) (cs := #[.slice A n c, .slice (some ad) now.length c2, .int .i64 wr]) (t := 52) ?hr ?_; (case hr => first | (go_simp; done) | (go_simp; rfl)); intro g3 w1_ HSn HBn; clear HBn; replace HS : Hid (St [SL.blk g3 52 #[.slice A n c, .slice (some ad) now.length c2, .int .i64 wr]] w w1_) := Go.Lib.hid HSn; clear HSn; have c0_0 : w1_.cell? ⟨g3, 0, none⟩ = some (.slice A n c) := HS.out.cell 0 _ _ _ rfl 0; have f0_0 : w1_.frozen? ⟨g3, 0, none⟩ = false := HS.out.free 0 _ _ _ rfl 0; have c0_1 : w1_.cell? ⟨g3, 1, none⟩ = some (.slice (some ad) now.length c2) := HS.out.cell 0 _ _ _ rfl 1; have f0_1 : w1_.frozen? ⟨g3, 1, none⟩ = false := HS.out.free 0 _ _ _ rfl 1; have c0_2 : w1_.cell? ⟨g3, 2, none⟩ = some (.int .i64 wr) := HS.out.cell 0 _ _ _ rfl 2; have f0_2 : w1_.frozen? ⟨g3, 2, none⟩ = false := HS.out.free 0 _ _ _ rfl 2) | ((with_reducible refine gate_dst (N := 6) rfl ?_); refine Sl.box_st HS.out (by rfl) (cs := #[.slice none 0 0, .slice none 0 0, .int .i64 0]) (t := 52) ?hr ?_; (case hr => first | (go_simp; done) | (go_simp; rfl)); intro g6 w2_ HSn HBn; clear HBn; replace HS : Hid (St [SL.blk g6 52 #[.slice none 0 0, .slice none 0 0, .int .i64 0], SL.blk g3 52 #[.slice A n c, .slice (some ad) now.length c2, .int .i64 wr]] w w2_) := Go.Lib.hid HSn; clear HSn; clear c0_0 f0_0 c0_1 f0_1 c0_2 f0_2; have c0_0 : w2_.cell? ⟨g6, 0, none⟩ = some (.slice none 0 0) := HS.out.cell 0 _ _ _ rfl 0; have f0_0 : w2_.frozen? ⟨g6, 0, none⟩ = false := HS.out.free 0 _ _ _ rfl 0; have c0_1 : w2_.cell? ⟨g6, 1, none⟩ = some (.slice none 0 0) := HS.out.cell 0 _ _ _ rfl 1; have f0_1 : w2_.frozen? ⟨g6, 1, none⟩ = false := HS.out.free 0 _ _ _ rfl 1; have c0_2 : w2_.cell? ⟨g6, 2, none⟩ = some (.int .i64 0) := HS.out.cell 0 _ _ _ rfl 2; have f0_2 : w2_.frozen? ⟨g6, 2, none⟩ = false := HS.out.free 0 _ _ _ rfl 2; have c1_0 : w2_.cell? ⟨g3, 0, none⟩ = some (.slice A n c) := HS.out.cell 1 _ _ _ rfl 0; have f1_0 : w2_.frozen? ⟨g3, 0, none⟩ = false := HS.out.free 1 _ _ _ rfl 0; have c1_1 : w2_.cell? ⟨g3, 1, none⟩ = some (.slice (some ad) now.length c2) := HS.out.cell 1 _ _ _ rfl 1; have f1_1 : w2_.frozen? ⟨g3, 1, none⟩ = false := HS.out.free 1 _ _ _ rfl 1; have c1_2 : w2_.cell? ⟨g3, 2, none⟩ = some (.int .i64 wr) := HS.out.cell 1 _ _ _ rfl 2; have f1_2 : w2_.frozen? ⟨g3, 2, none⟩ = false := HS.out.free 1 _ _ _ rfl 2; have ne0_1 := HS.out.ne_blk 0 1 _ _ _ _ _ _ rfl rfl (by omega)) | ((with_reducible refine gate_dst (N := 19) rfl ?_); refine Sl.lit_st (Kd.int .u32) (flat_int .u32) HS.out 39 (by rfl) (xs := ([] : List Int)) (inner := []) ?hr ?hp ?hm ?_; (case hr => first | (go_simp; done) | (go_simp; rfl)); (case hp => first | exact Reps.none _ _ | skip); (case hm => first | decide | (simp; done)); intro v19_ w3_ HSn; replace HS : Hid (St [SL.row (Kd.int .u32) 39 v19_ [], SL.blk g6 52 #[.slice none 0 0, .slice none 0 0, .int .i64 0], SL.blk g3 52 #[.slice A n c, .slice (some ad) now.length c2, .int .i64 wr]] w w3_) := Go.Lib.hid HSn; clear HSn; clear c0_0 f0_0 c0_1 f0_1 c0_2 f0_2 c1_0 f1_0 c1_1 f1_1 c1_2 f1_2 ne0_1; have c1_0 : w3_.cell? ⟨g6, 0, none⟩ = some (.slice none 0 0) := HS.out.cell 1 _ _ _ rfl 0; have f1_0 : w3_.frozen? ⟨g6, 0, none⟩ = false := HS.out.free 1 _ _ _ rfl 0; have c1_1 : w3_.cell? ⟨g6, 1, none⟩ = some (.slice none 0 0) := HS.out.cell 1 _ _ _ rfl 1; have f1_1 : w3_.frozen? ⟨g6, 1, none⟩ = false := HS.out.free 1 _ _ _ rfl 1; have c1_2 : w3_.cell? ⟨g6, 2, none⟩ = some (.int .i64 0) := HS.out.cell 1 _ _ _ rfl 2; have f1_2 : w3_.frozen? ⟨g6, 2, none⟩ = false := HS.out.free 1 _ _ _ rfl 2; have c2_0 : w3_.cell? ⟨g3, 0, none⟩ = some (.slice A n c) := HS.out.cell 2 _ _ _ rfl 0; have f2_0 : w3_.frozen? ⟨g3, 0, none⟩ = false := HS.out.free 2 _ _ _ rfl 0; have c2_1 : w3_.cell? ⟨g3, 1, none⟩ = some (.slice (some ad) now.length c2) := HS.out.cell 2 _ _ _ rfl 1; have f2_1 : w3_.frozen? ⟨g3, 1, none⟩ = false := HS.out.free 2 _ _ _ rfl 1; have c2_2 : w3_.cell? ⟨g3, 2, none⟩ = some (.int .i64 wr) := HS.out.cell 2 _ _ _ rfl 2; have f2_2 : w3_.frozen? ⟨g3, 2, none⟩ = false := HS.out.free 2 _ _ _ rfl 2; have ne1_2 := HS.out.ne_blk 1 2 _ _ _ _ _ _ rfl rfl (by omega)) | ((with_reducible refine gate_dst (N := 23) rfl ?_); refine Sl.appends_st (Kd.int .u32) (flat_int .u32) HS.out 0 v19_ ([]) (now) 39 rfl (by rfl) (.tmp 20) (.tmp 22) 36 (.int .u32 0) 4 rfl Try.underlying36 (by kernel_rfl) rfl (by decide) (by decide) (some ad) now.length c2 rfl rfl ?hR ?hb ?_; (case hR => exact HS.out.C HC.out); (case hb => simp; omega); intro v23_ w4_ HSn; obtain ⟨b_, cap_, hv_, hcap_, hcc_, hff_, _⟩ := HSn.put 0 rfl (i) (hi0) (hi1); subst hv_; replace HS : Hid (St [SL.row (Kd.int .u32) 39 (.slice (some ⟨b_, 0, none⟩) now.length cap_) now, SL.blk g6 52 #[.slice none 0 0, .slice none 0 0, .int .i64 0], SL.blk g3 52 #[.slice A n c, .slice (some ad) now.length c2, .int .i64 wr]] w w4_) := Go.Lib.hid HSn; clear HSn; clear c1_0 f1_0 c1_1 f1_1 c1_2 f1_2 c2_0 f2_0 c2_1 f2_1 c2_2 f2_2 ne1_2; have c1_0 : w4_.cell? ⟨g6, 0, none⟩ = some (.slice none 0 0) := HS.out.cell 1 _ _ _ rfl 0; have f1_0 : w4_.frozen? ⟨g6, 0, none⟩ = false := HS.out.free 1 _ _ _ rfl 0; have c1_1 : w4_.cell? ⟨g6, 1, none⟩ = some (.slice none 0 0) := HS.out.cell 1 _ _ _ rfl 1; have f1_1 : w4_.frozen? ⟨g6, 1, none⟩ = false := HS.out.free 1 _ _ _ rfl 1; have c1_2 : w4_.cell? ⟨g6, 2, none⟩ = some (.int .i64 0) := HS.out.cell 1 _ _ _ rfl 2; have f1_2 : w4_.frozen? ⟨g6, 2, none⟩ = false := HS.out.free 1 _ _ _ rfl 2; have c2_0 : w4_.cell? ⟨g3, 0, none⟩ = some (.slice A n c) := HS.out.cell 2 _ _ _ rfl 0; have f2_0 : w4_.frozen? ⟨g3, 0, none⟩ = false := HS.out.free 2 _ _ _ rfl 0; have c2_1 : w4_.cell? ⟨g3, 1, none⟩ = some (.slice (some ad) now.length c2) := HS.out.cell 2 _ _ _ rfl 1; have f2_1 : w4_.frozen? ⟨g3, 1, none⟩ = false := HS.out.free 2 _ _ _ rfl 1; have c2_2 : w4_.cell? ⟨g3, 2, none⟩ = some (.int .i64 wr) := HS.out.cell 2 _ _ _ rfl 2; have f2_2 : w4_.frozen? ⟨g3, 2, none⟩ = false := HS.out.free 2 _ _ _ rfl 2; have ne1_2 := HS.out.ne_blk 1 2 _ _ _ _ _ _ rfl rfl (by omega)) | ((with_reducible refine gate_store (p := 27) rfl ?_); refine Sl.put_st HS.out 0 rfl (i) hi0 hi1 (x) (by rfl) (by rfl) ?hr ?_; (case hr => intro b_ cap_ hv_ hc_ hf_; first | subst hv_ | cases hv_; first | (go_simp; done) | (go_simp; rfl)); intro w5_ HSn; replace HS : Hid (St [SL.row (Kd.int .u32) 39 (.slice (some ⟨b_, 0, none⟩) now.length cap_) (now.set i.toNat x), SL.blk g6 52 #[.slice none 0 0, .slice none 0 0, .int .i64 0], SL.blk g3 52 #[.slice A n c, .slice (some ad) now.length c2, .int .i64 wr]] w w5_) := Go.Lib.hid HSn; clear HSn; clear c1_0 f1_0 c1_1 f1_1 c1_2 f1_2 c2_0 f2_0 c2_1 f2_1 c2_2 f2_2 ne1_2; have c1_0 : w5_.cell? ⟨g6, 0, none⟩ = some (.slice none 0 0) := HS.out.cell 1 _ _ _ rfl 0; have f1_0 : w5_.frozen? ⟨g6, 0, none⟩ = false := HS.out.free 1 _ _ _ rfl 0; have c1_1 : w5_.cell? ⟨g6, 1, none⟩ = some (.slice none 0 0) := HS.out.cell 1 _ _ _ rfl 1; have f1_1 : w5_.frozen? ⟨g6, 1, none⟩ = false := HS.out.free 1 _ _ _ rfl 1; have c1_2 : w5_.cell? ⟨g6, 2, none⟩ = some (.int .i64 0) := HS.out.cell 1 _ _ _ rfl 2; have f1_2 : w5_.frozen? ⟨g6, 2, none⟩ = false := HS.out.free 1 _ _ _ rfl 2; have c2_0 : w5_.cell? ⟨g3, 0, none⟩ = some (.slice A n c) := HS.out.cell 2 _ _ _ rfl 0; have f2_0 : w5_.frozen? ⟨g3, 0, none⟩ = false := HS.out.free 2 _ _ _ rfl 0; have c2_1 : w5_.cell? ⟨g3, 1, none⟩ = some (.slice (some ad) now.length c2) := HS.out.cell 2 _ _ _ rfl 1; have f2_1 : w5_.frozen? ⟨g3, 1, none⟩ = false := HS.out.free 2 _ _ _ rfl 1; have c2_2 : w5_.cell? ⟨g3, 2, none⟩ = some (.int .i64 wr) := HS.out.cell 2 _ _ _ rfl 2; have f2_2 : w5_.frozen? ⟨g3, 2, none⟩ = false := HS.out.free 2 _ _ _ rfl 2; have ne1_2 := HS.out.ne_blk 1 2 _ _ _ _ _ _ rfl rfl (by omega)) | ((with_reducible refine gate_store (p := 6) rfl ?_); refine Sl.storeAll_st HS.out 1 g6 52 _ rfl [.slice A n c, (.slice (some ⟨b_, 0, none⟩) now.length cap_), .int .i64 (wr + 1)] rfl (by rfl) (by rfl) ?hr ?_; (case hr => first | (go_simp; done) | (go_simp; rfl)); intro w6_ HSn; replace HS : Hid (St [SL.row (Kd.int .u32) 39 (.slice (some ⟨b_, 0, none⟩) now.length cap_) (now.set i.toNat x), SL.blk g6 52 #[.slice A n c, (.slice (some ⟨b_, 0, none⟩) now.length cap_), .int .i64 (wr + 1)], SL.blk g3 52 #[.slice A n c, .slice (some ad) now.length c2, .int .i64 wr]] w w6_) := Go.Lib.hid HSn; clear HSn; clear c1_0 f1_0 c1_1 f1_1 c1_2 f1_2 c2_0 f2_0 c2_1 f2_1 c2_2 f2_2 ne1_2; have c1_0 : w6_.cell? ⟨g6, 0, none⟩ = some (.slice A n c) := HS.out.cell 1 _ _ _ rfl 0; have f1_0 : w6_.frozen? ⟨g6, 0, none⟩ = false := HS.out.free 1 _ _ _ rfl 0; have c1_1 : w6_.cell? ⟨g6, 1, none⟩ = some ((.slice (some ⟨b_, 0, none⟩) now.length cap_)) := HS.out.cell 1 _ _ _ rfl 1; have f1_1 : w6_.frozen? ⟨g6, 1, none⟩ = false := HS.out.free 1 _ _ _ rfl 1; have c1_2 : w6_.cell? ⟨g6, 2, none⟩ = some (.int .i64 (wr + 1)) := HS.out.cell 1 _ _ _ rfl 2; have f1_2 : w6_.frozen? ⟨g6, 2, none⟩ = false := HS.out.free 1 _ _ _ rfl 2; have c2_0 : w6_.cell? ⟨g3, 0, none⟩ = some (.slice A n c) := HS.out.cell 2 _ _ _ rfl 0; have f2_0 : w6_.frozen? ⟨g3, 0, none⟩ = false := HS.out.free 2 _ _ _ rfl 0; have c2_1 : w6_.cell? ⟨g3, 1, none⟩ = some (.slice (some ad) now.length c2) := HS.out.cell 2 _ _ _ rfl 1; have f2_1 : w6_.frozen? ⟨g3, 1, none⟩ = false := HS.out.free 2 _ _ _ rfl 1; have c2_2 : w6_.cell? ⟨g3, 2, none⟩ = some (.int .i64 wr) := HS.out.cell 2 _ _ _ rfl 2; have f2_2 : w6_.frozen? ⟨g3, 2, none⟩ = false := HS.out.free 2 _ _ _ rfl 2; have ne1_2 := HS.out.ne_blk 1 2 _ _ _ _ _ _ rfl rfl (by omega)))
  exact bodyPost_ret (v := .tuple #[.agg #[.slice A n c, (.slice (some ⟨b_, 0, none⟩) now.length cap_), .int .i64 (wr + 1)], .bool true]) (by simp [results, Try.results33, go_sem, c1_0, c1_1, c1_2]) rfl ⟨_, rfl, (HS.out.erase 1).erase 1⟩

set_option maxHeartbeats 3200000 in
set_option maxRecDepth 100000 in
theorem new_calls (A : Option Addr) (c : Nat) (hC : k43.C w A fst.length fst) (hn : fst.length ≤ 1000) :
    Calls Try.prog 32 #[.slice A fst.length c] w fun e w' => ∃ v, e = .returned (.agg #[.slice A fst.length c, v, .int .i64 0]) ∧ St [SL.row (Kd.int .u32) 39 v (fst.map (·.f0))] w w' := by
  have HC := Go.Lib.hid hC
  have HS := Go.Lib.hid (St.start w)
  clear hC
  go_enter Try.func32, Try.ntmps32
  go_wp2_with (first | ((with_reducible refine gate_dst (N := 2) rfl ?_); refine Sl.box_st HS.out (by rfl) (cs := #[.slice none 0 0, .slice none 0 0, .int .i64 0]) (t := 52) ?hr ?_; (case hr => first | (go_simp; done) | (go_simp; rfl)); intro g2 w1_ HSn HBn; clear HBn; replace HS : Hid (St [SL.blk g2 52 #[.slice none 0 0, .slice none 0 0, .int .i64 0]] w w1_) := Go.Lib.hid HSn; clear HSn; have c0_0 : w1_.cell? ⟨g2, 0, none⟩ = some (.slice none 0 0) := HS.out.cell 0 _ _ _ rfl 0; have f0_0 : w1_.frozen? ⟨g2, 0, none⟩ = false := HS.out.free 0 _ _ _ rfl 0; have c0_1 : w1_.cell? ⟨g2, 1, none⟩ = some (.slice none 0 0) := HS.out.cell 0 _ _ _ rfl 1; have f0_1 : w1_.frozen? ⟨g2, 1, none⟩ = false := HS.out.free 0 _ _ _ rfl 1; have c0_2 : w1_.cell? ⟨g2, 2, none⟩ = some (.int .i64 0) := HS.out.cell 0 _ _ _ rfl 2; have f0_2 : w1_.frozen? ⟨g2, 2, none⟩ = false := HS.out.free 0 _ _ _ rfl 2) | ((with_reducible refine gate_dst (N := 3) rfl ?_); refine Sl.box_st HS.out (by rfl) (cs := #[.slice none 0 0, .slice none 0 0, .int .i64 0]) (t := 52) ?hr ?_; (case hr => first | (go_simp; done) | (go_simp; rfl)); intro g3 w2_ HSn HBn; clear HBn; replace HS : Hid (St [SL.blk g3 52 #[.slice none 0 0, .slice none 0 0, .int .i64 0], SL.blk g2 52 #[.slice none 0 0, .slice none 0 0, .int .i64 0]] w w2_) := Go.Lib.hid HSn; clear HSn; clear c0_0 f0_0 c0_1 f0_1 c0_2 f0_2; have c0_0 : w2_.cell? ⟨g3, 0, none⟩ = some (.slice none 0 0) := HS.out.cell 0 _ _ _ rfl 0; have f0_0 : w2_.frozen? ⟨g3, 0, none⟩ = false := HS.out.free 0 _ _ _ rfl 0; have c0_1 : w2_.cell? ⟨g3, 1, none⟩ = some (.slice none 0 0) := HS.out.cell 0 _ _ _ rfl 1; have f0_1 : w2_.frozen? ⟨g3, 1, none⟩ = false := HS.out.free 0 _ _ _ rfl 1; have c0_2 : w2_.cell? ⟨g3, 2, none⟩ = some (.int .i64 0) := HS.out.cell 0 _ _ _ rfl 2; have f0_2 : w2_.frozen? ⟨g3, 2, none⟩ = false := HS.out.free 0 _ _ _ rfl 2; have c1_0 : w2_.cell? ⟨g2, 0, none⟩ = some (.slice none 0 0) := HS.out.cell 1 _ _ _ rfl 0; have f1_0 : w2_.frozen? ⟨g2, 0, none⟩ = false := HS.out.free 1 _ _ _ rfl 0; have c1_1 : w2_.cell? ⟨g2, 1, none⟩ = some (.slice none 0 0) := HS.out.cell 1 _ _ _ rfl 1; have f1_1 : w2_.frozen? ⟨g2, 1, none⟩ = false := HS.out.free 1 _ _ _ rfl 1; have c1_2 : w2_.cell? ⟨g2, 2, none⟩ = some (.int .i64 0) := HS.out.cell 1 _ _ _ rfl 2; have f1_2 : w2_.frozen? ⟨g2, 2, none⟩ = false := HS.out.free 1 _ _ _ rfl 2; have ne0_1 := HS.out.ne_blk 0 1 _ _ _ _ _ _ rfl rfl (by omega)) | ((with_reducible refine gate_store (p := 3) rfl ?_); refine Sl.storeAll_st HS.out 0 g3 52 _ rfl [.slice A fst.length c, .slice none 0 0, .int .i64 0] rfl (by rfl) (by rfl) ?hr ?_; (case hr => first | (go_simp; done) | (go_simp; rfl)); intro w3_ HSn; replace HS : Hid (St [SL.blk g3 52 #[.slice A fst.length c, .slice none 0 0, .int .i64 0], SL.blk g2 52 #[.slice none 0 0, .slice none 0 0, .int .i64 0]] w w3_) := Go.Lib.hid HSn; clear HSn; clear c0_0 f0_0 c0_1 f0_1 c0_2 f0_2 c1_0 f1_0 c1_1 f1_1 c1_2 f1_2 ne0_1; have c0_0 : w3_.cell? ⟨g3, 0, none⟩ = some (.slice A fst.length c) := HS.out.cell 0 _ _ _ rfl 0; have f0_0 : w3_.frozen? ⟨g3, 0, none⟩ = false := HS.out.free 0 _ _ _ rfl 0; have c0_1 : w3_.cell? ⟨g3, 1, none⟩ = some (.slice none 0 0) := HS.out.cell 0 _ _ _ rfl 1; have f0_1 : w3_.frozen? ⟨g3, 1, none⟩ = false := HS.out.free 0 _ _ _ rfl 1; have c0_2 : w3_.cell? ⟨g3, 2, none⟩ = some (.int .i64 0) := HS.out.cell 0 _ _ _ rfl 2; have f0_2 : w3_.frozen? ⟨g3, 2, none⟩ = false := HS.out.free 0 _ _ _ rfl 2; have c1_0 : w3_.cell? ⟨g2, 0, none⟩ = some (.slice none 0 0) := HS.out.cell 1 _ _ _ rfl 0; have f1_0 : w3_.frozen? ⟨g2, 0, none⟩ = false := HS.out.free 1 _ _ _ rfl 0; have c1_1 : w3_.cell? ⟨g2, 1, none⟩ = some (.slice none 0 0) := HS.out.cell 1 _ _ _ rfl 1; have f1_1 : w3_.frozen? ⟨g2, 1, none⟩ = false := HS.out.free 1 _ _ _ rfl 1; have c1_2 : w3_.cell? ⟨g2, 2, none⟩ = some (.int .i64 0) := HS.out.cell 1 _ _ _ rfl 2; have f1_2 : w3_.frozen? ⟨g2, 2, none⟩ = false := HS.out.free 1 _ _ _ rfl 2; have ne0_1 := HS.out.ne_blk 0 1 _ _ _ _ _ _ rfl rfl (by omega)))
  go_loopw [4] (fun i wr => ∃ (k : Nat) (v : Value) (ys : List Int), k ≤ fst.length ∧ i = .int .i64 k ∧ ys = (fst.take k).map (·.f0) ∧ St [SL.row (Kd.int .u32) 39 v (ys), SL.blk g3 52 #[.slice A fst.length c, v, .int .i64 0], SL.blk g2 52 #[.slice none 0 0, .slice none 0 0, .int .i64 0]] w wr) (fun i _ => fst.length - (intOf i).toNat)
  case atStart => exact ⟨0, _, [], Nat.zero_le _, rfl, rfl, HS.out.nilrow (Kd.int .u32) 39⟩
  case round =>
    clear HS c0_0 f0_0 c0_1 f0_1 c0_2 f0_2 c1_0 f1_0 c1_1 f1_1 c1_2 f1_2 ne0_1
    obtain ⟨k, v, ys, hk, rfl, hy, hS⟩ := hrel
    have hyl : ys.length = k := by rw [hy]; simp; omega
    obtain ⟨A1, c1, hv1, _⟩ := hS.rowC 0 rfl
    subst hv1
    have HY := Go.Lib.hid hy
    clear hy
    by_cases hlt : k < fst.length
    · obtain ⟨ad, rfl, g0, _⟩ := at_T43 HC.out (k : Int) (by omega) (by omega)
      rw [Int.toNat_natCast] at g0
      have hx := rd43_get fst k hlt
      generalize rd_T43 fst (k : Int) = x at *
      have HX := Go.Lib.hid hx
      have HYL := Go.Lib.hid hyl
      have hb : (ys.length + 1) * 4 ≤ 140737488355328 := by omega
      clear hx hyl
      have HS := Go.Lib.hid hS.drew
      clear hS
      go_wp2_with fail
      refine start_ (n := 11) (S := fun w' => w'.cell? ⟨g3, 1, none⟩ = some (.slice A1 ys.length c1) ∧ w'.cell? (ad.add (k * 2)) = some (.int .u32 x.f0)) (ds := [10]) #[false, false, false, false, false, false, false, false, false, false, false] (by kernel_rfl) rfl rfl ⟨HS.out.cell 1 _ _ _ rfl 1, HS.out.old g0⟩ (fun hHeld => ?_)
      generalize wr.drew = W_ at *
      refine pure_ (i := 0) (N := some 13) (v := ?_) (a' := ?_) #[true, false, false, false, false, false, false, false, false, false, false] rfl rfl (by kernel_rfl) (fun _ _ _ h => h) (Or.inl ⟨by rfl, ?_⟩) ?_ ?_
      rotate_left
      · intro w'
        go_simp
        with_reducible rfl
      rotate_left
      · simp only [Act.put, List.setIfInBounds_toArray, List.set_cons_zero, List.set_cons_succ, i64_w, i32_w]
        rfl
      refine pure_ (i := 2) (N := some 15) (v := ?_) (a' := ?_) #[true, false, true, false, false, false, false, false, false, false, false] rfl rfl (by kernel_rfl) (fun _ _ _ h => h) (Or.inl ⟨by rfl, ?_⟩) ?_ ?_
      rotate_left
      · intro w'
        go_simp
        with_reducible rfl
      rotate_left
      · simp only [Act.put, List.setIfInBounds_toArray, List.set_cons_zero, List.set_cons_succ, i64_w, i32_w]
        rfl
      refine pure_ (i := 3) (N := some 16) (v := ?_) (a' := ?_) #[true, false, true, true, false, false, false, false, false, false, false] rfl rfl (by kernel_rfl) (fun _ _ _ h => h) (Or.inl ⟨by rfl, ?_⟩) ?_ ?_
      rotate_left
      · intro w'
        go_simp
        with_reducible rfl
      rotate_left
      · simp only [Act.put, List.setIfInBounds_toArray, List.set_cons_zero, List.set_cons_succ, i64_w, i32_w]
        rfl
      refine pure_ (i := 4) (N := some 17) (v := ?_) (a' := ?_) #[true, false, true, true, true, false, false, false, false, false, false] rfl rfl (by kernel_rfl) (fun _ _ _ h => h) (Or.inl ⟨by rfl, ?_⟩) ?_ ?_
      rotate_left
      · intro w'
        go_simp
        with_reducible rfl
      rotate_left
      · simp only [Act.put, List.setIfInBounds_toArray, List.set_cons_zero, List.set_cons_succ, i64_w, i32_w]
        rfl
      refine pure_ (i := 5) (N := some 18) (v := ?_) (a' := ?_) #[true, false, true, true, true, true, false, false, false, false, false] rfl rfl (by kernel_rfl) (fun _ _ _ h => h) (Or.inl ⟨by rfl, ?_⟩) ?_ ?_
      rotate_left
      · intro w'
        go_simp
        with_reducible rfl
      rotate_left
      · simp only [Act.put, List.setIfInBounds_toArray, List.set_cons_zero, List.set_cons_succ, i64_w, i32_w]
        rfl
      refine take_ (i := 1) (N := some 14) (v := ?_) (a' := ?_) #[true, true, true, true, true, true, false, false, false, false, false] rfl rfl (by kernel_rfl) (fun _ _ _ h => h) (Or.inl ⟨by rfl, ?_⟩) hHeld ?_ ?_
      rotate_left
      · rintro w' ⟨s0, s1⟩
        go_simp
        with_reducible rfl
      rotate_left
      · simp only [Act.put, List.setIfInBounds_toArray, List.set_cons_zero, List.set_cons_succ, i64_w, i32_w]
        rfl
      refine take_ (i := 6) (N := some 19) (v := ?_) (a' := ?_) #[true, true, true, true, true, true, true, false, false, false, false] rfl rfl (by kernel_rfl) (fun _ _ _ h => h) (Or.inl ⟨by rfl, ?_⟩) hHeld ?_ ?_
      rotate_left
      · rintro w' ⟨s0, s1⟩
        go_simp
        with_reducible rfl
      rotate_left
      · simp only [Act.put, List.setIfInBounds_toArray, List.set_cons_zero, List.set_cons_succ, i64_w, i32_w]
        rfl
      refine one_ (i := 7) (N := some 20) #[true, true, true, true, true, true, true, true, false, false, false] rfl rfl (by kernel_rfl) (by decide) (fun K hK => ?_)
      refine event_step (by rfl) (w1 := W_.alloc (.cells #[.int .u32 x.f0] 39)) (v := .slice (some ⟨W_.heap.size, 0, none⟩) 1 1) (by first | (go_simp; done) | (go_simp; rfl)) ?_
      refine hK.out _ _ ⟨(HS.out.alloc _).cell 1 _ _ _ rfl 1, (HS.out.alloc _).old g0⟩ (fun hHeld => ?_)
      clear hK K
      refine norm_ (a' := ?_) ?_ ?_
      rotate_left
      · show Act.put _ (some 20) _ = _
        simp only [Act.put, List.setIfInBounds_toArray, List.set_cons_zero, List.set_cons_succ, i64_w, i32_w]
        rfl
      refine one_ (i := 8) (N := some 21) #[true, true, true, true, true, true, true, true, true, false, false] rfl rfl (by kernel_rfl) (by decide) (fun K hK => ?_)
      refine Sl.append_stp (Kd.int .u32) (flat_int .u32) HS.out 0 (.slice A1 ys.length c1) ys 39 rfl (by rfl) (.tmp 14) (.tmp 20) 36 (.int .u32 0) 4 rfl Try.underlying36 (by kernel_rfl) rfl (by decide) (by decide) x.f0 [.int .u32 x.f0] rfl rfl rfl (by omega) ?_
      intro v11_ w11_ HSn
      obtain ⟨A2, c2, hv2, _⟩ := HSn.rowC 0 rfl
      subst hv2
      refine hK.out _ _ ⟨HSn.cell 1 _ _ _ rfl 1, HSn.old g0⟩ (fun hHeld => ?_)
      clear hK K
      refine norm_ (a' := ?_) ?_ ?_
      rotate_left
      · show Act.put _ (some 21) _ = _
        simp only [Act.put, List.setIfInBounds_toArray, List.set_cons_zero, List.set_cons_succ, i64_w, i32_w]
        rfl
      refine pure_ (i := 9) (N := some 22) (v := ?_) (a' := ?_) #[true, true, true, true, true, true, true, true, true, true, false] rfl rfl (by kernel_rfl) (fun _ _ _ h => h) (Or.inl ⟨by rfl, ?_⟩) ?_ ?_
      rotate_left
      · intro w'
        go_simp
        with_reducible rfl
      rotate_left
      · simp only [Act.put, List.setIfInBounds_toArray, List.set_cons_zero, List.set_cons_succ, i64_w, i32_w]
        rfl
      refine last_ (i := 10) (N := none) #[true, true, true, true, true, true, true, true, true, true, true] rfl rfl (by kernel_rfl) (by decide) (fun K hK => ?_)
      have c0_1 := HSn.cell 1 _ _ _ rfl 1
      have f0_1 := HSn.free 1 _ _ _ rfl 1
      refine Sl.store_stp HSn 1 g3 52 _ rfl 1 (.slice A2 (ys ++ [x.f0]).length c2) (by rfl) rfl (by first | (go_simp; done) | (go_simp; rfl)) ?_
      intro w12_ HSm
      clear c0_1 f0_1
      refine hK.out _ _ ?_
      clear hK K
      refine done_ (by kernel_rfl) ?_
      go_wp2_with fail
      go_roundw
      case rel => exact ⟨k + 1, _, _, by omega, by go_num, by rw [List.take_succ_eq_append_getElem hlt, List.map_append, ← HY.out, HX.out]; rfl, HSm⟩
      case measure => simp [intOf]; omega
    · obtain rfl : k = fst.length := by omega
      have HYL := Go.Lib.hid hyl
      have HS := Go.Lib.hid hS
      clear hS hyl
      have c1_0 : wr.cell? ⟨g3, 0, none⟩ = some (.slice A fst.length c) := HS.out.cell 1 _ _ _ rfl 0
      have f1_0 : wr.frozen? ⟨g3, 0, none⟩ = false := HS.out.free 1 _ _ _ rfl 0
      have c1_1 : wr.cell? ⟨g3, 1, none⟩ = some (.slice A1 ys.length c1) := HS.out.cell 1 _ _ _ rfl 1
      have f1_1 : wr.frozen? ⟨g3, 1, none⟩ = false := HS.out.free 1 _ _ _ rfl 1
      have c1_2 : wr.cell? ⟨g3, 2, none⟩ = some (.int .i64 0) := HS.out.cell 1 _ _ _ rfl 2
      have f1_2 : wr.frozen? ⟨g3, 2, none⟩ = false := HS.out.free 1 _ _ _ rfl 2
      have c2_0 : wr.cell? ⟨g2, 0, none⟩ = some (.slice none 0 0) := HS.out.cell 2 _ _ _ rfl 0
      have f2_0 : wr.frozen? ⟨g2, 0, none⟩ = false := HS.out.free 2 _ _ _ rfl 0
      have c2_1 : wr.cell? ⟨g2, 1, none⟩ = some (.slice none 0 0) := HS.out.cell 2 _ _ _ rfl 1
      have f2_1 : wr.frozen? ⟨g2, 1, none⟩ = false := HS.out.free 2 _ _ _ rfl 1
      have c2_2 : wr.cell? ⟨g2, 2, none⟩ = some (.int .i64 0) := HS.out.cell 2 _ _ _ rfl 2
      have f2_2 : wr.frozen? ⟨g2, 2, none⟩ = false := HS.out.free 2 _ _ _ rfl 2
      have ne1_2 := HS.out.ne_blk 1 2 _ _ _ _ _ _ rfl rfl (by omega)
      go_wp2_with (first | ((with_reducible refine gate_store (p := 2) rfl ?_); refine Sl.storeAll_st HS.out 2 g2 52 _ rfl [.slice A fst.length c, .slice A1 ys.length c1, .int .i64 0] rfl (by rfl) (by rfl) ?hr ?_; (case hr => first | (go_simp; done) | (go_simp; rfl)); intro w21_ HSn; replace HS : Hid (St [SL.row (Kd.int .u32) 39 (.slice A1 ys.length c1) (ys), SL.blk g3 52 #[.slice A fst.length c, .slice A1 ys.length c1, .int .i64 0], SL.blk g2 52 #[.slice A fst.length c, .slice A1 ys.length c1, .int .i64 0]] w w21_) := Go.Lib.hid HSn; clear HSn; clear c1_0 f1_0 c1_1 f1_1 c1_2 f1_2 c2_0 f2_0 c2_1 f2_1 c2_2 f2_2 ne1_2; have c1_0 : w21_.cell? ⟨g3, 0, none⟩ = some (.slice A fst.length c) := HS.out.cell 1 _ _ _ rfl 0; have f1_0 : w21_.frozen? ⟨g3, 0, none⟩ = false := HS.out.free 1 _ _ _ rfl 0; have c1_1 : w21_.cell? ⟨g3, 1, none⟩ = some (.slice A1 ys.length c1) := HS.out.cell 1 _ _ _ rfl 1; have f1_1 : w21_.frozen? ⟨g3, 1, none⟩ = false := HS.out.free 1 _ _ _ rfl 1; have c1_2 : w21_.cell? ⟨g3, 2, none⟩ = some (.int .i64 0) := HS.out.cell 1 _ _ _ rfl 2; have f1_2 : w21_.frozen? ⟨g3, 2, none⟩ = false := HS.out.free 1 _ _ _ rfl 2; have c2_0 : w21_.cell? ⟨g2, 0, none⟩ = some (.slice A fst.length c) := HS.out.cell 2 _ _ _ rfl 0; have f2_0 : w21_.frozen? ⟨g2, 0, none⟩ = false := HS.out.free 2 _ _ _ rfl 0; have c2_1 : w21_.cell? ⟨g2, 1, none⟩ = some (.slice A1 ys.length c1) := HS.out.cell 2 _ _ _ rfl 1; have f2_1 : w21_.frozen? ⟨g2, 1, none⟩ = false := HS.out.free 2 _ _ _ rfl 1; have c2_2 : w21_.cell? ⟨g2, 2, none⟩ = some (.int .i64 0) := HS.out.cell 2 _ _ _ rfl 2; have f2_2 : w21_.frozen? ⟨g2, 2, none⟩ = false := HS.out.free 2 _ _ _ rfl 2; have ne1_2 := HS.out.ne_blk 1 2 _ _ _ _ _ _ rfl rfl (by omega)))
      exact bodyPost_ret (v := .agg #[.slice A fst.length c, .slice A1 ys.length c1, .int .i64 0]) (by simp [results, Try.results32, go_sem, c2_0, c2_1, c2_2]) rfl ⟨_, rfl, by have h1 := (HS.out.erase 2).erase 1; rw [HY.out, List.take_length] at h1; rw [HY.out, List.take_length]; exact h1⟩

set_option maxHeartbeats 3200000 in
set_option maxRecDepth 100000 in
theorem start_true (A : Option Addr) (c : Nat) (A2 : Option Addr) (c2 : Nat) (hC : k43.C w A fst.length fst) (hD : (Kd.int .u32).C w A2 now.length now) (hl : now.length = fst.length) (hn : fst.length ≤ 1000) (m : Int) :
    Calls Try.prog 34 #[.agg #[.slice A fst.length c, .slice A2 now.length c2, .int .i64 m], .bool true] w fun e w' => ∃ v, e = .returned (.agg #[.slice A fst.length c, v, .int .i64 0]) ∧ St [SL.row (Kd.int .u32) 39 v (back true fst now fst.length)] w w' := by
  have HC := Go.Lib.hid hC
  have HD := Go.Lib.hid hD
  have HL := Go.Lib.hid hl
  have HS := Go.Lib.hid (St.start w)
  have HBL := Go.Lib.hid (back_len true fst now fst.length)
  have HBG := Go.Lib.hid (back_rd fst now hl true)
  generalize back true fst now fst.length = bs at *
  clear hC hD hl
  go_enter Try.func34, Try.ntmps34
  go_wp2_with (first | ((with_reducible refine gate_dst (N := 2) rfl ?_); refine Sl.box_st HS.out (by rfl) (cs := #[.slice A fst.length c, .slice A2 now.length c2, .int .i64 m]) (t := 52) ?hr ?_; (case hr => first | (go_simp; done) | (go_simp; rfl)); intro g2 w1_ HSn HBn; clear HBn; replace HS : Hid (St [SL.blk g2 52 #[.slice A fst.length c, .slice A2 now.length c2, .int .i64 m]] w w1_) := Go.Lib.hid HSn; clear HSn; have c0_0 : w1_.cell? ⟨g2, 0, none⟩ = some (.slice A fst.length c) := HS.out.cell 0 _ _ _ rfl 0; have f0_0 : w1_.frozen? ⟨g2, 0, none⟩ = false := HS.out.free 0 _ _ _ rfl 0; have c0_1 : w1_.cell? ⟨g2, 1, none⟩ = some (.slice A2 now.length c2) := HS.out.cell 0 _ _ _ rfl 1; have f0_1 : w1_.frozen? ⟨g2, 1, none⟩ = false := HS.out.free 0 _ _ _ rfl 1; have c0_2 : w1_.cell? ⟨g2, 2, none⟩ = some (.int .i64 m) := HS.out.cell 0 _ _ _ rfl 2; have f0_2 : w1_.frozen? ⟨g2, 2, none⟩ = false := HS.out.free 0 _ _ _ rfl 2) | ((with_reducible refine gate_dst (N := 4) rfl ?_); refine Sl.box_st HS.out (by rfl) (cs := #[.slice none 0 0, .slice none 0 0, .int .i64 0]) (t := 52) ?hr ?_; (case hr => first | (go_simp; done) | (go_simp; rfl)); intro g4 w2_ HSn HBn; clear HBn; replace HS : Hid (St [SL.blk g4 52 #[.slice none 0 0, .slice none 0 0, .int .i64 0], SL.blk g2 52 #[.slice A fst.length c, .slice A2 now.length c2, .int .i64 m]] w w2_) := Go.Lib.hid HSn; clear HSn; clear c0_0 f0_0 c0_1 f0_1 c0_2 f0_2; have c0_0 : w2_.cell? ⟨g4, 0, none⟩ = some (.slice none 0 0) := HS.out.cell 0 _ _ _ rfl 0; have f0_0 : w2_.frozen? ⟨g4, 0, none⟩ = false := HS.out.free 0 _ _ _ rfl 0; have c0_1 : w2_.cell? ⟨g4, 1, none⟩ = some (.slice none 0 0) := HS.out.cell 0 _ _ _ rfl 1; have f0_1 : w2_.frozen? ⟨g4, 1, none⟩ = false := HS.out.free 0 _ _ _ rfl 1; have c0_2 : w2_.cell? ⟨g4, 2, none⟩ = some (.int .i64 0) := HS.out.cell 0 _ _ _ rfl 2; have f0_2 : w2_.frozen? ⟨g4, 2, none⟩ = false := HS.out.free 0 _ _ _ rfl 2; have c1_0 : w2_.cell? ⟨g2, 0, none⟩ = some (.slice A fst.length c) := HS.out.cell 1 _ _ _ rfl 0; have f1_0 : w2_.frozen? ⟨g2, 0, none⟩ = false := HS.out.free 1 _ _ _ rfl 0; have c1_1 : w2_.cell? ⟨g2, 1, none⟩ = some (.slice A2 now.length c2) := HS.out.cell 1 _ _ _ rfl 1; have f1_1 : w2_.frozen? ⟨g2, 1, none⟩ = false := HS.out.free 1 _ _ _ rfl 1; have c1_2 : w2_.cell? ⟨g2, 2, none⟩ = some (.int .i64 m) := HS.out.cell 1 _ _ _ rfl 2; have f1_2 : w2_.frozen? ⟨g2, 2, none⟩ = false := HS.out.free 1 _ _ _ rfl 2; have ne0_1 := HS.out.ne_blk 0 1 _ _ _ _ _ _ rfl rfl (by omega)) | ((with_reducible refine gate_dst (N := 5) rfl ?_); refine Sl.box_st HS.out (by rfl) (cs := #[.slice none 0 0, .slice none 0 0, .int .i64 0]) (t := 52) ?hr ?_; (case hr => first | (go_simp; done) | (go_simp; rfl)); intro g5 w3_ HSn HBn; clear HBn; replace HS : Hid (St [SL.blk g5 52 #[.slice none 0 0, .slice none 0 0, .int .i64 0], SL.blk g4 52 #[.slice none 0 0, .slice none 0 0, .int .i64 0], SL.blk g2 52 #[.slice A fst.length c, .slice A2 now.length c2, .int .i64 m]] w w3_) := Go.Lib.hid HSn; clear HSn; clear c0_0 f0_0 c0_1 f0_1 c0_2 f0_2 c1_0 f1_0 c1_1 f1_1 c1_2 f1_2 ne0_1; have c0_0 : w3_.cell? ⟨g5, 0, none⟩ = some (.slice none 0 0) := HS.out.cell 0 _ _ _ rfl 0; have f0_0 : w3_.frozen? ⟨g5, 0, none⟩ = false := HS.out.free 0 _ _ _ rfl 0; have c0_1 : w3_.cell? ⟨g5, 1, none⟩ = some (.slice none 0 0) := HS.out.cell 0 _ _ _ rfl 1; have f0_1 : w3_.frozen? ⟨g5, 1, none⟩ = false := HS.out.free 0 _ _ _ rfl 1; have c0_2 : w3_.cell? ⟨g5, 2, none⟩ = some (.int .i64 0) := HS.out.cell 0 _ _ _ rfl 2; have f0_2 : w3_.frozen? ⟨g5, 2, none⟩ = false := HS.out.free 0 _ _ _ rfl 2; have c1_0 : w3_.cell? ⟨g4, 0, none⟩ = some (.slice none 0 0) := HS.out.cell 1 _ _ _ rfl 0; have f1_0 : w3_.frozen? ⟨g4, 0, none⟩ = false := HS.out.free 1 _ _ _ rfl 0; have c1_1 : w3_.cell? ⟨g4, 1, none⟩ = some (.slice none 0 0) := HS.out.cell 1 _ _ _ rfl 1; have f1_1 : w3_.frozen? ⟨g4, 1, none⟩ = false := HS.out.free 1 _ _ _ rfl 1; have c1_2 : w3_.cell? ⟨g4, 2, none⟩ = some (.int .i64 0) := HS.out.cell 1 _ _ _ rfl 2; have f1_2 : w3_.frozen? ⟨g4, 2, none⟩ = false := HS.out.free 1 _ _ _ rfl 2; have c2_0 : w3_.cell? ⟨g2, 0, none⟩ = some (.slice A fst.length c) := HS.out.cell 2 _ _ _ rfl 0; have f2_0 : w3_.frozen? ⟨g2, 0, none⟩ = false := HS.out.free 2 _ _ _ rfl 0; have c2_1 : w3_.cell? ⟨g2, 1, none⟩ = some (.slice A2 now.length c2) := HS.out.cell 2 _ _ _ rfl 1; have f2_1 : w3_.frozen? ⟨g2, 1, none⟩ = false := HS.out.free 2 _ _ _ rfl 1; have c2_2 : w3_.cell? ⟨g2, 2, none⟩ = some (.int .i64 m) := HS.out.cell 2 _ _ _ rfl 2; have f2_2 : w3_.frozen? ⟨g2, 2, none⟩ = false := HS.out.free 2 _ _ _ rfl 2; have ne0_1 := HS.out.ne_blk 0 1 _ _ _ _ _ _ rfl rfl (by omega); have ne0_2 := HS.out.ne_blk 0 2 _ _ _ _ _ _ rfl rfl (by omega); have ne1_2 := HS.out.ne_blk 1 2 _ _ _ _ _ _ rfl rfl (by omega)) | ((with_reducible refine gate_store (p := 5) rfl ?_); refine Sl.storeAll_st HS.out 0 g5 52 _ rfl [.slice A fst.length c, .slice none 0 0, .int .i64 m] rfl (by rfl) (by rfl) ?hr ?_; (case hr => first | (go_simp; done) | (go_simp; rfl)); intro w4_ HSn; replace HS : Hid (St [SL.blk g5 52 #[.slice A fst.length c, .slice none 0 0, .int .i64 m], SL.blk g4 52 #[.slice none 0 0, .slice none 0 0, .int .i64 0], SL.blk g2 52 #[.slice A fst.length c, .slice A2 now.length c2, .int .i64 m]] w w4_) := Go.Lib.hid HSn; clear HSn; clear c0_0 f0_0 c0_1 f0_1 c0_2 f0_2 c1_0 f1_0 c1_1 f1_1 c1_2 f1_2 c2_0 f2_0 c2_1 f2_1 c2_2 f2_2 ne0_1 ne0_2 ne1_2; have c0_0 : w4_.cell? ⟨g5, 0, none⟩ = some (.slice A fst.length c) := HS.out.cell 0 _ _ _ rfl 0; have f0_0 : w4_.frozen? ⟨g5, 0, none⟩ = false := HS.out.free 0 _ _ _ rfl 0; have c0_1 : w4_.cell? ⟨g5, 1, none⟩ = some (.slice none 0 0) := HS.out.cell 0 _ _ _ rfl 1; have f0_1 : w4_.frozen? ⟨g5, 1, none⟩ = false := HS.out.free 0 _ _ _ rfl 1; have c0_2 : w4_.cell? ⟨g5, 2, none⟩ = some (.int .i64 m) := HS.out.cell 0 _ _ _ rfl 2; have f0_2 : w4_.frozen? ⟨g5, 2, none⟩ = false := HS.out.free 0 _ _ _ rfl 2; have c1_0 : w4_.cell? ⟨g4, 0, none⟩ = some (.slice none 0 0) := HS.out.cell 1 _ _ _ rfl 0; have f1_0 : w4_.frozen? ⟨g4, 0, none⟩ = false := HS.out.free 1 _ _ _ rfl 0; have c1_1 : w4_.cell? ⟨g4, 1, none⟩ = some (.slice none 0 0) := HS.out.cell 1 _ _ _ rfl 1; have f1_1 : w4_.frozen? ⟨g4, 1, none⟩ = false := HS.out.free 1 _ _ _ rfl 1; have c1_2 : w4_.cell? ⟨g4, 2, none⟩ = some (.int .i64 0) := HS.out.cell 1 _ _ _ rfl 2; have f1_2 : w4_.frozen? ⟨g4, 2, none⟩ = false := HS.out.free 1 _ _ _ rfl 2; have c2_0 : w4_.cell? ⟨g2, 0, none⟩ = some (.slice A fst.length c) := HS.out.cell 2 _ _ _ rfl 0; have f2_0 : w4_.frozen? ⟨g2, 0, none⟩ = false := HS.out.free 2 _ _ _ rfl 0; have c2_1 : w4_.cell? ⟨g2, 1, none⟩ = some (.slice A2 now.length c2) := HS.out.cell 2 _ _ _ rfl 1; have f2_1 : w4_.frozen? ⟨g2, 1, none⟩ = false := HS.out.free 2 _ _ _ rfl 1; have c2_2 : w4_.cell? ⟨g2, 2, none⟩ = some (.int .i64 m) := HS.out.cell 2 _ _ _ rfl 2; have f2_2 : w4_.frozen? ⟨g2, 2, none⟩ = false := HS.out.free 2 _ _ _ rfl 2; have ne0_1 := HS.out.ne_blk 0 1 _ _ _ _ _ _ rfl rfl (by omega); have ne0_2 := HS.out.ne_blk 0 2 _ _ _ _ _ _ rfl rfl (by omega); have ne1_2 := HS.out.ne_blk 1 2 _ _ _ _ _ _ rfl rfl (by omega)) | ((with_reducible refine gate_store (p := 14) rfl ?_); refine Sl.store_st HS.out 0 g5 52 _ rfl 2 (.int .i64 0) (by rfl) (by rfl) ?hr ?_; (case hr => first | (go_simp; done) | (go_simp; rfl)); intro w5_ HSn; replace HS : Hid (St [SL.blk g5 52 #[.slice A fst.length c, .slice none 0 0, .int .i64 0], SL.blk g4 52 #[.slice none 0 0, .slice none 0 0, .int .i64 0], SL.blk g2 52 #[.slice A fst.length c, .slice A2 now.length c2, .int .i64 m]] w w5_) := Go.Lib.hid HSn; clear HSn; clear c0_0 f0_0 c0_1 f0_1 c0_2 f0_2 c1_0 f1_0 c1_1 f1_1 c1_2 f1_2 c2_0 f2_0 c2_1 f2_1 c2_2 f2_2 ne0_1 ne0_2 ne1_2; have c0_0 : w5_.cell? ⟨g5, 0, none⟩ = some (.slice A fst.length c) := HS.out.cell 0 _ _ _ rfl 0; have f0_0 : w5_.frozen? ⟨g5, 0, none⟩ = false := HS.out.free 0 _ _ _ rfl 0; have c0_1 : w5_.cell? ⟨g5, 1, none⟩ = some (.slice none 0 0) := HS.out.cell 0 _ _ _ rfl 1; have f0_1 : w5_.frozen? ⟨g5, 1, none⟩ = false := HS.out.free 0 _ _ _ rfl 1; have c0_2 : w5_.cell? ⟨g5, 2, none⟩ = some (.int .i64 0) := HS.out.cell 0 _ _ _ rfl 2; have f0_2 : w5_.frozen? ⟨g5, 2, none⟩ = false := HS.out.free 0 _ _ _ rfl 2; have c1_0 : w5_.cell? ⟨g4, 0, none⟩ = some (.slice none 0 0) := HS.out.cell 1 _ _ _ rfl 0; have f1_0 : w5_.frozen? ⟨g4, 0, none⟩ = false := HS.out.free 1 _ _ _ rfl 0; have c1_1 : w5_.cell? ⟨g4, 1, none⟩ = some (.slice none 0 0) := HS.out.cell 1 _ _ _ rfl 1; have f1_1 : w5_.frozen? ⟨g4, 1, none⟩ = false := HS.out.free 1 _ _ _ rfl 1; have c1_2 : w5_.cell? ⟨g4, 2, none⟩ = some (.int .i64 0) := HS.out.cell 1 _ _ _ rfl 2; have f1_2 : w5_.frozen? ⟨g4, 2, none⟩ = false := HS.out.free 1 _ _ _ rfl 2; have c2_0 : w5_.cell? ⟨g2, 0, none⟩ = some (.slice A fst.length c) := HS.out.cell 2 _ _ _ rfl 0; have f2_0 : w5_.frozen? ⟨g2, 0, none⟩ = false := HS.out.free 2 _ _ _ rfl 0; have c2_1 : w5_.cell? ⟨g2, 1, none⟩ = some (.slice A2 now.length c2) := HS.out.cell 2 _ _ _ rfl 1; have f2_1 : w5_.frozen? ⟨g2, 1, none⟩ = false := HS.out.free 2 _ _ _ rfl 1; have c2_2 : w5_.cell? ⟨g2, 2, none⟩ = some (.int .i64 m) := HS.out.cell 2 _ _ _ rfl 2; have f2_2 : w5_.frozen? ⟨g2, 2, none⟩ = false := HS.out.free 2 _ _ _ rfl 2; have ne0_1 := HS.out.ne_blk 0 1 _ _ _ _ _ _ rfl rfl (by omega); have ne0_2 := HS.out.ne_blk 0 2 _ _ _ _ _ _ rfl rfl (by omega); have ne1_2 := HS.out.ne_blk 1 2 _ _ _ _ _ _ rfl rfl (by omega)))
  go_loopw [6] (fun i wr => ∃ (k : Nat) (v : Value) (ys : List Int), k ≤ fst.length ∧ i = .int .i64 k ∧ ys = bs.take k ∧ St [SL.row (Kd.int .u32) 39 v (ys), SL.blk g5 52 #[.slice A fst.length c, v, .int .i64 0], SL.blk g4 52 #[.slice none 0 0, .slice none 0 0, .int .i64 0], SL.blk g2 52 #[.slice A fst.length c, .slice A2 now.length c2, .int .i64 m]] w wr) (fun i _ => fst.length - (intOf i).toNat)
  case atStart => exact ⟨0, _, [], Nat.zero_le _, rfl, rfl, HS.out.nilrow (Kd.int .u32) 39⟩
  case round =>
    clear HS c0_0 f0_0 c0_1 f0_1 c0_2 f0_2 c1_0 f1_0 c1_1 f1_1 c1_2 f1_2 c2_0 f2_0 c2_1 f2_1 c2_2 f2_2 ne0_1 ne0_2 ne1_2
    obtain ⟨k, v, ys, hk, rfl, hy, hS⟩ := hrel
    have hyl : ys.length = k := by rw [hy, List.length_take, HBL.out, HL.out]; omega
    obtain ⟨A1, c1, hv1, _⟩ := hS.rowC 0 rfl
    subst hv1
    have HY := Go.Lib.hid hy
    clear hy
    by_cases hlt : k < fst.length
    · have hlb : k < bs.length := by rw [HBL.out, HL.out]; exact hlt
      have hln : k < now.length := by rw [HL.out]; exact hlt
      obtain ⟨ad, rfl, g0, g1⟩ := at_T43 HC.out (k : Int) (by omega) (by omega)
      obtain ⟨ad2, rfl, g2_⟩ := Kd.at_int HD.out (k : Int) (by omega) (by omega)
      rw [Int.toNat_natCast] at g0 g1 g2_
      replace g0 := hS.old g0
      replace g1 := hS.old g1
      replace g2_ := hS.old g2_
      have hb0 := HBG.out k hlt
      rw [List.getElem?_eq_getElem hlb] at hb0
      injection hb0 with hb0
      generalize rd_T43 fst (k : Int) = x at *
      generalize rd now (k : Int) = y at *
      obtain ⟨x0, x1⟩ := x
      have HYL := Go.Lib.hid hyl
      have hb : (ys.length + 1) * 4 ≤ 140737488355328 := by omega
      clear hyl
      have HS := Go.Lib.hid hS
      clear hS
      have HB : Hid (bs[k] = x0) := Go.Lib.hid (by simpa [goes] using hb0)
      clear hb0
      have c1_0 : wr.cell? ⟨g5, 0, none⟩ = some (.slice (some ad) fst.length c) := HS.out.cell 1 _ _ _ rfl 0
      have f1_0 : wr.frozen? ⟨g5, 0, none⟩ = false := HS.out.free 1 _ _ _ rfl 0
      have c1_1 : wr.cell? ⟨g5, 1, none⟩ = some (.slice A1 ys.length c1) := HS.out.cell 1 _ _ _ rfl 1
      have f1_1 : wr.frozen? ⟨g5, 1, none⟩ = false := HS.out.free 1 _ _ _ rfl 1
      have c1_2 : wr.cell? ⟨g5, 2, none⟩ = some (.int .i64 0) := HS.out.cell 1 _ _ _ rfl 2
      have f1_2 : wr.frozen? ⟨g5, 2, none⟩ = false := HS.out.free 1 _ _ _ rfl 2
      have c2_0 : wr.cell? ⟨g4, 0, none⟩ = some (.slice none 0 0) := HS.out.cell 2 _ _ _ rfl 0
      have f2_0 : wr.frozen? ⟨g4, 0, none⟩ = false := HS.out.free 2 _ _ _ rfl 0
      have c2_1 : wr.cell? ⟨g4, 1, none⟩ = some (.slice none 0 0) := HS.out.cell 2 _ _ _ rfl 1
      have f2_1 : wr.frozen? ⟨g4, 1, none⟩ = false := HS.out.free 2 _ _ _ rfl 1
      have c2_2 : wr.cell? ⟨g4, 2, none⟩ = some (.int .i64 0) := HS.out.cell 2 _ _ _ rfl 2
      have f2_2 : wr.frozen? ⟨g4, 2, none⟩ = false := HS.out.free 2 _ _ _ rfl 2
      have c3_0 : wr.cell? ⟨g2, 0, none⟩ = some (.slice (some ad) fst.length c) := HS.out.cell 3 _ _ _ rfl 0
      have f3_0 : wr.frozen? ⟨g2, 0, none⟩ = false := HS.out.free 3 _ _ _ rfl 0
      have c3_1 : wr.cell? ⟨g2, 1, none⟩ = some (.slice (some ad2) now.length c2) := HS.out.cell 3 _ _ _ rfl 1
      have f3_1 : wr.frozen? ⟨g2, 1, none⟩ = false := HS.out.free 3 _ _ _ rfl 1
      have c3_2 : wr.cell? ⟨g2, 2, none⟩ = some (.int .i64 m) := HS.out.cell 3 _ _ _ rfl 2
      have f3_2 : wr.frozen? ⟨g2, 2, none⟩ = false := HS.out.free 3 _ _ _ rfl 2
      have ne1_2 := HS.out.ne_blk 1 2 _ _ _ _ _ _ rfl rfl (by omega)
      have ne1_3 := HS.out.ne_blk 1 3 _ _ _ _ _ _ rfl rfl (by omega)
      have ne2_3 := HS.out.ne_blk 2 3 _ _ _ _ _ _ rfl rfl (by omega)
      go_wp2_with (first | ((with_reducible refine gate_dst (N := 47) rfl ?_); refine Sl.append_st (Kd.int .u32) (flat_int .u32) HS.out 0 (.slice A1 ys.length c1) (ys) 39 rfl (by rfl) (.tmp 44) (.tmp 46) 36 (.int .u32 0) 4 rfl Try.underlying36 (by kernel_rfl) rfl (by decide) (by decide) (x0) [.int .u32 (x0)] rfl rfl ?hp ?hb ?_; (case hp => first | rfl | exact k39_mk _ _); (case hb => omega); intro v1_ w21_ HSn; obtain ⟨A9_, c9_, hv2_, _⟩ := HSn.rowC 0 rfl; subst hv2_; replace HS : Hid (St [SL.row (Kd.int .u32) 39 (.slice A9_ (ys ++ [x0]).length c9_) (ys ++ [x0]), SL.blk g5 52 #[.slice (some ad) fst.length c, .slice A1 ys.length c1, .int .i64 0], SL.blk g4 52 #[.slice none 0 0, .slice none 0 0, .int .i64 0], SL.blk g2 52 #[.slice (some ad) fst.length c, .slice (some ad2) now.length c2, .int .i64 m]] w w21_) := Go.Lib.hid HSn; clear HSn; clear c1_0 f1_0 c1_1 f1_1 c1_2 f1_2 c2_0 f2_0 c2_1 f2_1 c2_2 f2_2 c3_0 f3_0 c3_1 f3_1 c3_2 f3_2 ne1_2 ne1_3 ne2_3; have c1_0 : w21_.cell? ⟨g5, 0, none⟩ = some (.slice (some ad) fst.length c) := HS.out.cell 1 _ _ _ rfl 0; have f1_0 : w21_.frozen? ⟨g5, 0, none⟩ = false := HS.out.free 1 _ _ _ rfl 0; have c1_1 : w21_.cell? ⟨g5, 1, none⟩ = some (.slice A1 ys.length c1) := HS.out.cell 1 _ _ _ rfl 1; have f1_1 : w21_.frozen? ⟨g5, 1, none⟩ = false := HS.out.free 1 _ _ _ rfl 1; have c1_2 : w21_.cell? ⟨g5, 2, none⟩ = some (.int .i64 0) := HS.out.cell 1 _ _ _ rfl 2; have f1_2 : w21_.frozen? ⟨g5, 2, none⟩ = false := HS.out.free 1 _ _ _ rfl 2; have c2_0 : w21_.cell? ⟨g4, 0, none⟩ = some (.slice none 0 0) := HS.out.cell 2 _ _ _ rfl 0; have f2_0 : w21_.frozen? ⟨g4, 0, none⟩ = false := HS.out.free 2 _ _ _ rfl 0; have c2_1 : w21_.cell? ⟨g4, 1, none⟩ = some (.slice none 0 0) := HS.out.cell 2 _ _ _ rfl 1; have f2_1 : w21_.frozen? ⟨g4, 1, none⟩ = false := HS.out.free 2 _ _ _ rfl 1; have c2_2 : w21_.cell? ⟨g4, 2, none⟩ = some (.int .i64 0) := HS.out.cell 2 _ _ _ rfl 2; have f2_2 : w21_.frozen? ⟨g4, 2, none⟩ = false := HS.out.free 2 _ _ _ rfl 2; have c3_0 : w21_.cell? ⟨g2, 0, none⟩ = some (.slice (some ad) fst.length c) := HS.out.cell 3 _ _ _ rfl 0; have f3_0 : w21_.frozen? ⟨g2, 0, none⟩ = false := HS.out.free 3 _ _ _ rfl 0; have c3_1 : w21_.cell? ⟨g2, 1, none⟩ = some (.slice (some ad2) now.length c2) := HS.out.cell 3 _ _ _ rfl 1; have f3_1 : w21_.frozen? ⟨g2, 1, none⟩ = false := HS.out.free 3 _ _ _ rfl 1; have c3_2 : w21_.cell? ⟨g2, 2, none⟩ = some (.int .i64 m) := HS.out.cell 3 _ _ _ rfl 2; have f3_2 : w21_.frozen? ⟨g2, 2, none⟩ = false := HS.out.free 3 _ _ _ rfl 2; have ne1_2 := HS.out.ne_blk 1 2 _ _ _ _ _ _ rfl rfl (by omega); have ne1_3 := HS.out.ne_blk 1 3 _ _ _ _ _ _ rfl rfl (by omega); have ne2_3 := HS.out.ne_blk 2 3 _ _ _ _ _ _ rfl rfl (by omega)) | ((with_reducible refine gate_store (p := 48) rfl ?_); refine Sl.store_st HS.out 1 g5 52 _ rfl 1 ((.slice A9_ (ys ++ [x0]).length c9_)) (by rfl) (by rfl) ?hr ?_; (case hr => first | (go_simp; done) | (go_simp; rfl)); intro w22_ HSn; replace HS : Hid (St [SL.row (Kd.int .u32) 39 (.slice A9_ (ys ++ [x0]).length c9_) (ys ++ [x0]), SL.blk g5 52 #[.slice (some ad) fst.length c, (.slice A9_ (ys ++ [x0]).length c9_), .int .i64 0], SL.blk g4 52 #[.slice none 0 0, .slice none 0 0, .int .i64 0], SL.blk g2 52 #[.slice (some ad) fst.length c, .slice (some ad2) now.length c2, .int .i64 m]] w w22_) := Go.Lib.hid HSn; clear HSn; clear c1_0 f1_0 c1_1 f1_1 c1_2 f1_2 c2_0 f2_0 c2_1 f2_1 c2_2 f2_2 c3_0 f3_0 c3_1 f3_1 c3_2 f3_2 ne1_2 ne1_3 ne2_3; have c1_0 : w22_.cell? ⟨g5, 0, none⟩ = some (.slice (some ad) fst.length c) := HS.out.cell 1 _ _ _ rfl 0; have f1_0 : w22_.frozen? ⟨g5, 0, none⟩ = false := HS.out.free 1 _ _ _ rfl 0; have c1_1 : w22_.cell? ⟨g5, 1, none⟩ = some ((.slice A9_ (ys ++ [x0]).length c9_)) := HS.out.cell 1 _ _ _ rfl 1; have f1_1 : w22_.frozen? ⟨g5, 1, none⟩ = false := HS.out.free 1 _ _ _ rfl 1; have c1_2 : w22_.cell? ⟨g5, 2, none⟩ = some (.int .i64 0) := HS.out.cell 1 _ _ _ rfl 2; have f1_2 : w22_.frozen? ⟨g5, 2, none⟩ = false := HS.out.free 1 _ _ _ rfl 2; have c2_0 : w22_.cell? ⟨g4, 0, none⟩ = some (.slice none 0 0) := HS.out.cell 2 _ _ _ rfl 0; have f2_0 : w22_.frozen? ⟨g4, 0, none⟩ = false := HS.out.free 2 _ _ _ rfl 0; have c2_1 : w22_.cell? ⟨g4, 1, none⟩ = some (.slice none 0 0) := HS.out.cell 2 _ _ _ rfl 1; have f2_1 : w22_.frozen? ⟨g4, 1, none⟩ = false := HS.out.free 2 _ _ _ rfl 1; have c2_2 : w22_.cell? ⟨g4, 2, none⟩ = some (.int .i64 0) := HS.out.cell 2 _ _ _ rfl 2; have f2_2 : w22_.frozen? ⟨g4, 2, none⟩ = false := HS.out.free 2 _ _ _ rfl 2; have c3_0 : w22_.cell? ⟨g2, 0, none⟩ = some (.slice (some ad) fst.length c) := HS.out.cell 3 _ _ _ rfl 0; have f3_0 : w22_.frozen? ⟨g2, 0, none⟩ = false := HS.out.free 3 _ _ _ rfl 0; have c3_1 : w22_.cell? ⟨g2, 1, none⟩ = some (.slice (some ad2) now.length c2) := HS.out.cell 3 _ _ _ rfl 1; have f3_1 : w22_.frozen? ⟨g2, 1, none⟩ = false := HS.out.free 3 _ _ _ rfl 1; have c3_2 : w22_.cell? ⟨g2, 2, none⟩ = some (.int .i64 m) := HS.out.cell 3 _ _ _ rfl 2; have f3_2 : w22_.frozen? ⟨g2, 2, none⟩ = false := HS.out.free 3 _ _ _ rfl 2; have ne1_2 := HS.out.ne_blk 1 2 _ _ _ _ _ _ rfl rfl (by omega); have ne1_3 := HS.out.ne_blk 1 3 _ _ _ _ _ _ rfl rfl (by omega); have ne2_3 := HS.out.ne_blk 2 3 _ _ _ _ _ _ rfl rfl (by omega)))
      go_roundw
      case rel => exact ⟨k + 1, _, _, by omega, by go_num, by rw [List.take_succ_eq_append_getElem (by omega), ← HY.out, HB.out], HS.out⟩
      case measure => simp [intOf]; omega
    · obtain rfl : k = fst.length := by omega
      have HYL := Go.Lib.hid hyl
      have HS := Go.Lib.hid hS
      clear hS hyl
      have c1_0 : wr.cell? ⟨g5, 0, none⟩ = some (.slice A fst.length c) := HS.out.cell 1 _ _ _ rfl 0
      have f1_0 : wr.frozen? ⟨g5, 0, none⟩ = false := HS.out.free 1 _ _ _ rfl 0
      have c1_1 : wr.cell? ⟨g5, 1, none⟩ = some (.slice A1 ys.length c1) := HS.out.cell 1 _ _ _ rfl 1
      have f1_1 : wr.frozen? ⟨g5, 1, none⟩ = false := HS.out.free 1 _ _ _ rfl 1
      have c1_2 : wr.cell? ⟨g5, 2, none⟩ = some (.int .i64 0) := HS.out.cell 1 _ _ _ rfl 2
      have f1_2 : wr.frozen? ⟨g5, 2, none⟩ = false := HS.out.free 1 _ _ _ rfl 2
      have c2_0 : wr.cell? ⟨g4, 0, none⟩ = some (.slice none 0 0) := HS.out.cell 2 _ _ _ rfl 0
      have f2_0 : wr.frozen? ⟨g4, 0, none⟩ = false := HS.out.free 2 _ _ _ rfl 0
      have c2_1 : wr.cell? ⟨g4, 1, none⟩ = some (.slice none 0 0) := HS.out.cell 2 _ _ _ rfl 1
      have f2_1 : wr.frozen? ⟨g4, 1, none⟩ = false := HS.out.free 2 _ _ _ rfl 1
      have c2_2 : wr.cell? ⟨g4, 2, none⟩ = some (.int .i64 0) := HS.out.cell 2 _ _ _ rfl 2
      have f2_2 : wr.frozen? ⟨g4, 2, none⟩ = false := HS.out.free 2 _ _ _ rfl 2
      have c3_0 : wr.cell? ⟨g2, 0, none⟩ = some (.slice A fst.length c) := HS.out.cell 3 _ _ _ rfl 0
      have f3_0 : wr.frozen? ⟨g2, 0, none⟩ = false := HS.out.free 3 _ _ _ rfl 0
      have c3_1 : wr.cell? ⟨g2, 1, none⟩ = some (.slice A2 now.length c2) := HS.out.cell 3 _ _ _ rfl 1
      have f3_1 : wr.frozen? ⟨g2, 1, none⟩ = false := HS.out.free 3 _ _ _ rfl 1
      have c3_2 : wr.cell? ⟨g2, 2, none⟩ = some (.int .i64 m) := HS.out.cell 3 _ _ _ rfl 2
      have f3_2 : wr.frozen? ⟨g2, 2, none⟩ = false := HS.out.free 3 _ _ _ rfl 2
      have ne1_2 := HS.out.ne_blk 1 2 _ _ _ _ _ _ rfl rfl (by omega)
      have ne1_3 := HS.out.ne_blk 1 3 _ _ _ _ _ _ rfl rfl (by omega)
      have ne2_3 := HS.out.ne_blk 2 3 _ _ _ _ _ _ rfl rfl (by omega)
      go_wp2_with (first | ((with_reducible refine gate_store (p := 4) rfl ?_); refine Sl.storeAll_st HS.out 2 g4 52 _ rfl [.slice A fst.length c, .slice A1 ys.length c1, .int .i64 0] rfl (by rfl) (by rfl) ?hr ?_; (case hr => first | (go_simp; done) | (go_simp; rfl)); intro w21_ HSn; replace HS : Hid (St [SL.row (Kd.int .u32) 39 (.slice A1 ys.length c1) (ys), SL.blk g5 52 #[.slice A fst.length c, .slice A1 ys.length c1, .int .i64 0], SL.blk g4 52 #[.slice A fst.length c, .slice A1 ys.length c1, .int .i64 0], SL.blk g2 52 #[.slice A fst.length c, .slice A2 now.length c2, .int .i64 m]] w w21_) := Go.Lib.hid HSn; clear HSn; clear c1_0 f1_0 c1_1 f1_1 c1_2 f1_2 c2_0 f2_0 c2_1 f2_1 c2_2 f2_2 c3_0 f3_0 c3_1 f3_1 c3_2 f3_2 ne1_2 ne1_3 ne2_3; have c1_0 : w21_.cell? ⟨g5, 0, none⟩ = some (.slice A fst.length c) := HS.out.cell 1 _ _ _ rfl 0; have f1_0 : w21_.frozen? ⟨g5, 0, none⟩ = false := HS.out.free 1 _ _ _ rfl 0; have c1_1 : w21_.cell? ⟨g5, 1, none⟩ = some (.slice A1 ys.length c1) := HS.out.cell 1 _ _ _ rfl 1; have f1_1 : w21_.frozen? ⟨g5, 1, none⟩ = false := HS.out.free 1 _ _ _ rfl 1; have c1_2 : w21_.cell? ⟨g5, 2, none⟩ = some (.int .i64 0) := HS.out.cell 1 _ _ _ rfl 2; have f1_2 : w21_.frozen? ⟨g5, 2, none⟩ = false := HS.out.free 1 _ _ _ rfl 2; have c2_0 : w21_.cell? ⟨g4, 0, none⟩ = some (.slice A fst.length c) := HS.out.cell 2 _ _ _ rfl 0; have f2_0 : w21_.frozen? ⟨g4, 0, none⟩ = false := HS.out.free 2 _ _ _ rfl 0; have c2_1 : w21_.cell? ⟨g4, 1, none⟩ = some (.slice A1 ys.length c1) := HS.out.cell 2 _ _ _ rfl 1; have f2_1 : w21_.frozen? ⟨g4, 1, none⟩ = false := HS.out.free 2 _ _ _ rfl 1; have c2_2 : w21_.cell? ⟨g4, 2, none⟩ = some (.int .i64 0) := HS.out.cell 2 _ _ _ rfl 2; have f2_2 : w21_.frozen? ⟨g4, 2, none⟩ = false := HS.out.free 2 _ _ _ rfl 2; have c3_0 : w21_.cell? ⟨g2, 0, none⟩ = some (.slice A fst.length c) := HS.out.cell 3 _ _ _ rfl 0; have f3_0 : w21_.frozen? ⟨g2, 0, none⟩ = false := HS.out.free 3 _ _ _ rfl 0; have c3_1 : w21_.cell? ⟨g2, 1, none⟩ = some (.slice A2 now.length c2) := HS.out.cell 3 _ _ _ rfl 1; have f3_1 : w21_.frozen? ⟨g2, 1, none⟩ = false := HS.out.free 3 _ _ _ rfl 1; have c3_2 : w21_.cell? ⟨g2, 2, none⟩ = some (.int .i64 m) := HS.out.cell 3 _ _ _ rfl 2; have f3_2 : w21_.frozen? ⟨g2, 2, none⟩ = false := HS.out.free 3 _ _ _ rfl 2; have ne1_2 := HS.out.ne_blk 1 2 _ _ _ _ _ _ rfl rfl (by omega); have ne1_3 := HS.out.ne_blk 1 3 _ _ _ _ _ _ rfl rfl (by omega); have ne2_3 := HS.out.ne_blk 2 3 _ _ _ _ _ _ rfl rfl (by omega)))
      have h1 := ((HS.out.erase 3).erase 2).erase 1
      have e1 : ys = bs := by rw [HY.out, List.take_of_length_le (by rw [HBL.out, HL.out]; omega)]
      have H1 := Go.Lib.hid h1
      have E1 := Go.Lib.hid e1
      clear h1 e1
      refine bodyPost_ret (v := .agg #[.slice A fst.length c, .slice A1 ys.length c1, .int .i64 0]) (by simp [results, Try.results34, go_sem, c2_0, c2_1, c2_2]) rfl ⟨_, rfl, ?_⟩
      have h1 := H1.out
      rw [E1.out] at h1 ⊢
      exact h1

set_option maxHeartbeats 3200000 in
set_option maxRecDepth 100000 in
theorem start_false (A : Option Addr) (c : Nat) (A2 : Option Addr) (c2 : Nat) (hC : k43.C w A fst.length fst) (hD : (Kd.int .u32).C w A2 now.length now) (hl : now.length = fst.length) (hn : fst.length ≤ 1000) (m : Int) :
    Calls Try.prog 34 #[.agg #[.slice A fst.length c, .slice A2 now.length c2, .int .i64 m], .bool false] w fun e w' => ∃ v, e = .returned (.agg #[.slice A fst.length c, v, .int .i64 m]) ∧ St [SL.row (Kd.int .u32) 39 v (back false fst now fst.length)] w w' := by
  have HC := Go.Lib.hid hC
  have HD := Go.Lib.hid hD
  have HL := Go.Lib.hid hl
  have HS := Go.Lib.hid (St.start w)
  have HBL := Go.Lib.hid (back_len false fst now fst.length)
  have HBG := Go.Lib.hid (back_rd fst now hl false)
  generalize back false fst now fst.length = bs at *
  clear hC hD hl
  go_enter Try.func34, Try.ntmps34
  go_wp2_with (first | ((with_reducible refine gate_dst (N := 2) rfl ?_); refine Sl.box_st HS.out (by rfl) (cs := #[.slice A fst.length c, .slice A2 now.length c2, .int .i64 m]) (t := 52) ?hr ?_; (case hr => first | (go_simp; done) | (go_simp; rfl)); intro g2 w1_ HSn HBn; clear HBn; replace HS : Hid (St [SL.blk g2 52 #[.slice A fst.length c, .slice A2 now.length c2, .int .i64 m]] w w1_) := Go.Lib.hid HSn; clear HSn; have c0_0 : w1_.cell? ⟨g2, 0, none⟩ = some (.slice A fst.length c) := HS.out.cell 0 _ _ _ rfl 0; have f0_0 : w1_.frozen? ⟨g2, 0, none⟩ = false := HS.out.free 0 _ _ _ rfl 0; have c0_1 : w1_.cell? ⟨g2, 1, none⟩ = some (.slice A2 now.length c2) := HS.out.cell 0 _ _ _ rfl 1; have f0_1 : w1_.frozen? ⟨g2, 1, none⟩ = false := HS.out.free 0 _ _ _ rfl 1; have c0_2 : w1_.cell? ⟨g2, 2, none⟩ = some (.int .i64 m) := HS.out.cell 0 _ _ _ rfl 2; have f0_2 : w1_.frozen? ⟨g2, 2, none⟩ = false := HS.out.free 0 _ _ _ rfl 2) | ((with_reducible refine gate_dst (N := 4) rfl ?_); refine Sl.box_st HS.out (by rfl) (cs := #[.slice none 0 0, .slice none 0 0, .int .i64 0]) (t := 52) ?hr ?_; (case hr => first | (go_simp; done) | (go_simp; rfl)); intro g4 w2_ HSn HBn; clear HBn; replace HS : Hid (St [SL.blk g4 52 #[.slice none 0 0, .slice none 0 0, .int .i64 0], SL.blk g2 52 #[.slice A fst.length c, .slice A2 now.length c2, .int .i64 m]] w w2_) := Go.Lib.hid HSn; clear HSn; clear c0_0 f0_0 c0_1 f0_1 c0_2 f0_2; have c0_0 : w2_.cell? ⟨g4, 0, none⟩ = some (.slice none 0 0) := HS.out.cell 0 _ _ _ rfl 0; have f0_0 : w2_.frozen? ⟨g4, 0, none⟩ = false := HS.out.free 0 _ _ _ rfl 0; have c0_1 : w2_.cell? ⟨g4, 1, none⟩ = some (.slice none 0 0) := HS.out.cell 0 _ _ _ rfl 1; have f0_1 : w2_.frozen? ⟨g4, 1, none⟩ = false := HS.out.free 0 _ _ _ rfl 1; have c0_2 : w2_.cell? ⟨g4, 2, none⟩ = some (.int .i64 0) := HS.out.cell 0 _ _ _ rfl 2; have f0_2 : w2_.frozen? ⟨g4, 2, none⟩ = false := HS.out.free 0 _ _ _ rfl 2; have c1_0 : w2_.cell? ⟨g2, 0, none⟩ = some (.slice A fst.length c) := HS.out.cell 1 _ _ _ rfl 0; have f1_0 : w2_.frozen? ⟨g2, 0, none⟩ = false := HS.out.free 1 _ _ _ rfl 0; have c1_1 : w2_.cell? ⟨g2, 1, none⟩ = some (.slice A2 now.length c2) := HS.out.cell 1 _ _ _ rfl 1; have f1_1 : w2_.frozen? ⟨g2, 1, none⟩ = false := HS.out.free 1 _ _ _ rfl 1; have c1_2 : w2_.cell? ⟨g2, 2, none⟩ = some (.int .i64 m) := HS.out.cell 1 _ _ _ rfl 2; have f1_2 : w2_.frozen? ⟨g2, 2, none⟩ = false := HS.out.free 1 _ _ _ rfl 2; have ne0_1 := HS.out.ne_blk 0 1 _ _ _ _ _ _ rfl rfl (by omega)) | ((with_reducible refine gate_dst (N := 5) rfl ?_); refine Sl.box_st HS.out (by rfl) (cs := #[.slice none 0 0, .slice none 0 0, .int .i64 0]) (t := 52) ?hr ?_; (case hr => first | (go_simp; done) | (go_simp; rfl)); intro g5 w3_ HSn HBn; clear HBn; replace HS : Hid (St [SL.blk g5 52 #[.slice none 0 0, .slice none 0 0, .int .i64 0], SL.blk g4 52 #[.slice none 0 0, .slice none 0 0, .int .i64 0], SL.blk g2 52 #[.slice A fst.length c, .slice A2 now.length c2, .int .i64 m]] w w3_) := Go.Lib.hid HSn; clear HSn; clear c0_0 f0_0 c0_1 f0_1 c0_2 f0_2 c1_0 f1_0 c1_1 f1_1 c1_2 f1_2 ne0_1; have c0_0 : w3_.cell? ⟨g5, 0, none⟩ = some (.slice none 0 0) := HS.out.cell 0 _ _ _ rfl 0; have f0_0 : w3_.frozen? ⟨g5, 0, none⟩ = false := HS.out.free 0 _ _ _ rfl 0; have c0_1 : w3_.cell? ⟨g5, 1, none⟩ = some (.slice none 0 0) := HS.out.cell 0 _ _ _ rfl 1; have f0_1 : w3_.frozen? ⟨g5, 1, none⟩ = false := HS.out.free 0 _ _ _ rfl 1; have c0_2 : w3_.cell? ⟨g5, 2, none⟩ = some (.int .i64 0) := HS.out.cell 0 _ _ _ rfl 2; have f0_2 : w3_.frozen? ⟨g5, 2, none⟩ = false := HS.out.free 0 _ _ _ rfl 2; have c1_0 : w3_.cell? ⟨g4, 0, none⟩ = some (.slice none 0 0) := HS.out.cell 1 _ _ _ rfl 0; have f1_0 : w3_.frozen? ⟨g4, 0, none⟩ = false := HS.out.free 1 _ _ _ rfl 0; have c1_1 : w3_.cell? ⟨g4, 1, none⟩ = some (.slice none 0 0) := HS.out.cell 1 _ _ _ rfl 1; have f1_1 : w3_.frozen? ⟨g4, 1, none⟩ = false := HS.out.free 1 _ _ _ rfl 1; have c1_2 : w3_.cell? ⟨g4, 2, none⟩ = some (.int .i64 0) := HS.out.cell 1 _ _ _ rfl 2; have f1_2 : w3_.frozen? ⟨g4, 2, none⟩ = false := HS.out.free 1 _ _ _ rfl 2; have c2_0 : w3_.cell? ⟨g2, 0, none⟩ = some (.slice A fst.length c) := HS.out.cell 2 _ _ _ rfl 0; have f2_0 : w3_.frozen? ⟨g2, 0, none⟩ = false := HS.out.free 2 _ _ _ rfl 0; have c2_1 : w3_.cell? ⟨g2, 1, none⟩ = some (.slice A2 now.length c2) := HS.out.cell 2 _ _ _ rfl 1; have f2_1 : w3_.frozen? ⟨g2, 1, none⟩ = false := HS.out.free 2 _ _ _ rfl 1; have c2_2 : w3_.cell? ⟨g2, 2, none⟩ = some (.int .i64 m) := HS.out.cell 2 _ _ _ rfl 2; have f2_2 : w3_.frozen? ⟨g2, 2, none⟩ = false := HS.out.free 2 _ _ _ rfl 2; have ne0_1 := HS.out.ne_blk 0 1 _ _ _ _ _ _ rfl rfl (by omega); have ne0_2 := HS.out.ne_blk 0 2 _ _ _ _ _ _ rfl rfl (by omega); have ne1_2 := HS.out.ne_blk 1 2 _ _ _ _ _ _ rfl rfl (by omega)) | ((with_reducible refine gate_store (p := 5) rfl ?_); refine Sl.storeAll_st HS.out 0 g5 52 _ rfl [.slice A fst.length c, .slice none 0 0, .int .i64 m] rfl (by rfl) (by rfl) ?hr ?_; (case hr => first | (go_simp; done) | (go_simp; rfl)); intro w4_ HSn; replace HS : Hid (St [SL.blk g5 52 #[.slice A fst.length c, .slice none 0 0, .int .i64 m], SL.blk g4 52 #[.slice none 0 0, .slice none 0 0, .int .i64 0], SL.blk g2 52 #[.slice A fst.length c, .slice A2 now.length c2, .int .i64 m]] w w4_) := Go.Lib.hid HSn; clear HSn; clear c0_0 f0_0 c0_1 f0_1 c0_2 f0_2 c1_0 f1_0 c1_1 f1_1 c1_2 f1_2 c2_0 f2_0 c2_1 f2_1 c2_2 f2_2 ne0_1 ne0_2 ne1_2; have c0_0 : w4_.cell? ⟨g5, 0, none⟩ = some (.slice A fst.length c) := HS.out.cell 0 _ _ _ rfl 0; have f0_0 : w4_.frozen? ⟨g5, 0, none⟩ = false := HS.out.free 0 _ _ _ rfl 0; have c0_1 : w4_.cell? ⟨g5, 1, none⟩ = some (.slice none 0 0) := HS.out.cell 0 _ _ _ rfl 1; have f0_1 : w4_.frozen? ⟨g5, 1, none⟩ = false := HS.out.free 0 _ _ _ rfl 1; have c0_2 : w4_.cell? ⟨g5, 2, none⟩ = some (.int .i64 m) := HS.out.cell 0 _ _ _ rfl 2; have f0_2 : w4_.frozen? ⟨g5, 2, none⟩ = false := HS.out.free 0 _ _ _ rfl 2; have c1_0 : w4_.cell? ⟨g4, 0, none⟩ = some (.slice none 0 0) := HS.out.cell 1 _ _ _ rfl 0; have f1_0 : w4_.frozen? ⟨g4, 0, none⟩ = false := HS.out.free 1 _ _ _ rfl 0; have c1_1 : w4_.cell? ⟨g4, 1, none⟩ = some (.slice none 0 0) := HS.out.cell 1 _ _ _ rfl 1; have f1_1 : w4_.frozen? ⟨g4, 1, none⟩ = false := HS.out.free 1 _ _ _ rfl 1; have c1_2 : w4_.cell? ⟨g4, 2, none⟩ = some (.int .i64 0) := HS.out.cell 1 _ _ _ rfl 2; have f1_2 : w4_.frozen? ⟨g4, 2, none⟩ = false := HS.out.free 1 _ _ _ rfl 2; have c2_0 : w4_.cell? ⟨g2, 0, none⟩ = some (.slice A fst.length c) := HS.out.cell 2 _ _ _ rfl 0; have f2_0 : w4_.frozen? ⟨g2, 0, none⟩ = false := HS.out.free 2 _ _ _ rfl 0; have c2_1 : w4_.cell? ⟨g2, 1, none⟩ = some (.slice A2 now.length c2) := HS.out.cell 2 _ _ _ rfl 1; have f2_1 : w4_.frozen? ⟨g2, 1, none⟩ = false := HS.out.free 2 _ _ _ rfl 1; have c2_2 : w4_.cell? ⟨g2, 2, none⟩ = some (.int .i64 m) := HS.out.cell 2 _ _ _ rfl 2; have f2_2 : w4_.frozen? ⟨g2, 2, none⟩ = false := HS.out.free 2 _ _ _ rfl 2; have ne0_1 := HS.out.ne_blk 0 1 _ _ _ _ _ _ rfl rfl (by omega); have ne0_2 := HS.out.ne_blk 0 2 _ _ _ _ _ _ rfl rfl (by omega); have ne1_2 := HS.out.ne_blk 1 2 _ _ _ _ _ _ rfl rfl (by omega)))
  go_loopw [6] (fun i wr => ∃ (k : Nat) (v : Value) (ys : List Int), k ≤ fst.length ∧ i = .int .i64 k ∧ ys = bs.take k ∧ St [SL.row (Kd.int .u32) 39 v (ys), SL.blk g5 52 #[.slice A fst.length c, v, .int .i64 m], SL.blk g4 52 #[.slice none 0 0, .slice none 0 0, .int .i64 0], SL.blk g2 52 #[.slice A fst.length c, .slice A2 now.length c2, .int .i64 m]] w wr) (fun i _ => fst.length - (intOf i).toNat)
  case atStart => exact ⟨0, _, [], Nat.zero_le _, rfl, rfl, HS.out.nilrow (Kd.int .u32) 39⟩
  case round =>
    clear HS c0_0 f0_0 c0_1 f0_1 c0_2 f0_2 c1_0 f1_0 c1_1 f1_1 c1_2 f1_2 c2_0 f2_0 c2_1 f2_1 c2_2 f2_2 ne0_1 ne0_2 ne1_2
    obtain ⟨k, v, ys, hk, rfl, hy, hS⟩ := hrel
    have hyl : ys.length = k := by rw [hy, List.length_take, HBL.out, HL.out]; omega
    obtain ⟨A1, c1, hv1, _⟩ := hS.rowC 0 rfl
    subst hv1
    have HY := Go.Lib.hid hy
    clear hy
    by_cases hlt : k < fst.length
    · have hlb : k < bs.length := by rw [HBL.out, HL.out]; exact hlt
      have hln : k < now.length := by rw [HL.out]; exact hlt
      obtain ⟨ad, rfl, g0, g1⟩ := at_T43 HC.out (k : Int) (by omega) (by omega)
      obtain ⟨ad2, rfl, g2_⟩ := Kd.at_int HD.out (k : Int) (by omega) (by omega)
      rw [Int.toNat_natCast] at g0 g1 g2_
      replace g0 := hS.old g0
      replace g1 := hS.old g1
      replace g2_ := hS.old g2_
      have hb0 := HBG.out k hlt
      rw [List.getElem?_eq_getElem hlb] at hb0
      injection hb0 with hb0
      generalize rd_T43 fst (k : Int) = x at *
      generalize rd now (k : Int) = y at *
      obtain ⟨x0, x1⟩ := x
      have HYL := Go.Lib.hid hyl
      have hb : (ys.length + 1) * 4 ≤ 140737488355328 := by omega
      clear hyl
      have HS := Go.Lib.hid hS
      clear hS
      cases x1 with
      | true =>
        have HB : Hid (bs[k] = y) := Go.Lib.hid (by simpa [goes] using hb0)
        clear hb0
        have c1_0 : wr.cell? ⟨g5, 0, none⟩ = some (.slice (some ad) fst.length c) := HS.out.cell 1 _ _ _ rfl 0
        have f1_0 : wr.frozen? ⟨g5, 0, none⟩ = false := HS.out.free 1 _ _ _ rfl 0
        have c1_1 : wr.cell? ⟨g5, 1, none⟩ = some (.slice A1 ys.length c1) := HS.out.cell 1 _ _ _ rfl 1
        have f1_1 : wr.frozen? ⟨g5, 1, none⟩ = false := HS.out.free 1 _ _ _ rfl 1
        have c1_2 : wr.cell? ⟨g5, 2, none⟩ = some (.int .i64 m) := HS.out.cell 1 _ _ _ rfl 2
        have f1_2 : wr.frozen? ⟨g5, 2, none⟩ = false := HS.out.free 1 _ _ _ rfl 2
        have c2_0 : wr.cell? ⟨g4, 0, none⟩ = some (.slice none 0 0) := HS.out.cell 2 _ _ _ rfl 0
        have f2_0 : wr.frozen? ⟨g4, 0, none⟩ = false := HS.out.free 2 _ _ _ rfl 0
        have c2_1 : wr.cell? ⟨g4, 1, none⟩ = some (.slice none 0 0) := HS.out.cell 2 _ _ _ rfl 1
        have f2_1 : wr.frozen? ⟨g4, 1, none⟩ = false := HS.out.free 2 _ _ _ rfl 1
        have c2_2 : wr.cell? ⟨g4, 2, none⟩ = some (.int .i64 0) := HS.out.cell 2 _ _ _ rfl 2
        have f2_2 : wr.frozen? ⟨g4, 2, none⟩ = false := HS.out.free 2 _ _ _ rfl 2
        have c3_0 : wr.cell? ⟨g2, 0, none⟩ = some (.slice (some ad) fst.length c) := HS.out.cell 3 _ _ _ rfl 0
        have f3_0 : wr.frozen? ⟨g2, 0, none⟩ = false := HS.out.free 3 _ _ _ rfl 0
        have c3_1 : wr.cell? ⟨g2, 1, none⟩ = some (.slice (some ad2) now.length c2) := HS.out.cell 3 _ _ _ rfl 1
        have f3_1 : wr.frozen? ⟨g2, 1, none⟩ = false := HS.out.free 3 _ _ _ rfl 1
        have c3_2 : wr.cell? ⟨g2, 2, none⟩ = some (.int .i64 m) := HS.out.cell 3 _ _ _ rfl 2
        have f3_2 : wr.frozen? ⟨g2, 2, none⟩ = false := HS.out.free 3 _ _ _ rfl 2
        have ne1_2 := HS.out.ne_blk 1 2 _ _ _ _ _ _ rfl rfl (by omega)
        have ne1_3 := HS.out.ne_blk 1 3 _ _ _ _ _ _ rfl rfl (by omega)
        have ne2_3 := HS.out.ne_blk 2 3 _ _ _ _ _ _ rfl rfl (by omega)
        go_wp2_with (first | ((with_reducible refine gate_dst (N := 47) rfl ?_); refine Sl.append_st (Kd.int .u32) (flat_int .u32) HS.out 0 (.slice A1 ys.length c1) (ys) 39 rfl (by rfl) (.tmp 44) (.tmp 46) 36 (.int .u32 0) 4 rfl Try.underlying36 (by kernel_rfl) rfl (by decide) (by decide) (y) [.int .u32 (y)] rfl rfl ?hp ?hb ?_; (case hp => first | rfl | exact k39_mk _ _); (case hb => omega); intro v1_ w21_ HSn; obtain ⟨A9_, c9_, hv2_, _⟩ := HSn.rowC 0 rfl; subst hv2_; replace HS : Hid (St [SL.row (Kd.int .u32) 39 (.slice A9_ (ys ++ [y]).length c9_) (ys ++ [y]), SL.blk g5 52 #[.slice (some ad) fst.length c, .slice A1 ys.length c1, .int .i64 m], SL.blk g4 52 #[.slice none 0 0, .slice none 0 0, .int .i64 0], SL.blk g2 52 #[.slice (some ad) fst.length c, .slice (some ad2) now.length c2, .int .i64 m]] w w21_) := Go.Lib.hid HSn; clear HSn; clear c1_0 f1_0 c1_1 f1_1 c1_2 f1_2 c2_0 f2_0 c2_1 f2_1 c2_2 f2_2 c3_0 f3_0 c3_1 f3_1 c3_2 f3_2 ne1_2 ne1_3 ne2_3; have c1_0 : w21_.cell? ⟨g5, 0, none⟩ = some (.slice (some ad) fst.length c) := HS.out.cell 1 _ _ _ rfl 0; have f1_0 : w21_.frozen? ⟨g5, 0, none⟩ = false := HS.out.free 1 _ _ _ rfl 0; have c1_1 : w21_.cell? ⟨g5, 1, none⟩ = some (.slice A1 ys.length c1) := HS.out.cell 1 _ _ _ rfl 1; have f1_1 : w21_.frozen? ⟨g5, 1, none⟩ = false := HS.out.free 1 _ _ _ rfl 1; have c1_2 : w21_.cell? ⟨g5, 2, none⟩ = some (.int .i64 m) := HS.out.cell 1 _ _ _ rfl 2; have f1_2 : w21_.frozen? ⟨g5, 2, none⟩ = false := HS.out.free 1 _ _ _ rfl 2; have c2_0 : w21_.cell? ⟨g4, 0, none⟩ = some (.slice none 0 0) := HS.out.cell 2 _ _ _ rfl 0; have f2_0 : w21_.frozen? ⟨g4, 0, none⟩ = false := HS.out.free 2 _ _ _ rfl 0; have c2_1 : w21_.cell? ⟨g4, 1, none⟩ = some (.slice none 0 0) := HS.out.cell 2 _ _ _ rfl 1; have f2_1 : w21_.frozen? ⟨g4, 1, none⟩ = false := HS.out.free 2 _ _ _ rfl 1; have c2_2 : w21_.cell? ⟨g4, 2, none⟩ = some (.int .i64 0) := HS.out.cell 2 _ _ _ rfl 2; have f2_2 : w21_.frozen? ⟨g4, 2, none⟩ = false := HS.out.free 2 _ _ _ rfl 2; have c3_0 : w21_.cell? ⟨g2, 0, none⟩ = some (.slice (some ad) fst.length c) := HS.out.cell 3 _ _ _ rfl 0; have f3_0 : w21_.frozen? ⟨g2, 0, none⟩ = false := HS.out.free 3 _ _ _ rfl 0; have c3_1 : w21_.cell? ⟨g2, 1, none⟩ = some (.slice (some ad2) now.length c2) := HS.out.cell 3 _ _ _ rfl 1; have f3_1 : w21_.frozen? ⟨g2, 1, none⟩ = false := HS.out.free 3 _ _ _ rfl 1; have c3_2 : w21_.cell? ⟨g2, 2, none⟩ = some (.int .i64 m) := HS.out.cell 3 _ _ _ rfl 2; have f3_2 : w21_.frozen? ⟨g2, 2, none⟩ = false := HS.out.free 3 _ _ _ rfl 2; have ne1_2 := HS.out.ne_blk 1 2 _ _ _ _ _ _ rfl rfl (by omega); have ne1_3 := HS.out.ne_blk 1 3 _ _ _ _ _ _ rfl rfl (by omega); have ne2_3 := HS.out.ne_blk 2 3 _ _ _ _ _ _ rfl rfl (by omega)) | ((with_reducible refine gate_store (p := 48) rfl ?_); refine Sl.store_st HS.out 1 g5 52 _ rfl 1 ((.slice A9_ (ys ++ [y]).length c9_)) (by rfl) (by rfl) ?hr ?_; (case hr => first | (go_simp; done) | (go_simp; rfl)); intro w22_ HSn; replace HS : Hid (St [SL.row (Kd.int .u32) 39 (.slice A9_ (ys ++ [y]).length c9_) (ys ++ [y]), SL.blk g5 52 #[.slice (some ad) fst.length c, (.slice A9_ (ys ++ [y]).length c9_), .int .i64 m], SL.blk g4 52 #[.slice none 0 0, .slice none 0 0, .int .i64 0], SL.blk g2 52 #[.slice (some ad) fst.length c, .slice (some ad2) now.length c2, .int .i64 m]] w w22_) := Go.Lib.hid HSn; clear HSn; clear c1_0 f1_0 c1_1 f1_1 c1_2 f1_2 c2_0 f2_0 c2_1 f2_1 c2_2 f2_2 c3_0 f3_0 c3_1 f3_1 c3_2 f3_2 ne1_2 ne1_3 ne2_3; have c1_0 : w22_.cell? ⟨g5, 0, none⟩ = some (.slice (some ad) fst.length c) := HS.out.cell 1 _ _ _ rfl 0; have f1_0 : w22_.frozen? ⟨g5, 0, none⟩ = false := HS.out.free 1 _ _ _ rfl 0; have c1_1 : w22_.cell? ⟨g5, 1, none⟩ = some ((.slice A9_ (ys ++ [y]).length c9_)) := HS.out.cell 1 _ _ _ rfl 1; have f1_1 : w22_.frozen? ⟨g5, 1, none⟩ = false := HS.out.free 1 _ _ _ rfl 1; have c1_2 : w22_.cell? ⟨g5, 2, none⟩ = some (.int .i64 m) := HS.out.cell 1 _ _ _ rfl 2; have f1_2 : w22_.frozen? ⟨g5, 2, none⟩ = false := HS.out.free 1 _ _ _ rfl 2; have c2_0 : w22_.cell? ⟨g4, 0, none⟩ = some (.slice none 0 0) := HS.out.cell 2 _ _ _ rfl 0; have f2_0 : w22_.frozen? ⟨g4, 0, none⟩ = false := HS.out.free 2 _ _ _ rfl 0; have c2_1 : w22_.cell? ⟨g4, 1, none⟩ = some (.slice none 0 0) := HS.out.cell 2 _ _ _ rfl 1; have f2_1 : w22_.frozen? ⟨g4, 1, none⟩ = false := HS.out.free 2 _ _ _ rfl 1; have c2_2 : w22_.cell? ⟨g4, 2, none⟩ = some (.int .i64 0) := HS.out.cell 2 _ _ _ rfl 2; have f2_2 : w22_.frozen? ⟨g4, 2, none⟩ = false := HS.out.free 2 _ _ _ rfl 2; have c3_0 : w22_.cell? ⟨g2, 0, none⟩ = some (.slice (some ad) fst.length c) := HS.out.cell 3 _ _ _ rfl 0; have f3_0 : w22_.frozen? ⟨g2, 0, none⟩ = false := HS.out.free 3 _ _ _ rfl 0; have c3_1 : w22_.cell? ⟨g2, 1, none⟩ = some (.slice (some ad2) now.length c2) := HS.out.cell 3 _ _ _ rfl 1; have f3_1 : w22_.frozen? ⟨g2, 1, none⟩ = false := HS.out.free 3 _ _ _ rfl 1; have c3_2 : w22_.cell? ⟨g2, 2, none⟩ = some (.int .i64 m) := HS.out.cell 3 _ _ _ rfl 2; have f3_2 : w22_.frozen? ⟨g2, 2, none⟩ = false := HS.out.free 3 _ _ _ rfl 2; have ne1_2 := HS.out.ne_blk 1 2 _ _ _ _ _ _ rfl rfl (by omega); have ne1_3 := HS.out.ne_blk 1 3 _ _ _ _ _ _ rfl rfl (by omega); have ne2_3 := HS.out.ne_blk 2 3 _ _ _ _ _ _ rfl rfl (by omega)))
        go_roundw
        case rel => exact ⟨k + 1, _, _, by omega, by go_num, by rw [List.take_succ_eq_append_getElem (by omega), ← HY.out, HB.out], HS.out⟩
        case measure => simp [intOf]; omega
      | false =>
        have HB : Hid (bs[k] = x0) := Go.Lib.hid (by simpa [goes] using hb0)
        clear hb0
        have c1_0 : wr.cell? ⟨g5, 0, none⟩ = some (.slice (some ad) fst.length c) := HS.out.cell 1 _ _ _ rfl 0
        have f1_0 : wr.frozen? ⟨g5, 0, none⟩ = false := HS.out.free 1 _ _ _ rfl 0
        have c1_1 : wr.cell? ⟨g5, 1, none⟩ = some (.slice A1 ys.length c1) := HS.out.cell 1 _ _ _ rfl 1
        have f1_1 : wr.frozen? ⟨g5, 1, none⟩ = false := HS.out.free 1 _ _ _ rfl 1
        have c1_2 : wr.cell? ⟨g5, 2, none⟩ = some (.int .i64 m) := HS.out.cell 1 _ _ _ rfl 2
        have f1_2 : wr.frozen? ⟨g5, 2, none⟩ = false := HS.out.free 1 _ _ _ rfl 2
        have c2_0 : wr.cell? ⟨g4, 0, none⟩ = some (.slice none 0 0) := HS.out.cell 2 _ _ _ rfl 0
        have f2_0 : wr.frozen? ⟨g4, 0, none⟩ = false := HS.out.free 2 _ _ _ rfl 0
        have c2_1 : wr.cell? ⟨g4, 1, none⟩ = some (.slice none 0 0) := HS.out.cell 2 _ _ _ rfl 1
        have f2_1 : wr.frozen? ⟨g4, 1, none⟩ = false := HS.out.free 2 _ _ _ rfl 1
        have c2_2 : wr.cell? ⟨g4, 2, none⟩ = some (.int .i64 0) := HS.out.cell 2 _ _ _ rfl 2
        have f2_2 : wr.frozen? ⟨g4, 2, none⟩ = false := HS.out.free 2 _ _ _ rfl 2
        have c3_0 : wr.cell? ⟨g2, 0, none⟩ = some (.slice (some ad) fst.length c) := HS.out.cell 3 _ _ _ rfl 0
        have f3_0 : wr.frozen? ⟨g2, 0, none⟩ = false := HS.out.free 3 _ _ _ rfl 0
        have c3_1 : wr.cell? ⟨g2, 1, none⟩ = some (.slice (some ad2) now.length c2) := HS.out.cell 3 _ _ _ rfl 1
        have f3_1 : wr.frozen? ⟨g2, 1, none⟩ = false := HS.out.free 3 _ _ _ rfl 1
        have c3_2 : wr.cell? ⟨g2, 2, none⟩ = some (.int .i64 m) := HS.out.cell 3 _ _ _ rfl 2
        have f3_2 : wr.frozen? ⟨g2, 2, none⟩ = false := HS.out.free 3 _ _ _ rfl 2
        have ne1_2 := HS.out.ne_blk 1 2 _ _ _ _ _ _ rfl rfl (by omega)
        have ne1_3 := HS.out.ne_blk 1 3 _ _ _ _ _ _ rfl rfl (by omega)
        have ne2_3 := HS.out.ne_blk 2 3 _ _ _ _ _ _ rfl rfl (by omega)
        go_wp2_with (first | ((with_reducible refine gate_dst (N := 47) rfl ?_); refine Sl.append_st (Kd.int .u32) (flat_int .u32) HS.out 0 (.slice A1 ys.length c1) (ys) 39 rfl (by rfl) (.tmp 44) (.tmp 46) 36 (.int .u32 0) 4 rfl Try.underlying36 (by kernel_rfl) rfl (by decide) (by decide) (x0) [.int .u32 (x0)] rfl rfl ?hp ?hb ?_; (case hp => first | rfl | exact k39_mk _ _); (case hb => omega); intro v1_ w21_ HSn; obtain ⟨A9_, c9_, hv2_, _⟩ := HSn.rowC 0 rfl; subst hv2_; replace HS : Hid (St [SL.row (Kd.int .u32) 39 (.slice A9_ (ys ++ [x0]).length c9_) (ys ++ [x0]), SL.blk g5 52 #[.slice (some ad) fst.length c, .slice A1 ys.length c1, .int .i64 m], SL.blk g4 52 #[.slice none 0 0, .slice none 0 0, .int .i64 0], SL.blk g2 52 #[.slice (some ad) fst.length c, .slice (some ad2) now.length c2, .int .i64 m]] w w21_) := Go.Lib.hid HSn; clear HSn; clear c1_0 f1_0 c1_1 f1_1 c1_2 f1_2 c2_0 f2_0 c2_1 f2_1 c2_2 f2_2 c3_0 f3_0 c3_1 f3_1 c3_2 f3_2 ne1_2 ne1_3 ne2_3; have c1_0 : w21_.cell? ⟨g5, 0, none⟩ = some (.slice (some ad) fst.length c) := HS.out.cell 1 _ _ _ rfl 0; have f1_0 : w21_.frozen? ⟨g5, 0, none⟩ = false := HS.out.free 1 _ _ _ rfl 0; have c1_1 : w21_.cell? ⟨g5, 1, none⟩ = some (.slice A1 ys.length c1) := HS.out.cell 1 _ _ _ rfl 1; have f1_1 : w21_.frozen? ⟨g5, 1, none⟩ = false := HS.out.free 1 _ _ _ rfl 1; have c1_2 : w21_.cell? ⟨g5, 2, none⟩ = some (.int .i64 m) := HS.out.cell 1 _ _ _ rfl 2; have f1_2 : w21_.frozen? ⟨g5, 2, none⟩ = false := HS.out.free 1 _ _ _ rfl 2; have c2_0 : w21_.cell? ⟨g4, 0, none⟩ = some (.slice none 0 0) := HS.out.cell 2 _ _ _ rfl 0; have f2_0 : w21_.frozen? ⟨g4, 0, none⟩ = false := HS.out.free 2 _ _ _ rfl 0; have c2_1 : w21_.cell? ⟨g4, 1, none⟩ = some (.slice none 0 0) := HS.out.cell 2 _ _ _ rfl 1; have f2_1 : w21_.frozen? ⟨g4, 1, none⟩ = false := HS.out.free 2 _ _ _ rfl 1; have c2_2 : w21_.cell? ⟨g4, 2, none⟩ = some (.int .i64 0) := HS.out.cell 2 _ _ _ rfl 2; have f2_2 : w21_.frozen? ⟨g4, 2, none⟩ = false := HS.out.free 2 _ _ _ rfl 2; have c3_0 : w21_.cell? ⟨g2, 0, none⟩ = some (.slice (some ad) fst.length c) := HS.out.cell 3 _ _ _ rfl 0; have f3_0 : w21_.frozen? ⟨g2, 0, none⟩ = false := HS.out.free 3 _ _ _ rfl 0; have c3_1 : w21_.cell? ⟨g2, 1, none⟩ = some (.slice (some ad2) now.length c2) := HS.out.cell 3 _ _ _ rfl 1; have f3_1 : w21_.frozen? ⟨g2, 1, none⟩ = false := HS.out.free 3 _ _ _ rfl 1; have c3_2 : w21_.cell? ⟨g2, 2, none⟩ = some (.int .i64 m) := HS.out.cell 3 _ _ _ rfl 2; have f3_2 : w21_.frozen? ⟨g2, 2, none⟩ = false := HS.out.free 3 _ _ _ rfl 2; have ne1_2 := HS.out.ne_blk 1 2 _ _ _ _ _ _ rfl rfl (by omega); have ne1_3 := HS.out.ne_blk 1 3 _ _ _ _ _ _ rfl rfl (by omega); have ne2_3 := HS.out.ne_blk 2 3 _ _ _ _ _ _ rfl rfl (by omega)) | ((with_reducible refine gate_store (p := 48) rfl ?_); refine Sl.store_st HS.out 1 g5 52 _ rfl 1 ((.slice A9_ (ys ++ [x0]).length c9_)) (by rfl) (by rfl) ?hr ?_; (case hr => first | (go_simp; done) | (go_simp; rfl)); intro w22_ HSn; replace HS : Hid (St [SL.row (Kd.int .u32) 39 (.slice A9_ (ys ++ [x0]).length c9_) (ys ++ [x0]), SL.blk g5 52 #[.slice (some ad) fst.length c, (.slice A9_ (ys ++ [x0]).length c9_), .int .i64 m], SL.blk g4 52 #[.slice none 0 0, .slice none 0 0, .int .i64 0], SL.blk g2 52 #[.slice (some ad) fst.length c, .slice (some ad2) now.length c2, .int .i64 m]] w w22_) := Go.Lib.hid HSn; clear HSn; clear c1_0 f1_0 c1_1 f1_1 c1_2 f1_2 c2_0 f2_0 c2_1 f2_1 c2_2 f2_2 c3_0 f3_0 c3_1 f3_1 c3_2 f3_2 ne1_2 ne1_3 ne2_3; have c1_0 : w22_.cell? ⟨g5, 0, none⟩ = some (.slice (some ad) fst.length c) := HS.out.cell 1 _ _ _ rfl 0; have f1_0 : w22_.frozen? ⟨g5, 0, none⟩ = false := HS.out.free 1 _ _ _ rfl 0; have c1_1 : w22_.cell? ⟨g5, 1, none⟩ = some ((.slice A9_ (ys ++ [x0]).length c9_)) := HS.out.cell 1 _ _ _ rfl 1; have f1_1 : w22_.frozen? ⟨g5, 1, none⟩ = false := HS.out.free 1 _ _ _ rfl 1; have c1_2 : w22_.cell? ⟨g5, 2, none⟩ = some (.int .i64 m) := HS.out.cell 1 _ _ _ rfl 2; have f1_2 : w22_.frozen? ⟨g5, 2, none⟩ = false := HS.out.free 1 _ _ _ rfl 2; have c2_0 : w22_.cell? ⟨g4, 0, none⟩ = some (.slice none 0 0) := HS.out.cell 2 _ _ _ rfl 0; have f2_0 : w22_.frozen? ⟨g4, 0, none⟩ = false := HS.out.free 2 _ _ _ rfl 0; have c2_1 : w22_.cell? ⟨g4, 1, none⟩ = some (.slice none 0 0) := HS.out.cell 2 _ _ _ rfl 1; have f2_1 : w22_.frozen? ⟨g4, 1, none⟩ = false := HS.out.free 2 _ _ _ rfl 1; have c2_2 : w22_.cell? ⟨g4, 2, none⟩ = some (.int .i64 0) := HS.out.cell 2 _ _ _ rfl 2; have f2_2 : w22_.frozen? ⟨g4, 2, none⟩ = false := HS.out.free 2 _ _ _ rfl 2; have c3_0 : w22_.cell? ⟨g2, 0, none⟩ = some (.slice (some ad) fst.length c) := HS.out.cell 3 _ _ _ rfl 0; have f3_0 : w22_.frozen? ⟨g2, 0, none⟩ = false := HS.out.free 3 _ _ _ rfl 0; have c3_1 : w22_.cell? ⟨g2, 1, none⟩ = some (.slice (some ad2) now.length c2) := HS.out.cell 3 _ _ _ rfl 1; have f3_1 : w22_.frozen? ⟨g2, 1, none⟩ = false := HS.out.free 3 _ _ _ rfl 1; have c3_2 : w22_.cell? ⟨g2, 2, none⟩ = some (.int .i64 m) := HS.out.cell 3 _ _ _ rfl 2; have f3_2 : w22_.frozen? ⟨g2, 2, none⟩ = false := HS.out.free 3 _ _ _ rfl 2; have ne1_2 := HS.out.ne_blk 1 2 _ _ _ _ _ _ rfl rfl (by omega); have ne1_3 := HS.out.ne_blk 1 3 _ _ _ _ _ _ rfl rfl (by omega); have ne2_3 := HS.out.ne_blk 2 3 _ _ _ _ _ _ rfl rfl (by omega)))
        go_roundw
        case rel => exact ⟨k + 1, _, _, by omega, by go_num, by rw [List.take_succ_eq_append_getElem (by omega), ← HY.out, HB.out], HS.out⟩
        case measure => simp [intOf]; omega
    · obtain rfl : k = fst.length := by omega
      have HYL := Go.Lib.hid hyl
      have HS := Go.Lib.hid hS
      clear hS hyl
      have c1_0 : wr.cell? ⟨g5, 0, none⟩ = some (.slice A fst.length c) := HS.out.cell 1 _ _ _ rfl 0
      have f1_0 : wr.frozen? ⟨g5, 0, none⟩ = false := HS.out.free 1 _ _ _ rfl 0
      have c1_1 : wr.cell? ⟨g5, 1, none⟩ = some (.slice A1 ys.length c1) := HS.out.cell 1 _ _ _ rfl 1
      have f1_1 : wr.frozen? ⟨g5, 1, none⟩ = false := HS.out.free 1 _ _ _ rfl 1
      have c1_2 : wr.cell? ⟨g5, 2, none⟩ = some (.int .i64 m) := HS.out.cell 1 _ _ _ rfl 2
      have f1_2 : wr.frozen? ⟨g5, 2, none⟩ = false := HS.out.free 1 _ _ _ rfl 2
      have c2_0 : wr.cell? ⟨g4, 0, none⟩ = some (.slice none 0 0) := HS.out.cell 2 _ _ _ rfl 0
      have f2_0 : wr.frozen? ⟨g4, 0, none⟩ = false := HS.out.free 2 _ _ _ rfl 0
      have c2_1 : wr.cell? ⟨g4, 1, none⟩ = some (.slice none 0 0) := HS.out.cell 2 _ _ _ rfl 1
      have f2_1 : wr.frozen? ⟨g4, 1, none⟩ = false := HS.out.free 2 _ _ _ rfl 1
      have c2_2 : wr.cell? ⟨g4, 2, none⟩ = some (.int .i64 0) := HS.out.cell 2 _ _ _ rfl 2
      have f2_2 : wr.frozen? ⟨g4, 2, none⟩ = false := HS.out.free 2 _ _ _ rfl 2
      have c3_0 : wr.cell? ⟨g2, 0, none⟩ = some (.slice A fst.length c) := HS.out.cell 3 _ _ _ rfl 0
      have f3_0 : wr.frozen? ⟨g2, 0, none⟩ = false := HS.out.free 3 _ _ _ rfl 0
      have c3_1 : wr.cell? ⟨g2, 1, none⟩ = some (.slice A2 now.length c2) := HS.out.cell 3 _ _ _ rfl 1
      have f3_1 : wr.frozen? ⟨g2, 1, none⟩ = false := HS.out.free 3 _ _ _ rfl 1
      have c3_2 : wr.cell? ⟨g2, 2, none⟩ = some (.int .i64 m) := HS.out.cell 3 _ _ _ rfl 2
      have f3_2 : wr.frozen? ⟨g2, 2, none⟩ = false := HS.out.free 3 _ _ _ rfl 2
      have ne1_2 := HS.out.ne_blk 1 2 _ _ _ _ _ _ rfl rfl (by omega)
      have ne1_3 := HS.out.ne_blk 1 3 _ _ _ _ _ _ rfl rfl (by omega)
      have ne2_3 := HS.out.ne_blk 2 3 _ _ _ _ _ _ rfl rfl (by omega)
      go_wp2_with (first | ((with_reducible refine gate_store (p := 4) rfl ?_); refine Sl.storeAll_st HS.out 2 g4 52 _ rfl [.slice A fst.length c, .slice A1 ys.length c1, .int .i64 m] rfl (by rfl) (by rfl) ?hr ?_; (case hr => first | (go_simp; done) | (go_simp; rfl)); intro w21_ HSn; replace HS : Hid (St [SL.row (Kd.int .u32) 39 (.slice A1 ys.length c1) (ys), SL.blk g5 52 #[.slice A fst.length c, .slice A1 ys.length c1, .int .i64 m], SL.blk g4 52 #[.slice A fst.length c, .slice A1 ys.length c1, .int .i64 m], SL.blk g2 52 #[.slice A fst.length c, .slice A2 now.length c2, .int .i64 m]] w w21_) := Go.Lib.hid HSn; clear HSn; clear c1_0 f1_0 c1_1 f1_1 c1_2 f1_2 c2_0 f2_0 c2_1 f2_1 c2_2 f2_2 c3_0 f3_0 c3_1 f3_1 c3_2 f3_2 ne1_2 ne1_3 ne2_3; have c1_0 : w21_.cell? ⟨g5, 0, none⟩ = some (.slice A fst.length c) := HS.out.cell 1 _ _ _ rfl 0; have f1_0 : w21_.frozen? ⟨g5, 0, none⟩ = false := HS.out.free 1 _ _ _ rfl 0; have c1_1 : w21_.cell? ⟨g5, 1, none⟩ = some (.slice A1 ys.length c1) := HS.out.cell 1 _ _ _ rfl 1; have f1_1 : w21_.frozen? ⟨g5, 1, none⟩ = false := HS.out.free 1 _ _ _ rfl 1; have c1_2 : w21_.cell? ⟨g5, 2, none⟩ = some (.int .i64 m) := HS.out.cell 1 _ _ _ rfl 2; have f1_2 : w21_.frozen? ⟨g5, 2, none⟩ = false := HS.out.free 1 _ _ _ rfl 2; have c2_0 : w21_.cell? ⟨g4, 0, none⟩ = some (.slice A fst.length c) := HS.out.cell 2 _ _ _ rfl 0; have f2_0 : w21_.frozen? ⟨g4, 0, none⟩ = false := HS.out.free 2 _ _ _ rfl 0; have c2_1 : w21_.cell? ⟨g4, 1, none⟩ = some (.slice A1 ys.length c1) := HS.out.cell 2 _ _ _ rfl 1; have f2_1 : w21_.frozen? ⟨g4, 1, none⟩ = false := HS.out.free 2 _ _ _ rfl 1; have c2_2 : w21_.cell? ⟨g4, 2, none⟩ = some (.int .i64 m) := HS.out.cell 2 _ _ _ rfl 2; have f2_2 : w21_.frozen? ⟨g4, 2, none⟩ = false := HS.out.free 2 _ _ _ rfl 2; have c3_0 : w21_.cell? ⟨g2, 0, none⟩ = some (.slice A fst.length c) := HS.out.cell 3 _ _ _ rfl 0; have f3_0 : w21_.frozen? ⟨g2, 0, none⟩ = false := HS.out.free 3 _ _ _ rfl 0; have c3_1 : w21_.cell? ⟨g2, 1, none⟩ = some (.slice A2 now.length c2) := HS.out.cell 3 _ _ _ rfl 1; have f3_1 : w21_.frozen? ⟨g2, 1, none⟩ = false := HS.out.free 3 _ _ _ rfl 1; have c3_2 : w21_.cell? ⟨g2, 2, none⟩ = some (.int .i64 m) := HS.out.cell 3 _ _ _ rfl 2; have f3_2 : w21_.frozen? ⟨g2, 2, none⟩ = false := HS.out.free 3 _ _ _ rfl 2; have ne1_2 := HS.out.ne_blk 1 2 _ _ _ _ _ _ rfl rfl (by omega); have ne1_3 := HS.out.ne_blk 1 3 _ _ _ _ _ _ rfl rfl (by omega); have ne2_3 := HS.out.ne_blk 2 3 _ _ _ _ _ _ rfl rfl (by omega)))
      have h1 := ((HS.out.erase 3).erase 2).erase 1
      have e1 : ys = bs := by rw [HY.out, List.take_of_length_le (by rw [HBL.out, HL.out]; omega)]
      have H1 := Go.Lib.hid h1
      have E1 := Go.Lib.hid e1
      clear h1 e1
      refine bodyPost_ret (v := .agg #[.slice A fst.length c, .slice A1 ys.length c1, .int .i64 m]) (by simp [results, Try.results34, go_sem, c2_0, c2_1, c2_2]) rfl ⟨_, rfl, ?_⟩
      have h1 := H1.out
      rw [E1.out] at h1 ⊢
      exact h1
end Go.Proofs.Ytkmhgolohppliaa.Rfc
