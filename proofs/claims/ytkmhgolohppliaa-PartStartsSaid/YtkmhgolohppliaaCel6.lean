/- Cells: awake, walked. -/
import Derived.Test.YtkmhgolohppliaaCel5
namespace Go.Proofs.Ytkmhgolohppliaa.Cel
open Go.RowKit Go.Proofs.Ytkmhgolohppliaa.PCellsPlays Go.Proofs.YtkmhgolohppliaaW.PrintWords Go.Proofs.YtkmhgolohppliaaW.PrintLast Go.Proofs.YtkmhgolohppliaaW.PrintMore Go.Proofs.Ytkmhgolohppliaa.Mine
set_option linter.unusedVariables false
set_option linter.unusedSimpArgs false
attribute [local go_sem] max2_int min2_int max_two min_two max_three min_three max_four min_four

variable {w : World} {base g : Nat} {v1 v2 : Value} {fst : List S43} {now : List Int} {wr : Int}

theorem lit2 (w : World) : k43.C (w.alloc (.cells #[.int .u32 1, .bool true, .int .u32 2, .bool false] 43)) (some ⟨w.heap.size, 0, none⟩) 2 [⟨1, true⟩, ⟨2, false⟩] := by
  have h := OwnRow.lit (R := k43.K (w.alloc (.cells #[.int .u32 1, .bool true, .int .u32 2, .bool false] 43))) (size := 2) (e := 43) (ps := [(⟨1, true⟩ : S43), ⟨2, false⟩]) w w.heap.size
    (inner := [.int .u32 1, .bool true, .int .u32 2, .bool false]) ⟨rfl, fun j p hj => by
      match j, hj with
      | 0, hj => obtain rfl : (⟨1, true⟩ : S43) = p := by simpa using hj
                 exact k43_mk _ _
      | 1, hj => obtain rfl : (⟨2, false⟩ : S43) = p := by simpa using hj
                 exact k43_mk _ _
      | j + 2, hj => simp at hj⟩ (Nat.le_refl _) (by decide)
  obtain ⟨A, c, he, _, hC⟩ := h.reads
  injection he with he _ _
  subst he
  exact hC
/-- A row of two numbers, read. -/
theorem row_at {W : World} {B : Nat} {ok : Nat → Prop} {v : Value} {xs : List Int} (h : (Kd.int .u32).R 39 W B ok v xs) (hp : 0 < xs.length) :
    ∃ b cap, v = .slice (some ⟨b, 0, none⟩) xs.length cap ∧ ∀ i : Nat, i < xs.length → W.cell? ⟨b, i, none⟩ = some (.int .u32 (rd xs i)) := by
  have ho := Kd.own_of_R h
  obtain ⟨b, cap, rfl, _, _⟩ := ho.form hp
  exact ⟨b, cap, rfl, fun i hi => (own_at_of (d := (0 : Int)) ho (i : Int) (by omega) (by simpa using hi)).1⟩

set_option maxHeartbeats 1600000 in
set_option maxRecDepth 100000 in
theorem awake_calls (w : World) : Calls Try.prog 22 #[] w fun e w' => e = .returned (.bool true) ∧ Below w.heap.size w w' := by
  go_enter Try.func22, Try.ntmps22
  go_wp2_with fail
  refine (new_calls (fst := [⟨1, true⟩, ⟨2, false⟩]) _ 2 (lit2 w) (by decide)).mono ?_
  rintro e w1 ⟨g, v1, v2, rfl, hI1, hB1⟩
  have hb : Below w.heap.size w w1 := Below.chg (below_alloc (Below.refl _ _) _) (Chg.of_below (S := fun _ => False) hB1) (fun _ h => False.elim h) (by simp)
  have HI := Go.Lib.hid hI1
  have HW := Go.Lib.hid hb
  have HG := Go.Lib.hid (show ∀ i, All g v1 v2 i → w.heap.size ≤ i from fun i hi => by have := hI1.ge i hi; simp at this; omega)
  clear hI1 hB1 hb
  go_wp2_with fail
  refine (set_yes HI.out 0 9 (by rfl) (by decide) (by decide)).mono ?_
  rintro e w2 ⟨rfl, hI, hC⟩
  replace HI := Go.Lib.hid hI
  replace HW := Go.Lib.hid (Below.chg HW.out hC (fun i hi => HG.out i hi.all) HW.out.size)
  clear hI hC
  go_wp2_with fail
  refine (set_yes HI.out 1 9 (by rfl) (by decide) (by decide)).mono ?_
  rintro e w3 ⟨rfl, hI, hC⟩
  replace HI := Go.Lib.hid hI
  replace HW := Go.Lib.hid (Below.chg HW.out hC (fun i hi => HG.out i hi.all) HW.out.size)
  clear hI hC
  go_wp2_with fail
  refine (warm_calls HI.out (by decide)).mono ?_
  rintro e w4 ⟨rfl, hI, hC⟩
  replace HI := Go.Lib.hid hI
  replace HW := Go.Lib.hid (Below.chg HW.out hC (fun i hi => HG.out i hi.all) HW.out.size)
  clear hI hC
  go_wp2_with fail
  refine (all_calls HI.out (by decide)).mono ?_
  rintro e w5 ⟨v, rfl, hR, hB⟩
  replace HW := Go.Lib.hid (Below.chg HW.out (Chg.of_below (S := fun _ => False) hB) (fun _ h => False.elim h) HW.out.size)
  replace hR : (Kd.int .u32).R 39 w5 w4.heap.size (fun _ => True) v [9, 2] := hR
  obtain ⟨b, cap, rfl, hat⟩ := row_at hR (by decide)
  have h0 : w5.cell? ⟨b, 0, none⟩ = some (.int .u32 9) := hat 0 (by decide)
  have h1 : w5.cell? ⟨b, 1, none⟩ = some (.int .u32 2) := hat 1 (by decide)
  clear hR hB hat HI HG
  go_wp2_with fail
  go_ret
  exact ⟨rfl, HW.out⟩
end Go.Proofs.Ytkmhgolohppliaa.Cel
