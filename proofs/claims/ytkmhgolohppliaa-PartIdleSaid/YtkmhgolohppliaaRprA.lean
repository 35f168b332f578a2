/- RprA: texts of one matter, laid together. -/
import Derived.Test.YtkmhgolohppliaaPrtA
/-! The document's partition: what each of its functions comes to. -/
namespace Go.Proofs.Ytkmhgolohppliaa.Prt
open Go.RowKit Go.Proofs.Ytkmhgolohppliaa.PCellsPlays Go.Proofs.YtkmhgolohppliaaW.PrintWords Go.Proofs.YtkmhgolohppliaaW.PrintLast Go.Proofs.YtkmhgolohppliaaW.PrintMore Go.Proofs.Ytkmhgolohppliaa.Mine Go.Proofs.Ytkmhgolohppliaa.Cel Go.Proofs.Ytkmhgolohppliaa.Cls
open Go.Proofs.Ytkmhgolohppliaa.Sl (SL Stp St No)
open Go.Proofs.Ytkmhgolohppliaa.Mod (strt actM runs right askd)
set_option linter.unusedVariables false
set_option linter.unusedSimpArgs false
attribute [local go_sem] max2_int min2_int max_two min_two max_three min_three max_four min_four
variable {l : List SL} {w0 w : World} {g : Nat} {id : Int} {name : ByteArray} {may : Bool} {fst : List S43} {s : PS}
variable {now : List Int} {A : Option Addr} {c : Nat} {A2 : Option Addr} {c2 : Nat}
/-! ### countwheelref19_Act: function 123 -/
mutual
def countwheelref19_Act.j0 : Nat → Int → Int → Bool → Option (Int × Int × Int)
  | 0, _, _, _ => none
  | k + 1, x0, x1, x12 => if x12 = true then (some (x0, 0, 3)) else (if x1 = 0 then (countwheelref19_Act.j1 k x0 x1 true) else (if x0 < 1 then (countwheelref19_Act.j1 k x0 x1 true) else (countwheelref19_Act.j1 k x0 x1 (decide (x0 > 3)))))
def countwheelref19_Act.j1 : Nat → Int → Int → Bool → Option (Int × Int × Int)
  | 0, _, _, _ => none
  | k + 1, x0, x1, x23 => if x23 = true then (some (x0, 0, 0)) else (if x1 = 1 then (some (2, 1, 0)) else (some (1, 2, 0)))
end
def countwheelref19_Act.f (k : Nat) (a0 : Int) (a1 : Int) : Option (Int × Int × Int) := if a1 < 0 then (countwheelref19_Act.j0 k a0 a1 true) else (countwheelref19_Act.j0 k a0 a1 (decide (a1 > 2)))
theorem countwheelref19_Act.mono_l : ∀ k, (∀ y0 y1 y2, LeO (countwheelref19_Act.j0 k y0 y1 y2) (countwheelref19_Act.j0 (k + 1) y0 y1 y2)) ∧ (∀ y0 y1 y2, LeO (countwheelref19_Act.j1 k y0 y1 y2) (countwheelref19_Act.j1 (k + 1) y0 y1 y2))
  | 0 => ⟨fun _ _ _ r h => by simp [countwheelref19_Act.j0] at h, fun _ _ _ r h => by simp [countwheelref19_Act.j1] at h⟩
  | k + 1 => by
    obtain ⟨ih0, ih1⟩ := countwheelref19_Act.mono_l k
    refine ⟨?_, ?_⟩
    · intro y0 y1 y2
      unfold countwheelref19_Act.j0
      repeat' first
      | (with_reducible exact ih0 _ _ _)
      | (with_reducible exact ih1 _ _ _)
      | (with_reducible exact LeO.refl _)
      | (with_reducible exact LeO.none _)
      | (with_reducible refine LeO.ite ?_ ?_)
      | (with_reducible refine LeO.bind ?_ (fun _ => ?_))
      | exact ih0 _ _ _
      | exact ih1 _ _ _
      | exact LeO.none _
      | refine LeO.ite ?_ ?_
      | refine LeO.bind ?_ (fun _ => ?_)
    · intro y0 y1 y2
      unfold countwheelref19_Act.j1
      repeat' first
      | (with_reducible exact ih0 _ _ _)
      | (with_reducible exact ih1 _ _ _)
      | (with_reducible exact LeO.refl _)
      | (with_reducible exact LeO.none _)
      | (with_reducible refine LeO.ite ?_ ?_)
      | (with_reducible refine LeO.bind ?_ (fun _ => ?_))
      | exact ih0 _ _ _
      | exact ih1 _ _ _
      | exact LeO.none _
      | refine LeO.ite ?_ ?_
      | refine LeO.bind ?_ (fun _ => ?_)
theorem countwheelref19_Act.mono : ∀ a0 a1 k, LeO (countwheelref19_Act.f k a0 a1) (countwheelref19_Act.f (k + 1) a0 a1) := by
  intro a0 a1 k
  obtain ⟨ih0, ih1⟩ := countwheelref19_Act.mono_l k
  unfold countwheelref19_Act.f
  repeat' first
      | (with_reducible exact ih0 _ _ _)
      | (with_reducible exact ih1 _ _ _)
      | (with_reducible exact LeO.refl _)
      | (with_reducible exact LeO.none _)
      | (with_reducible refine LeO.ite ?_ ?_)
      | (with_reducible refine LeO.bind ?_ (fun _ => ?_))
      | exact ih0 _ _ _
      | exact ih1 _ _ _
      | exact LeO.none _
      | refine LeO.ite ?_ ?_
      | refine LeO.bind ?_ (fun _ => ?_)
set_option maxHeartbeats 8000000 in
set_option maxRecDepth 100000 in
theorem countwheelref19_Act.calls (k : Nat) (a0 : Int) (a1 : Int) (r1 : Int) (r2 : Int) (r3 : Int) (w : World) (h : countwheelref19_Act.f k a0 a1 = some (r1, r2, r3)) :
    Calls Try.prog 123 #[.int .i64 a0, .int .i64 a1] w fun e w' => e = .returned (.tuple #[.int .i64 r1, .int .i64 r2, .int .i64 r3]) ∧ Drawn0 w w' := by
  have H : (if a1 < 0 then (countwheelref19_Act.j0 k a0 a1 true) else (countwheelref19_Act.j0 k a0 a1 (decide (a1 > 2)))) = some (r1, r2, r3) := h
  clear h
  have HC3 := Aside0.mk H
  clear H
  go_enter Try.func123, Try.ntmps123
  go_upto_region 1 with (fail)
  go_cut [12] (fun v12 wc => ∃ (kq : Nat) (x12_2 : Bool), v12 = .bool x12_2 ∧ Aside0 (countwheelref19_Act.j0 kq a0 a1 x12_2 = some (r1, r2, r3)) ∧ Aside0 (kq ≤ k) ∧ Drawn0 w wc)
  case first =>
    have H := HC3.out
    clear HC3
    by_cases c4 : a1 < 0
    · rw [if_pos c4] at H
      have c4b0 : decide (a1 < 0) = true := decide_eq_true c4
      clear c4
      (first | rw [c4b0] | (simp only [i64_w, i32_w]; rw [c4b0]) | skip)
      have H' := Aside0.mk H
      clear H
      go_wp2
      go_meet
      case rel => exact ⟨_, (true), (by first | rfl | (simp; done) | (simp [*]; done)), H', ⟨by first | omega | exact Nat.le_refl _⟩, by repeat (first | exact Drawn0.refl _ | apply Drawn0.step)⟩
    · rw [if_neg c4] at H
      have c4b0 : decide (a1 < 0) = false := decide_eq_false c4
      clear c4
      (first | rw [c4b0] | (simp only [i64_w, i32_w]; rw [c4b0]) | skip)
      have H' := Aside0.mk H
      clear H
      go_wp2
      go_meet
      case rel => exact ⟨_, (decide (a1 > 2)), (by first | rfl | (simp; done) | (simp [*]; done)), H', ⟨by first | omega | exact Nat.le_refl _⟩, by repeat (first | exact Drawn0.refl _ | apply Drawn0.step)⟩
  case rest =>
    clear HC3
    try clear c1
    try clear p2
    try clear c4
    try clear c4b0
    obtain ⟨kq, x12_2, rfl, HA, HJ2, ⟨mc2, rfl⟩⟩ := hcut
    cases kq with
    | zero => exact absurd HA.out (by simp [countwheelref19_Act.j0])
    | succ kj2 =>
      have H := HA.out
      clear HA
      simp only [countwheelref19_Act.j0] at H
      by_cases c5 : x12_2 = true
      · subst c5
        have H1 : (some (a0, 0, 3)) = some (r1, r2, r3) := by rw [if_pos rfl] at H; exact H
        clear H
        have H := H1
        clear H1
        simp only [Option.some.injEq, Prod.mk.injEq] at H
        obtain ⟨rfl, rfl, rfl⟩ := H
        go_wp2
        go_ret3
        exact ⟨by first | rfl | (simp; done) | (simp [*]; done), by repeat (first | exact Drawn0.refl _ | apply Drawn0.step)⟩
      · replace c5 := Bool.eq_false_iff.mpr c5
        subst c5
        have H1 : (if a1 = 0 then (countwheelref19_Act.j1 kj2 a0 a1 true) else (if a0 < 1 then (countwheelref19_Act.j1 kj2 a0 a1 true) else (countwheelref19_Act.j1 kj2 a0 a1 (decide (a0 > 3))))) = some (r1, r2, r3) := by rw [if_neg (show ¬ (false = true) by decide)] at H; exact H
        clear H
        have H := H1
        clear H1
        have HC6 := Aside0.mk H
        clear H
        go_upto_region 3 with (fail)
        go_cut [23] (fun v23 wc => ∃ (kq : Nat) (x23_5 : Bool), v23 = .bool x23_5 ∧ Aside0 (countwheelref19_Act.j1 kq a0 a1 x23_5 = some (r1, r2, r3)) ∧ Aside0 (kq ≤ kj2) ∧ Drawn0 w wc)
        case first =>
          have H := HC6.out
          clear HC6
          by_cases c7 : a1 = 0
          · rw [if_pos c7] at H
            have c7b0 : (a1 == 0) = true := beq_iff_eq.mpr c7
            have c7b1 : (a1 != 0) = false := bne_eq_false_iff_eq.mpr c7
            clear c7
            (first | rw [c7b0] | (simp only [i64_w, i32_w]; rw [c7b0]) | skip)
            have H' := Aside0.mk H
            clear H
            go_wp2
            go_meet
            case rel => exact ⟨_, (true), (by first | rfl | (simp; done) | (simp [*]; done)), H', ⟨by have := HJ2.out; first | omega | exact Nat.le_refl _⟩, by repeat (first | exact Drawn0.refl _ | apply Drawn0.step)⟩
          · rw [if_neg c7] at H
            have c7b0 : (a1 == 0) = false := beq_eq_false_iff_ne.mpr c7
            have c7b1 : (a1 != 0) = true := bne_iff_ne.mpr c7
            (first | rw [c7b0] | (simp only [i64_w, i32_w]; rw [c7b0]) | skip)
            by_cases c8 : a0 < 1
            · rw [if_pos c8] at H
              have c8b0 : decide (a0 < 1) = true := decide_eq_true c8
              clear c8
              have H' := Aside0.mk H
              clear H
              go_wp2
              go_meet
              case rel => exact ⟨_, (true), (by first | rfl | (simp; done) | (simp [*]; done)), H', ⟨by have := HJ2.out; first | omega | exact Nat.le_refl _⟩, by repeat (first | exact Drawn0.refl _ | apply Drawn0.step)⟩
            · rw [if_neg c8] at H
              have c8b0 : decide (a0 < 1) = false := decide_eq_false c8
              clear c8
              have H' := Aside0.mk H
              clear H
              go_wp2
              go_meet
              case rel => exact ⟨_, (decide (a0 > 3)), (by first | rfl | (simp; done) | (simp [*]; done)), H', ⟨by have := HJ2.out; first | omega | exact Nat.le_refl _⟩, by repeat (first | exact Drawn0.refl _ | apply Drawn0.step)⟩
        case rest =>
          clear HC6
          try clear c1
          try clear c2
          try clear p2
          try clear c4
          try clear c4b0
          try clear c5
          try clear c7
          try clear c7b0
          try clear c7b1
          try clear c8
          try clear c8b0
          try clear p2
          obtain ⟨kq, x23_5, rfl, HA, HJ5, ⟨mc5, rfl⟩⟩ := hcut
          cases kq with
          | zero => exact absurd HA.out (by simp [countwheelref19_Act.j1])
          | succ kj5 =>
            have H := HA.out
            clear HA
            simp only [countwheelref19_Act.j1] at H
            by_cases c9 : x23_5 = true
            · subst c9
              have H1 : (some (a0, 0, 0)) = some (r1, r2, r3) := by rw [if_pos rfl] at H; exact H
              clear H
              have H := H1
              clear H1
              simp only [Option.some.injEq, Prod.mk.injEq] at H
              obtain ⟨rfl, rfl, rfl⟩ := H
              go_wp2
              go_ret3
              exact ⟨by first | rfl | (simp; done) | (simp [*]; done), by repeat (first | exact Drawn0.refl _ | apply Drawn0.step)⟩
            · replace c9 := Bool.eq_false_iff.mpr c9
              subst c9
              have H1 : (if a1 = 1 then (some (2, 1, 0)) else (some (1, 2, 0))) = some (r1, r2, r3) := by rw [if_neg (show ¬ (false = true) by decide)] at H; exact H
              clear H
              have H := H1
              clear H1
              by_cases c10 : a1 = 1
              · rw [if_pos c10] at H
                have c10b0 : (a1 == 1) = true := beq_iff_eq.mpr c10
                have c10b1 : (a1 != 1) = false := bne_eq_false_iff_eq.mpr c10
                clear c10
                simp only [Option.some.injEq, Prod.mk.injEq] at H
                obtain ⟨rfl, rfl, rfl⟩ := H
                go_wp2
                go_ret3
                exact ⟨by first | rfl | (simp; done) | (simp [*]; done), by repeat (first | exact Drawn0.refl _ | apply Drawn0.step)⟩
              · rw [if_neg c10] at H
                have c10b0 : (a1 == 1) = false := beq_eq_false_iff_ne.mpr c10
                have c10b1 : (a1 != 1) = true := bne_iff_ne.mpr c10
                simp only [Option.some.injEq, Prod.mk.injEq] at H
                obtain ⟨rfl, rfl, rfl⟩ := H
                go_wp2
                go_ret3
                exact ⟨by first | rfl | (simp; done) | (simp [*]; done), by repeat (first | exact Drawn0.refl _ | apply Drawn0.step)⟩

theorem ract_at (now a : Int) (hn : 0 ≤ now) (hn2 : now ≤ 3) : countwheelref19_Act.f 5 now a = some (actM now a) := by
  unfold countwheelref19_Act.f actM runs
  simp only [countwheelref19_Act.j0, countwheelref19_Act.j1]
  by_cases h0 : a < 0
  · rw [if_pos h0, if_pos trivial, if_neg (by omega), if_neg (by omega), if_neg (by omega)]
  · rw [if_neg h0]
    by_cases h2 : a > 2
    · rw [decide_eq_true h2, if_pos rfl, if_neg (by omega), if_neg (by omega), if_neg (by omega)]
    · rw [decide_eq_false h2]
      have ha : a = 0 ∨ a = 1 ∨ a = 2 := by omega
      have hm : now = 0 ∨ now = 1 ∨ now = 2 ∨ now = 3 := by omega
      rcases ha with rfl | rfl | rfl <;> rcases hm with rfl | rfl | rfl | rfl <;> rfl
theorem ract_st (h : St l w0 w) (now a : Int) (hn : 0 ≤ now) (hn2 : now ≤ 3) : Calls Try.prog 123 #[.int .i64 now, .int .i64 a] w fun e w' => e = .returned (.tuple #[.int .i64 (actM now a).1, .int .i64 (actM now a).2.1, .int .i64 (actM now a).2.2]) ∧ St l w0 w' :=
  (countwheelref19_Act.calls 5 now a _ _ _ w (ract_at now a hn hn2)).mono fun _ _ ⟨he, hd⟩ => ⟨he, h.drawn hd⟩
theorem rstart_cold (h : St l w0 w) (n : Nat) (A : Option Addr) (c : Nat) (A2 : Option Addr) (c2 : Nat) (hC : k43.C w A fst.length fst) (e : l[n]? = some (SL.row (Kd.int .u32) 39 (.slice A2 now.length c2) now)) (hl : now.length = fst.length) (hn : fst.length ≤ 1000) (m : Int) :
    Calls Try.prog 34 #[.agg #[.slice A fst.length c, .slice A2 now.length c2, .int .i64 m], .bool true] w fun e w' => ∃ A3 c3, e = .returned (.agg #[.slice A fst.length c, .slice A3 (fst.map (·.f0)).length c3, .int .i64 0]) ∧ St (l.set n (SL.row (Kd.int .u32) 39 (.slice A3 (fst.map (·.f0)).length c3) (fst.map (·.f0)))) w0 w' := by
  have h1 := rstart_st h n A c A2 c2 hC e hl hn m true
  rw [back_all fst now hl] at h1
  exact h1
theorem rmset_st (h : St l w0 w) (now want : Int) : Calls Try.prog 18 #[.int .i64 now, .int .i64 want] w fun e w' => e = .returned (.tuple #[.int .i64 (mset now want).1, .int .i64 (mset now want).2.1, .int .i64 (mset now want).2.2]) ∧ St l w0 w' :=
  (Go.Proofs.Ytkmhgolohppliaa.Mod.rset_calls now want w).mono fun _ _ ⟨he, hb⟩ => ⟨he, h.then_ hb⟩
set_option maxHeartbeats 1600000 in
set_option maxRecDepth 100000 in
theorem rstart_0 (h : St (SL.row (Kd.int .u32) 39 (.slice A2 (s).now.length c2) (s).now :: l) w0 w) (cause : Int) (hC : k43.C w0 A fst.length fst) (hl : s.now.length = fst.length) (hs0 : 0 ≤ s.starts) (hs1 : s.starts ≤ 1000000) (hn : fst.length ≤ 1000) :
    Calls Try.prog 112 #[.agg #[.int .i64 id, .string name, .bool may, .slice A fst.length c, .int .i64 (s).mode, .int .i64 (s).starts, .int .i64 (s).cause, .slice A fst.length c, .slice A2 (s).now.length c2, .int .i64 (s).wr], .int .i64 0, .int .i64 cause] w fun e w' => ∃ A3 c3, e = .returned (.agg #[.int .i64 id, .string name, .bool may, .slice A fst.length c, .int .i64 (PS.become fst s s.mode 0 cause).mode, .int .i64 (PS.become fst s s.mode 0 cause).starts, .int .i64 (PS.become fst s s.mode 0 cause).cause, .slice A fst.length c, .slice A3 (PS.become fst s s.mode 0 cause).now.length c3, .int .i64 (PS.become fst s s.mode 0 cause).wr]) ∧ St (SL.row (Kd.int .u32) 39 (.slice A3 (PS.become fst s s.mode 0 cause).now.length c3) (PS.become fst s s.mode 0 cause).now :: l) w0 w' := by
  obtain ⟨m0, s0, u0, now0, q0⟩ := s
  have HC := Go.Lib.hid hC
  have HL : Hid (now0.length = fst.length) := Go.Lib.hid hl
  have HS := Go.Lib.hid h
  have hs0' : 0 ≤ s0 := hs0
  have hs1' : s0 ≤ 1000000 := hs1
  clear hC hl h hs0 hs1
  go_enter Try.func112, Try.ntmps112
  go_wp2_with (first | ((with_reducible refine gate_dst (N := 3) rfl ?_); refine Sl.box_st HS.out (by rfl) (cs := #[.int .i64 id, .string name, .bool may, .slice A fst.length c, .int .i64 (m0), .int .i64 (s0), .int .i64 (u0), .slice A fst.length c, .slice A2 now0.length c2, .int .i64 (q0)]) (t := 76) ?hr ?_; (case hr => first | (go_simp; done) | (go_simp; rfl)); intro g3 w1_ HSn HBn; clear HBn; replace HS : Hid (St (SL.blk g3 76 #[.int .i64 id, .string name, .bool may, .slice A fst.length c, .int .i64 (m0), .int .i64 (s0), .int .i64 (u0), .slice A fst.length c, .slice A2 now0.length c2, .int .i64 (q0)] :: SL.row (Kd.int .u32) 39 (.slice A2 now0.length c2) now0 :: l) w0 w1_) := Go.Lib.hid HSn; clear HSn; obtain ⟨c0_0, c0_1, c0_2, c0_3, c0_4, c0_5, c0_6, c0_7, c0_8, c0_9⟩ := HS.out.c10 0 _ _ _ _ _ _ _ _ _ _ _ _ rfl) | ((with_reducible refine gate_dst (N := 6) rfl ?_); refine Sl.box_st HS.out (by rfl) (cs := #[.int .i64 0, .string ⟨#[]⟩, .bool false, .slice none 0 0, .int .i64 0, .int .i64 0, .int .i64 0, .slice none 0 0, .slice none 0 0, .int .i64 0]) (t := 76) ?hr ?_; (case hr => first | (go_simp; done) | (go_simp; rfl)); intro g6 w2_ HSn HBn; clear HBn; replace HS : Hid (St (SL.blk g6 76 #[.int .i64 0, .string ⟨#[]⟩, .bool false, .slice none 0 0, .int .i64 0, .int .i64 0, .int .i64 0, .slice none 0 0, .slice none 0 0, .int .i64 0] :: SL.blk g3 76 #[.int .i64 id, .string name, .bool may, .slice A fst.length c, .int .i64 (m0), .int .i64 (s0), .int .i64 (u0), .slice A fst.length c, .slice A2 now0.length c2, .int .i64 (q0)] :: SL.row (Kd.int .u32) 39 (.slice A2 now0.length c2) now0 :: l) w0 w2_) := Go.Lib.hid HSn; clear HSn; clear c0_0 c0_1 c0_2 c0_3 c0_4 c0_5 c0_6 c0_7 c0_8 c0_9; obtain ⟨c0_0, c0_1, c0_2, c0_3, c0_4, c0_5, c0_6, c0_7, c0_8, c0_9⟩ := HS.out.c10 0 _ _ _ _ _ _ _ _ _ _ _ _ rfl; obtain ⟨c1_0, c1_1, c1_2, c1_3, c1_4, c1_5, c1_6, c1_7, c1_8, c1_9⟩ := HS.out.c10 1 _ _ _ _ _ _ _ _ _ _ _ _ rfl) | ((with_reducible refine gate_store (p := 6) rfl ?_); refine Sl.storeAll_st HS.out 0 g6 76 _ rfl [.int .i64 id, .string name, .bool may, .slice A fst.length c, .int .i64 (m0), .int .i64 (s0), .int .i64 (u0), .slice A fst.length c, .slice A2 now0.length c2, .int .i64 (q0)] rfl (by rfl) (by rfl) ?hr ?_; (case hr => have f_ := HS.out.f10 0 _ _ _ _ _ _ _ _ _ _ _ _ rfl; (try obtain ⟨f0, f1, f2, f3, f4, f5, f6, f7, f8, f9⟩ := f_); first | (go_simp; done) | (go_simp; rfl)); intro w3_ HSn; replace HS : Hid (St (SL.blk g6 76 #[.int .i64 id, .string name, .bool may, .slice A fst.length c, .int .i64 (m0), .int .i64 (s0), .int .i64 (u0), .slice A fst.length c, .slice A2 now0.length c2, .int .i64 (q0)] :: SL.blk g3 76 #[.int .i64 id, .string name, .bool may, .slice A fst.length c, .int .i64 (m0), .int .i64 (s0), .int .i64 (u0), .slice A fst.length c, .slice A2 now0.length c2, .int .i64 (q0)] :: SL.row (Kd.int .u32) 39 (.slice A2 now0.length c2) now0 :: l) w0 w3_) := Go.Lib.hid HSn; clear HSn; clear c0_0 c0_1 c0_2 c0_3 c0_4 c0_5 c0_6 c0_7 c0_8 c0_9 c1_0 c1_1 c1_2 c1_3 c1_4 c1_5 c1_6 c1_7 c1_8 c1_9; obtain ⟨c0_0, c0_1, c0_2, c0_3, c0_4, c0_5, c0_6, c0_7, c0_8, c0_9⟩ := HS.out.c10 0 _ _ _ _ _ _ _ _ _ _ _ _ rfl; obtain ⟨c1_0, c1_1, c1_2, c1_3, c1_4, c1_5, c1_6, c1_7, c1_8, c1_9⟩ := HS.out.c10 1 _ _ _ _ _ _ _ _ _ _ _ _ rfl))
  exact bodyPost_ret (v := .agg #[.int .i64 id, .string name, .bool may, .slice A fst.length c, .int .i64 (m0), .int .i64 (s0), .int .i64 (u0), .slice A fst.length c, .slice A2 now0.length c2, .int .i64 (q0)]) (by simp [results, Try.results112, go_sem, c0_0, c0_1, c0_2, c0_3, c0_4, c0_5, c0_6, c0_7, c0_8, c0_9]) rfl ⟨_, _, rfl, HS.out.drop.drop⟩
set_option maxHeartbeats 1600000 in
set_option maxRecDepth 100000 in
theorem rstart_1 (h : St (SL.row (Kd.int .u32) 39 (.slice A2 (s).now.length c2) (s).now :: l) w0 w) (cause : Int) (hC : k43.C w0 A fst.length fst) (hl : s.now.length = fst.length) (hs0 : 0 ≤ s.starts) (hs1 : s.starts ≤ 1000000) (hn : fst.length ≤ 1000) :
    Calls Try.prog 112 #[.agg #[.int .i64 id, .string name, .bool may, .slice A fst.length c, .int .i64 (s).mode, .int .i64 (s).starts, .int .i64 (s).cause, .slice A fst.length c, .slice A2 (s).now.length c2, .int .i64 (s).wr], .int .i64 1, .int .i64 cause] w fun e w' => ∃ A3 c3, e = .returned (.agg #[.int .i64 id, .string name, .bool may, .slice A fst.length c, .int .i64 (PS.become fst s s.mode 1 cause).mode, .int .i64 (PS.become fst s s.mode 1 cause).starts, .int .i64 (PS.become fst s s.mode 1 cause).cause, .slice A fst.length c, .slice A3 (PS.become fst s s.mode 1 cause).now.length c3, .int .i64 (PS.become fst s s.mode 1 cause).wr]) ∧ St (SL.row (Kd.int .u32) 39 (.slice A3 (PS.become fst s s.mode 1 cause).now.length c3) (PS.become fst s s.mode 1 cause).now :: l) w0 w' := by
  obtain ⟨m0, s0, u0, now0, q0⟩ := s
  have HC := Go.Lib.hid hC
  have HL : Hid (now0.length = fst.length) := Go.Lib.hid hl
  have HS := Go.Lib.hid h
  have hs0' : 0 ≤ s0 := hs0
  have hs1' : s0 ≤ 1000000 := hs1
  clear hC hl h hs0 hs1
  go_enter Try.func112, Try.ntmps112
  go_wp2_with (first | ((with_reducible refine gate_dst (N := 3) rfl ?_); refine Sl.box_st HS.out (by rfl) (cs := #[.int .i64 id, .string name, .bool may, .slice A fst.length c, .int .i64 (m0), .int .i64 (s0), .int .i64 (u0), .slice A fst.length c, .slice A2 now0.length c2, .int .i64 (q0)]) (t := 76) ?hr ?_; (case hr => first | (go_simp; done) | (go_simp; rfl)); intro g3 w1_ HSn HBn; clear HBn; replace HS : Hid (St (SL.blk g3 76 #[.int .i64 id, .string name, .bool may, .slice A fst.length c, .int .i64 (m0), .int .i64 (s0), .int .i64 (u0), .slice A fst.length c, .slice A2 now0.length c2, .int .i64 (q0)] :: SL.row (Kd.int .u32) 39 (.slice A2 now0.length c2) now0 :: l) w0 w1_) := Go.Lib.hid HSn; clear HSn; obtain ⟨c0_0, c0_1, c0_2, c0_3, c0_4, c0_5, c0_6, c0_7, c0_8, c0_9⟩ := HS.out.c10 0 _ _ _ _ _ _ _ _ _ _ _ _ rfl) | ((with_reducible refine gate_dst (N := 6) rfl ?_); refine Sl.box_st HS.out (by rfl) (cs := #[.int .i64 0, .string ⟨#[]⟩, .bool false, .slice none 0 0, .int .i64 0, .int .i64 0, .int .i64 0, .slice none 0 0, .slice none 0 0, .int .i64 0]) (t := 76) ?hr ?_; (case hr => first | (go_simp; done) | (go_simp; rfl)); intro g6 w2_ HSn HBn; clear HBn; replace HS : Hid (St (SL.blk g6 76 #[.int .i64 0, .string ⟨#[]⟩, .bool false, .slice none 0 0, .int .i64 0, .int .i64 0, .int .i64 0, .slice none 0 0, .slice none 0 0, .int .i64 0] :: SL.blk g3 76 #[.int .i64 id, .string name, .bool may, .slice A fst.length c, .int .i64 (m0), .int .i64 (s0), .int .i64 (u0), .slice A fst.length c, .slice A2 now0.length c2, .int .i64 (q0)] :: SL.row (Kd.int .u32) 39 (.slice A2 now0.length c2) now0 :: l) w0 w2_) := Go.Lib.hid HSn; clear HSn; clear c0_0 c0_1 c0_2 c0_3 c0_4 c0_5 c0_6 c0_7 c0_8 c0_9; obtain ⟨c0_0, c0_1, c0_2, c0_3, c0_4, c0_5, c0_6, c0_7, c0_8, c0_9⟩ := HS.out.c10 0 _ _ _ _ _ _ _ _ _ _ _ _ rfl; obtain ⟨c1_0, c1_1, c1_2, c1_3, c1_4, c1_5, c1_6, c1_7, c1_8, c1_9⟩ := HS.out.c10 1 _ _ _ _ _ _ _ _ _ _ _ _ rfl) | (go_at_call 34; refine (rstart_st HS.out 2 A c A2 c2 (HS.out.C HC.out) rfl HL.out (by omega) q0 false).mono ?_; rintro e w3_ ⟨A3, c3, rfl, HSn⟩; replace HS : Hid (St (SL.blk g6 76 #[.int .i64 0, .string ⟨#[]⟩, .bool false, .slice none 0 0, .int .i64 0, .int .i64 0, .int .i64 0, .slice none 0 0, .slice none 0 0, .int .i64 0] :: SL.blk g3 76 #[.int .i64 id, .string name, .bool may, .slice A fst.length c, .int .i64 (m0), .int .i64 (s0), .int .i64 (u0), .slice A fst.length c, .slice A2 now0.length c2, .int .i64 (q0)] :: SL.row (Kd.int .u32) 39 (.slice A3 (back false fst now0 fst.length).length c3) (back false fst now0 fst.length) :: l) w0 w3_) := Go.Lib.hid HSn; clear HSn; clear c0_0 c0_1 c0_2 c0_3 c0_4 c0_5 c0_6 c0_7 c0_8 c0_9 c1_0 c1_1 c1_2 c1_3 c1_4 c1_5 c1_6 c1_7 c1_8 c1_9; obtain ⟨c0_0, c0_1, c0_2, c0_3, c0_4, c0_5, c0_6, c0_7, c0_8, c0_9⟩ := HS.out.c10 0 _ _ _ _ _ _ _ _ _ _ _ _ rfl; obtain ⟨c1_0, c1_1, c1_2, c1_3, c1_4, c1_5, c1_6, c1_7, c1_8, c1_9⟩ := HS.out.c10 1 _ _ _ _ _ _ _ _ _ _ _ _ rfl) | ((with_reducible refine gate_store (p := 15) rfl ?_); refine Sl.storePart_st HS.out 1 g3 76 _ rfl 7 [.slice A fst.length c, .slice A3 (back false fst now0 fst.length).length c3, .int .i64 (q0)] (Nat.le_of_ble_eq_true rfl) #[.int .i64 id, .string name, .bool may, .slice A fst.length c, .int .i64 (m0), .int .i64 (s0), .int .i64 (u0), .slice A fst.length c, .slice A3 (back false fst now0 fst.length).length c3, .int .i64 (q0)] rfl (by rfl) (by rfl) ?hr ?_; (case hr => have f_ := HS.out.f10 1 _ _ _ _ _ _ _ _ _ _ _ _ rfl; (try obtain ⟨f0, f1, f2, f3, f4, f5, f6, f7, f8, f9⟩ := f_); first | (go_simp; done) | (go_simp; rfl)); intro w4_ HSn; replace HS : Hid (St (SL.blk g6 76 #[.int .i64 0, .string ⟨#[]⟩, .bool false, .slice none 0 0, .int .i64 0, .int .i64 0, .int .i64 0, .slice none 0 0, .slice none 0 0, .int .i64 0] :: SL.blk g3 76 #[.int .i64 id, .string name, .bool may, .slice A fst.length c, .int .i64 (m0), .int .i64 (s0), .int .i64 (u0), .slice A fst.length c, .slice A3 (back false fst now0 fst.length).length c3, .int .i64 (q0)] :: SL.row (Kd.int .u32) 39 (.slice A3 (back false fst now0 fst.length).length c3) (back false fst now0 fst.length) :: l) w0 w4_) := Go.Lib.hid HSn; clear HSn; clear c0_0 c0_1 c0_2 c0_3 c0_4 c0_5 c0_6 c0_7 c0_8 c0_9 c1_0 c1_1 c1_2 c1_3 c1_4 c1_5 c1_6 c1_7 c1_8 c1_9; obtain ⟨c0_0, c0_1, c0_2, c0_3, c0_4, c0_5, c0_6, c0_7, c0_8, c0_9⟩ := HS.out.c10 0 _ _ _ _ _ _ _ _ _ _ _ _ rfl; obtain ⟨c1_0, c1_1, c1_2, c1_3, c1_4, c1_5, c1_6, c1_7, c1_8, c1_9⟩ := HS.out.c10 1 _ _ _ _ _ _ _ _ _ _ _ _ rfl) | ((with_reducible refine gate_store (p := 19) rfl ?_); refine Sl.store_st HS.out 1 g3 76 _ rfl 5 (.int .i64 (s0 + 1)) (by rfl) (by rfl) ?hr ?_; (case hr => have f_ := HS.out.free 1 _ _ _ rfl 5; first | (go_simp; done) | (go_simp; rfl)); intro w5_ HSn; replace HS : Hid (St (SL.blk g6 76 #[.int .i64 0, .string ⟨#[]⟩, .bool false, .slice none 0 0, .int .i64 0, .int .i64 0, .int .i64 0, .slice none 0 0, .slice none 0 0, .int .i64 0] :: SL.blk g3 76 #[.int .i64 id, .string name, .bool may, .slice A fst.length c, .int .i64 (m0), .int .i64 (s0 + 1), .int .i64 (u0), .slice A fst.length c, .slice A3 (back false fst now0 fst.length).length c3, .int .i64 (q0)] :: SL.row (Kd.int .u32) 39 (.slice A3 (back false fst now0 fst.length).length c3) (back false fst now0 fst.length) :: l) w0 w5_) := Go.Lib.hid HSn; clear HSn; clear c0_0 c0_1 c0_2 c0_3 c0_4 c0_5 c0_6 c0_7 c0_8 c0_9 c1_0 c1_1 c1_2 c1_3 c1_4 c1_5 c1_6 c1_7 c1_8 c1_9; obtain ⟨c0_0, c0_1, c0_2, c0_3, c0_4, c0_5, c0_6, c0_7, c0_8, c0_9⟩ := HS.out.c10 0 _ _ _ _ _ _ _ _ _ _ _ _ rfl; obtain ⟨c1_0, c1_1, c1_2, c1_3, c1_4, c1_5, c1_6, c1_7, c1_8, c1_9⟩ := HS.out.c10 1 _ _ _ _ _ _ _ _ _ _ _ _ rfl) | ((with_reducible refine gate_store (p := 21) rfl ?_); refine Sl.store_st HS.out 1 g3 76 _ rfl 6 (.int .i64 (cause)) (by rfl) (by rfl) ?hr ?_; (case hr => have f_ := HS.out.free 1 _ _ _ rfl 6; first | (go_simp; done) | (go_simp; rfl)); intro w6_ HSn; replace HS : Hid (St (SL.blk g6 76 #[.int .i64 0, .string ⟨#[]⟩, .bool false, .slice none 0 0, .int .i64 0, .int .i64 0, .int .i64 0, .slice none 0 0, .slice none 0 0, .int .i64 0] :: SL.blk g3 76 #[.int .i64 id, .string name, .bool may, .slice A fst.length c, .int .i64 (m0), .int .i64 (s0 + 1), .int .i64 (cause), .slice A fst.length c, .slice A3 (back false fst now0 fst.length).length c3, .int .i64 (q0)] :: SL.row (Kd.int .u32) 39 (.slice A3 (back false fst now0 fst.length).length c3) (back false fst now0 fst.length) :: l) w0 w6_) := Go.Lib.hid HSn; clear HSn; clear c0_0 c0_1 c0_2 c0_3 c0_4 c0_5 c0_6 c0_7 c0_8 c0_9 c1_0 c1_1 c1_2 c1_3 c1_4 c1_5 c1_6 c1_7 c1_8 c1_9; obtain ⟨c0_0, c0_1, c0_2, c0_3, c0_4, c0_5, c0_6, c0_7, c0_8, c0_9⟩ := HS.out.c10 0 _ _ _ _ _ _ _ _ _ _ _ _ rfl; obtain ⟨c1_0, c1_1, c1_2, c1_3, c1_4, c1_5, c1_6, c1_7, c1_8, c1_9⟩ := HS.out.c10 1 _ _ _ _ _ _ _ _ _ _ _ _ rfl) | ((with_reducible refine gate_store (p := 6) rfl ?_); refine Sl.storeAll_st HS.out 0 g6 76 _ rfl [.int .i64 id, .string name, .bool may, .slice A fst.length c, .int .i64 (m0), .int .i64 (s0 + 1), .int .i64 (cause), .slice A fst.length c, .slice A3 (back false fst now0 fst.length).length c3, .int .i64 (q0)] rfl (by rfl) (by rfl) ?hr ?_; (case hr => have f_ := HS.out.f10 0 _ _ _ _ _ _ _ _ _ _ _ _ rfl; (try obtain ⟨f0, f1, f2, f3, f4, f5, f6, f7, f8, f9⟩ := f_); first | (go_simp; done) | (go_simp; rfl)); intro w7_ HSn; replace HS : Hid (St (SL.blk g6 76 #[.int .i64 id, .string name, .bool may, .slice A fst.length c, .int .i64 (m0), .int .i64 (s0 + 1), .int .i64 (cause), .slice A fst.length c, .slice A3 (back false fst now0 fst.length).length c3, .int .i64 (q0)] :: SL.blk g3 76 #[.int .i64 id, .string name, .bool may, .slice A fst.length c, .int .i64 (m0), .int .i64 (s0 + 1), .int .i64 (cause), .slice A fst.length c, .slice A3 (back false fst now0 fst.length).length c3, .int .i64 (q0)] :: SL.row (Kd.int .u32) 39 (.slice A3 (back false fst now0 fst.length).length c3) (back false fst now0 fst.length) :: l) w0 w7_) := Go.Lib.hid HSn; clear HSn; clear c0_0 c0_1 c0_2 c0_3 c0_4 c0_5 c0_6 c0_7 c0_8 c0_9 c1_0 c1_1 c1_2 c1_3 c1_4 c1_5 c1_6 c1_7 c1_8 c1_9; obtain ⟨c0_0, c0_1, c0_2, c0_3, c0_4, c0_5, c0_6, c0_7, c0_8, c0_9⟩ := HS.out.c10 0 _ _ _ _ _ _ _ _ _ _ _ _ rfl; obtain ⟨c1_0, c1_1, c1_2, c1_3, c1_4, c1_5, c1_6, c1_7, c1_8, c1_9⟩ := HS.out.c10 1 _ _ _ _ _ _ _ _ _ _ _ _ rfl))
  exact bodyPost_ret (v := .agg #[.int .i64 id, .string name, .bool may, .slice A fst.length c, .int .i64 (m0), .int .i64 (s0 + 1), .int .i64 (cause), .slice A fst.length c, .slice A3 (back false fst now0 fst.length).length c3, .int .i64 (q0)]) (by simp [results, Try.results112, go_sem, c0_0, c0_1, c0_2, c0_3, c0_4, c0_5, c0_6, c0_7, c0_8, c0_9]) rfl ⟨_, _, rfl, HS.out.drop.drop⟩
set_option maxHeartbeats 1600000 in
set_option maxRecDepth 100000 in
theorem rstart_2 (h : St (SL.row (Kd.int .u32) 39 (.slice A2 (s).now.length c2) (s).now :: l) w0 w) (cause : Int) (hC : k43.C w0 A fst.length fst) (hl : s.now.length = fst.length) (hs0 : 0 ≤ s.starts) (hs1 : s.starts ≤ 1000000) (hn : fst.length ≤ 1000) :
    Calls Try.prog 112 #[.agg #[.int .i64 id, .string name, .bool may, .slice A fst.length c, .int .i64 (s).mode, .int .i64 (s).starts, .int .i64 (s).cause, .slice A fst.length c, .slice A2 (s).now.length c2, .int .i64 (s).wr], .int .i64 2, .int .i64 cause] w fun e w' => ∃ A3 c3, e = .returned (.agg #[.int .i64 id, .string name, .bool may, .slice A fst.length c, .int .i64 (PS.become fst s s.mode 2 cause).mode, .int .i64 (PS.become fst s s.mode 2 cause).starts, .int .i64 (PS.become fst s s.mode 2 cause).cause, .slice A fst.length c, .slice A3 (PS.become fst s s.mode 2 cause).now.length c3, .int .i64 (PS.become fst s s.mode 2 cause).wr]) ∧ St (SL.row (Kd.int .u32) 39 (.slice A3 (PS.become fst s s.mode 2 cause).now.length c3) (PS.become fst s s.mode 2 cause).now :: l) w0 w' := by
  obtain ⟨m0, s0, u0, now0, q0⟩ := s
  have HC := Go.Lib.hid hC
  have HL : Hid (now0.length = fst.length) := Go.Lib.hid hl
  have HS := Go.Lib.hid h
  have hs0' : 0 ≤ s0 := hs0
  have hs1' : s0 ≤ 1000000 := hs1
  clear hC hl h hs0 hs1
  go_enter Try.func112, Try.ntmps112
  go_wp2_with (first | ((with_reducible refine gate_dst (N := 3) rfl ?_); refine Sl.box_st HS.out (by rfl) (cs := #[.int .i64 id, .string name, .bool may, .slice A fst.length c, .int .i64 (m0), .int .i64 (s0), .int .i64 (u0), .slice A fst.length c, .slice A2 now0.length c2, .int .i64 (q0)]) (t := 76) ?hr ?_; (case hr => first | (go_simp; done) | (go_simp; rfl)); intro g3 w1_ HSn HBn; clear HBn; replace HS : Hid (St (SL.blk g3 76 #[.int .i64 id, .string name, .bool may, .slice A fst.length c, .int .i64 (m0), .int .i64 (s0), .int .i64 (u0), .slice A fst.length c, .slice A2 now0.length c2, .int .i64 (q0)] :: SL.row (Kd.int .u32) 39 (.slice A2 now0.length c2) now0 :: l) w0 w1_) := Go.Lib.hid HSn; clear HSn; obtain ⟨c0_0, c0_1, c0_2, c0_3, c0_4, c0_5, c0_6, c0_7, c0_8, c0_9⟩ := HS.out.c10 0 _ _ _ _ _ _ _ _ _ _ _ _ rfl) | ((with_reducible refine gate_dst (N := 6) rfl ?_); refine Sl.box_st HS.out (by rfl) (cs := #[.int .i64 0, .string ⟨#[]⟩, .bool false, .slice none 0 0, .int .i64 0, .int .i64 0, .int .i64 0, .slice none 0 0, .slice none 0 0, .int .i64 0]) (t := 76) ?hr ?_; (case hr => first | (go_simp; done) | (go_simp; rfl)); intro g6 w2_ HSn HBn; clear HBn; replace HS : Hid (St (SL.blk g6 76 #[.int .i64 0, .string ⟨#[]⟩, .bool false, .slice none 0 0, .int .i64 0, .int .i64 0, .int .i64 0, .slice none 0 0, .slice none 0 0, .int .i64 0] :: SL.blk g3 76 #[.int .i64 id, .string name, .bool may, .slice A fst.length c, .int .i64 (m0), .int .i64 (s0), .int .i64 (u0), .slice A fst.length c, .slice A2 now0.length c2, .int .i64 (q0)] :: SL.row (Kd.int .u32) 39 (.slice A2 now0.length c2) now0 :: l) w0 w2_) := Go.Lib.hid HSn; clear HSn; clear c0_0 c0_1 c0_2 c0_3 c0_4 c0_5 c0_6 c0_7 c0_8 c0_9; obtain ⟨c0_0, c0_1, c0_2, c0_3, c0_4, c0_5, c0_6, c0_7, c0_8, c0_9⟩ := HS.out.c10 0 _ _ _ _ _ _ _ _ _ _ _ _ rfl; obtain ⟨c1_0, c1_1, c1_2, c1_3, c1_4, c1_5, c1_6, c1_7, c1_8, c1_9⟩ := HS.out.c10 1 _ _ _ _ _ _ _ _ _ _ _ _ rfl) | (go_at_call 34; refine (rstart_cold HS.out 2 A c A2 c2 (HS.out.C HC.out) rfl HL.out (by omega) q0).mono ?_; rintro e w3_ ⟨A3, c3, rfl, HSn⟩; replace HS : Hid (St (SL.blk g6 76 #[.int .i64 0, .string ⟨#[]⟩, .bool false, .slice none 0 0, .int .i64 0, .int .i64 0, .int .i64 0, .slice none 0 0, .slice none 0 0, .int .i64 0] :: SL.blk g3 76 #[.int .i64 id, .string name, .bool may, .slice A fst.length c, .int .i64 (m0), .int .i64 (s0), .int .i64 (u0), .slice A fst.length c, .slice A2 now0.length c2, .int .i64 (q0)] :: SL.row (Kd.int .u32) 39 (.slice A3 (fst.map (·.f0)).length c3) (fst.map (·.f0)) :: l) w0 w3_) := Go.Lib.hid HSn; clear HSn; clear c0_0 c0_1 c0_2 c0_3 c0_4 c0_5 c0_6 c0_7 c0_8 c0_9 c1_0 c1_1 c1_2 c1_3 c1_4 c1_5 c1_6 c1_7 c1_8 c1_9; obtain ⟨c0_0, c0_1, c0_2, c0_3, c0_4, c0_5, c0_6, c0_7, c0_8, c0_9⟩ := HS.out.c10 0 _ _ _ _ _ _ _ _ _ _ _ _ rfl; obtain ⟨c1_0, c1_1, c1_2, c1_3, c1_4, c1_5, c1_6, c1_7, c1_8, c1_9⟩ := HS.out.c10 1 _ _ _ _ _ _ _ _ _ _ _ _ rfl) | ((with_reducible refine gate_store (p := 15) rfl ?_); refine Sl.storePart_st HS.out 1 g3 76 _ rfl 7 [.slice A fst.length c, .slice A3 (fst.map (·.f0)).length c3, .int .i64 (0)] (Nat.le_of_ble_eq_true rfl) #[.int .i64 id, .string name, .bool may, .slice A fst.length c, .int .i64 (m0), .int .i64 (s0), .int .i64 (u0), .slice A fst.length c, .slice A3 (fst.map (·.f0)).length c3, .int .i64 (0)] rfl (by rfl) (by rfl) ?hr ?_; (case hr => have f_ := HS.out.f10 1 _ _ _ _ _ _ _ _ _ _ _ _ rfl; (try obtain ⟨f0, f1, f2, f3, f4, f5, f6, f7, f8, f9⟩ := f_); first | (go_simp; done) | (go_simp; rfl)); intro w4_ HSn; replace HS : Hid (St (SL.blk g6 76 #[.int .i64 0, .string ⟨#[]⟩, .bool false, .slice none 0 0, .int .i64 0, .int .i64 0, .int .i64 0, .slice none 0 0, .slice none 0 0, .int .i64 0] :: SL.blk g3 76 #[.int .i64 id, .string name, .bool may, .slice A fst.length c, .int .i64 (m0), .int .i64 (s0), .int .i64 (u0), .slice A fst.length c, .slice A3 (fst.map (·.f0)).length c3, .int .i64 (0)] :: SL.row (Kd.int .u32) 39 (.slice A3 (fst.map (·.f0)).length c3) (fst.map (·.f0)) :: l) w0 w4_) := Go.Lib.hid HSn; clear HSn; clear c0_0 c0_1 c0_2 c0_3 c0_4 c0_5 c0_6 c0_7 c0_8 c0_9 c1_0 c1_1 c1_2 c1_3 c1_4 c1_5 c1_6 c1_7 c1_8 c1_9; obtain ⟨c0_0, c0_1, c0_2, c0_3, c0_4, c0_5, c0_6, c0_7, c0_8, c0_9⟩ := HS.out.c10 0 _ _ _ _ _ _ _ _ _ _ _ _ rfl; obtain ⟨c1_0, c1_1, c1_2, c1_3, c1_4, c1_5, c1_6, c1_7, c1_8, c1_9⟩ := HS.out.c10 1 _ _ _ _ _ _ _ _ _ _ _ _ rfl) | ((with_reducible refine gate_store (p := 19) rfl ?_); refine Sl.store_st HS.out 1 g3 76 _ rfl 5 (.int .i64 (s0 + 1)) (by rfl) (by rfl) ?hr ?_; (case hr => have f_ := HS.out.free 1 _ _ _ rfl 5; first | (go_simp; done) | (go_simp; rfl)); intro w5_ HSn; replace HS : Hid (St (SL.blk g6 76 #[.int .i64 0, .string ⟨#[]⟩, .bool false, .slice none 0 0, .int .i64 0, .int .i64 0, .int .i64 0, .slice none 0 0, .slice none 0 0, .int .i64 0] :: SL.blk g3 76 #[.int .i64 id, .string name, .bool may, .slice A fst.length c, .int .i64 (m0), .int .i64 (s0 + 1), .int .i64 (u0), .slice A fst.length c, .slice A3 (fst.map (·.f0)).length c3, .int .i64 (0)] :: SL.row (Kd.int .u32) 39 (.slice A3 (fst.map (·.f0)).length c3) (fst.map (·.f0)) :: l) w0 w5_) := Go.Lib.hid HSn; clear HSn; clear c0_0 c0_1 c0_2 c0_3 c0_4 c0_5 c0_6 c0_7 c0_8 c0_9 c1_0 c1_1 c1_2 c1_3 c1_4 c1_5 c1_6 c1_7 c1_8 c1_9; obtain ⟨c0_0, c0_1, c0_2, c0_3, c0_4, c0_5, c0_6, c0_7, c0_8, c0_9⟩ := HS.out.c10 0 _ _ _ _ _ _ _ _ _ _ _ _ rfl; obtain ⟨c1_0, c1_1, c1_2, c1_3, c1_4, c1_5, c1_6, c1_7, c1_8, c1_9⟩ := HS.out.c10 1 _ _ _ _ _ _ _ _ _ _ _ _ rfl) | ((with_reducible refine gate_store (p := 21) rfl ?_); refine Sl.store_st HS.out 1 g3 76 _ rfl 6 (.int .i64 (cause)) (by rfl) (by rfl) ?hr ?_; (case hr => have f_ := HS.out.free 1 _ _ _ rfl 6; first | (go_simp; done) | (go_simp; rfl)); intro w6_ HSn; replace HS : Hid (St (SL.blk g6 76 #[.int .i64 0, .string ⟨#[]⟩, .bool false, .slice none 0 0, .int .i64 0, .int .i64 0, .int .i64 0, .slice none 0 0, .slice none 0 0, .int .i64 0] :: SL.blk g3 76 #[.int .i64 id, .string name, .bool may, .slice A fst.length c, .int .i64 (m0), .int .i64 (s0 + 1), .int .i64 (cause), .slice A fst.length c, .slice A3 (fst.map (·.f0)).length c3, .int .i64 (0)] :: SL.row (Kd.int .u32) 39 (.slice A3 (fst.map (·.f0)).length c3) (fst.map (·.f0)) :: l) w0 w6_) := Go.Lib.hid HSn; clear HSn; clear c0_0 c0_1 c0_2 c0_3 c0_4 c0_5 c0_6 c0_7 c0_8 c0_9 c1_0 c1_1 c1_2 c1_3 c1_4 c1_5 c1_6 c1_7 c1_8 c1_9; obtain ⟨c0_0, c0_1, c0_2, c0_3, c0_4, c0_5, c0_6, c0_7, c0_8, c0_9⟩ := HS.out.c10 0 _ _ _ _ _ _ _ _ _ _ _ _ rfl; obtain ⟨c1_0, c1_1, c1_2, c1_3, c1_4, c1_5, c1_6, c1_7, c1_8, c1_9⟩ := HS.out.c10 1 _ _ _ _ _ _ _ _ _ _ _ _ rfl) | ((with_reducible refine gate_store (p := 6) rfl ?_); refine Sl.storeAll_st HS.out 0 g6 76 _ rfl [.int .i64 id, .string name, .bool may, .slice A fst.length c, .int .i64 (m0), .int .i64 (s0 + 1), .int .i64 (cause), .slice A fst.length c, .slice A3 (fst.map (·.f0)).length c3, .int .i64 (0)] rfl (by rfl) (by rfl) ?hr ?_; (case hr => have f_ := HS.out.f10 0 _ _ _ _ _ _ _ _ _ _ _ _ rfl; (try obtain ⟨f0, f1, f2, f3, f4, f5, f6, f7, f8, f9⟩ := f_); first | (go_simp; done) | (go_simp; rfl)); intro w7_ HSn; replace HS : Hid (St (SL.blk g6 76 #[.int .i64 id, .string name, .bool may, .slice A fst.length c, .int .i64 (m0), .int .i64 (s0 + 1), .int .i64 (cause), .slice A fst.length c, .slice A3 (fst.map (·.f0)).length c3, .int .i64 (0)] :: SL.blk g3 76 #[.int .i64 id, .string name, .bool may, .slice A fst.length c, .int .i64 (m0), .int .i64 (s0 + 1), .int .i64 (cause), .slice A fst.length c, .slice A3 (fst.map (·.f0)).length c3, .int .i64 (0)] :: SL.row (Kd.int .u32) 39 (.slice A3 (fst.map (·.f0)).length c3) (fst.map (·.f0)) :: l) w0 w7_) := Go.Lib.hid HSn; clear HSn; clear c0_0 c0_1 c0_2 c0_3 c0_4 c0_5 c0_6 c0_7 c0_8 c0_9 c1_0 c1_1 c1_2 c1_3 c1_4 c1_5 c1_6 c1_7 c1_8 c1_9; obtain ⟨c0_0, c0_1, c0_2, c0_3, c0_4, c0_5, c0_6, c0_7, c0_8, c0_9⟩ := HS.out.c10 0 _ _ _ _ _ _ _ _ _ _ _ _ rfl; obtain ⟨c1_0, c1_1, c1_2, c1_3, c1_4, c1_5, c1_6, c1_7, c1_8, c1_9⟩ := HS.out.c10 1 _ _ _ _ _ _ _ _ _ _ _ _ rfl))
  exact bodyPost_ret (v := .agg #[.int .i64 id, .string name, .bool may, .slice A fst.length c, .int .i64 (m0), .int .i64 (s0 + 1), .int .i64 (cause), .slice A fst.length c, .slice A3 (fst.map (·.f0)).length c3, .int .i64 (0)]) (by simp [results, Try.results112, go_sem, c0_0, c0_1, c0_2, c0_3, c0_4, c0_5, c0_6, c0_7, c0_8, c0_9]) rfl ⟨_, _, rfl, HS.out.drop.drop⟩
end Go.Proofs.Ytkmhgolohppliaa.Prt

/-! The document's partition: SetMode, Act, Cell, Write, New. -/
namespace Go.Proofs.Ytkmhgolohppliaa.Prt
open Go.RowKit Go.Proofs.Ytkmhgolohppliaa.PCellsPlays Go.Proofs.YtkmhgolohppliaaW.PrintWords Go.Proofs.YtkmhgolohppliaaW.PrintLast Go.Proofs.YtkmhgolohppliaaW.PrintMore Go.Proofs.Ytkmhgolohppliaa.Mine Go.Proofs.Ytkmhgolohppliaa.Cel Go.Proofs.Ytkmhgolohppliaa.Cls
open Go.Proofs.Ytkmhgolohppliaa.Sl (SL Stp St No)
open Go.Proofs.Ytkmhgolohppliaa.Mod (strt actM runs right askd)
set_option linter.unusedVariables false
set_option linter.unusedSimpArgs false
attribute [local go_sem] max2_int min2_int max_two min_two max_three min_three max_four min_four
variable {l : List SL} {w0 w : World} {g : Nat} {id : Int} {name : ByteArray} {may : Bool} {fst : List S43} {s : PS}
variable {now : List Int} {A : Option Addr} {c : Nat} {A2 : Option Addr} {c2 : Nat}
theorem rstart21 (h : St (SL.row (Kd.int .u32) 39 (.slice A2 (s).now.length c2) (s).now :: l) w0 w) (st cause : Int) (hst : st = 0 ∨ st = 1 ∨ st = 2) (hC : k43.C w0 A fst.length fst) (hl : s.now.length = fst.length) (hs0 : 0 ≤ s.starts) (hs1 : s.starts ≤ 1000000) (hn : fst.length ≤ 1000) :
    Calls Try.prog 112 #[.agg #[.int .i64 id, .string name, .bool may, .slice A fst.length c, .int .i64 (s).mode, .int .i64 (s).starts, .int .i64 (s).cause, .slice A fst.length c, .slice A2 (s).now.length c2, .int .i64 (s).wr], .int .i64 st, .int .i64 cause] w fun e w' => ∃ A3 c3, e = .returned (.agg #[.int .i64 id, .string name, .bool may, .slice A fst.length c, .int .i64 (PS.become fst s s.mode st cause).mode, .int .i64 (PS.become fst s s.mode st cause).starts, .int .i64 (PS.become fst s s.mode st cause).cause, .slice A fst.length c, .slice A3 (PS.become fst s s.mode st cause).now.length c3, .int .i64 (PS.become fst s s.mode st cause).wr]) ∧ St (SL.row (Kd.int .u32) 39 (.slice A3 (PS.become fst s s.mode st cause).now.length c3) (PS.become fst s s.mode st cause).now :: l) w0 w' := by
  rcases hst with rfl | rfl | rfl
  · exact rstart_0 h cause hC hl hs0 hs1 hn
  · exact rstart_1 h cause hC hl hs0 hs1 hn
  · exact rstart_2 h cause hC hl hs0 hs1 hn
theorem become_mode (fst : List S43) (s : PS) (m' m st cause : Int) : PS.become fst ⟨m', s.starts, s.cause, s.now, s.wr⟩ m st cause = PS.become fst s m st cause := rfl
set_option maxHeartbeats 1600000 in
set_option maxRecDepth 100000 in
theorem rsetMode_no (h : St (SL.row (Kd.int .u32) 39 (.slice A2 (s).now.length c2) (s).now :: l) w0 w) (want x1 x2 x3 : Int) (hm : ∀ (l : List SL) (w : World), St l w0 w → Calls Try.prog 18 #[.int .i64 s.mode, .int .i64 want] w fun e w' => e = .returned (.tuple #[.int .i64 x1, .int .i64 x2, .int .i64 x3]) ∧ St l w0 w') (hst : x2 = 0 ∨ x2 = 1 ∨ x2 = 2) (hc : (x3 != 0) = true) (hC : k43.C w0 A fst.length fst) (hl : s.now.length = fst.length) (hs0 : 0 ≤ s.starts) (hs1 : s.starts ≤ 1000000) (hn : fst.length ≤ 1000) :
    Calls Try.prog 67 #[.agg #[.int .i64 id, .string name, .bool may, .slice A fst.length c, .int .i64 (s).mode, .int .i64 (s).starts, .int .i64 (s).cause, .slice A fst.length c, .slice A2 (s).now.length c2, .int .i64 (s).wr], .int .i64 want] w fun e w' => ∃ A3 c3, e = .returned (.tuple #[.agg #[.int .i64 id, .string name, .bool may, .slice A fst.length c, .int .i64 (s).mode, .int .i64 (s).starts, .int .i64 (s).cause, .slice A fst.length c, .slice A3 (s).now.length c3, .int .i64 (s).wr], .int .i64 x3]) ∧ St (SL.row (Kd.int .u32) 39 (.slice A3 (s).now.length c3) (s).now :: l) w0 w' := by
  obtain ⟨m0, s0, u0, now0, q0⟩ := s
  have HC := Go.Lib.hid hC
  have HL : Hid (now0.length = fst.length) := Go.Lib.hid hl
  have HS := Go.Lib.hid h
  have hs0' : 0 ≤ s0 := hs0
  have hs1' : s0 ≤ 1000000 := hs1
  clear hC hl h hs0 hs1
  have HM := Go.Lib.hid hm
  clear hm
  go_enter Try.func67, Try.ntmps67
  go_wp2_with (first | ((with_reducible refine gate_dst (N := 2) rfl ?_); refine Sl.box_st HS.out (by rfl) (cs := #[.int .i64 id, .string name, .bool may, .slice A fst.length c, .int .i64 (m0), .int .i64 (s0), .int .i64 (u0), .slice A fst.length c, .slice A2 now0.length c2, .int .i64 (q0)]) (t := 76) ?hr ?_; (case hr => first | (go_simp; done) | (go_simp; rfl)); intro g2 w1_ HSn HBn; clear HBn; replace HS : Hid (St (SL.blk g2 76 #[.int .i64 id, .string name, .bool may, .slice A fst.length c, .int .i64 (m0), .int .i64 (s0), .int .i64 (u0), .slice A fst.length c, .slice A2 now0.length c2, .int .i64 (q0)] :: SL.row (Kd.int .u32) 39 (.slice A2 now0.length c2) now0 :: l) w0 w1_) := Go.Lib.hid HSn; clear HSn; obtain ⟨c0_0, c0_1, c0_2, c0_3, c0_4, c0_5, c0_6, c0_7, c0_8, c0_9⟩ := HS.out.c10 0 _ _ _ _ _ _ _ _ _ _ _ _ rfl) | ((with_reducible refine gate_dst (N := 4) rfl ?_); refine Sl.box_st HS.out (by rfl) (cs := #[.int .i64 0, .string ⟨#[]⟩, .bool false, .slice none 0 0, .int .i64 0, .int .i64 0, .int .i64 0, .slice none 0 0, .slice none 0 0, .int .i64 0]) (t := 76) ?hr ?_; (case hr => first | (go_simp; done) | (go_simp; rfl)); intro g4 w2_ HSn HBn; clear HBn; replace HS : Hid (St (SL.blk g4 76 #[.int .i64 0, .string ⟨#[]⟩, .bool false, .slice none 0 0, .int .i64 0, .int .i64 0, .int .i64 0, .slice none 0 0, .slice none 0 0, .int .i64 0] :: SL.blk g2 76 #[.int .i64 id, .string name, .bool may, .slice A fst.length c, .int .i64 (m0), .int .i64 (s0), .int .i64 (u0), .slice A fst.length c, .slice A2 now0.length c2, .int .i64 (q0)] :: SL.row (Kd.int .u32) 39 (.slice A2 now0.length c2) now0 :: l) w0 w2_) := Go.Lib.hid HSn; clear HSn; clear c0_0 c0_1 c0_2 c0_3 c0_4 c0_5 c0_6 c0_7 c0_8 c0_9; obtain ⟨c0_0, c0_1, c0_2, c0_3, c0_4, c0_5, c0_6, c0_7, c0_8, c0_9⟩ := HS.out.c10 0 _ _ _ _ _ _ _ _ _ _ _ _ rfl; obtain ⟨c1_0, c1_1, c1_2, c1_3, c1_4, c1_5, c1_6, c1_7, c1_8, c1_9⟩ := HS.out.c10 1 _ _ _ _ _ _ _ _ _ _ _ _ rfl) | (go_at_call 18; refine (HM.out _ _ HS.out).mono ?_; rintro e w3_ ⟨rfl, HSn⟩; replace HS : Hid (St (SL.blk g4 76 #[.int .i64 0, .string ⟨#[]⟩, .bool false, .slice none 0 0, .int .i64 0, .int .i64 0, .int .i64 0, .slice none 0 0, .slice none 0 0, .int .i64 0] :: SL.blk g2 76 #[.int .i64 id, .string name, .bool may, .slice A fst.length c, .int .i64 (m0), .int .i64 (s0), .int .i64 (u0), .slice A fst.length c, .slice A2 now0.length c2, .int .i64 (q0)] :: SL.row (Kd.int .u32) 39 (.slice A2 now0.length c2) now0 :: l) w0 w3_) := Go.Lib.hid HSn; clear HSn; clear c0_0 c0_1 c0_2 c0_3 c0_4 c0_5 c0_6 c0_7 c0_8 c0_9 c1_0 c1_1 c1_2 c1_3 c1_4 c1_5 c1_6 c1_7 c1_8 c1_9; obtain ⟨c0_0, c0_1, c0_2, c0_3, c0_4, c0_5, c0_6, c0_7, c0_8, c0_9⟩ := HS.out.c10 0 _ _ _ _ _ _ _ _ _ _ _ _ rfl; obtain ⟨c1_0, c1_1, c1_2, c1_3, c1_4, c1_5, c1_6, c1_7, c1_8, c1_9⟩ := HS.out.c10 1 _ _ _ _ _ _ _ _ _ _ _ _ rfl) | ((with_reducible refine gate_store (p := 4) rfl ?_); refine Sl.storeAll_st HS.out 0 g4 76 _ rfl [.int .i64 id, .string name, .bool may, .slice A fst.length c, .int .i64 (m0), .int .i64 (s0), .int .i64 (u0), .slice A fst.length c, .slice A2 now0.length c2, .int .i64 (q0)] rfl (by rfl) (by rfl) ?hr ?_; (case hr => have f_ := HS.out.f10 0 _ _ _ _ _ _ _ _ _ _ _ _ rfl; (try obtain ⟨f0, f1, f2, f3, f4, f5, f6, f7, f8, f9⟩ := f_); first | (go_simp; done) | (go_simp; rfl)); intro w4_ HSn; replace HS : Hid (St (SL.blk g4 76 #[.int .i64 id, .string name, .bool may, .slice A fst.length c, .int .i64 (m0), .int .i64 (s0), .int .i64 (u0), .slice A fst.length c, .slice A2 now0.length c2, .int .i64 (q0)] :: SL.blk g2 76 #[.int .i64 id, .string name, .bool may, .slice A fst.length c, .int .i64 (m0), .int .i64 (s0), .int .i64 (u0), .slice A fst.length c, .slice A2 now0.length c2, .int .i64 (q0)] :: SL.row (Kd.int .u32) 39 (.slice A2 now0.length c2) now0 :: l) w0 w4_) := Go.Lib.hid HSn; clear HSn; clear c0_0 c0_1 c0_2 c0_3 c0_4 c0_5 c0_6 c0_7 c0_8 c0_9 c1_0 c1_1 c1_2 c1_3 c1_4 c1_5 c1_6 c1_7 c1_8 c1_9; obtain ⟨c0_0, c0_1, c0_2, c0_3, c0_4, c0_5, c0_6, c0_7, c0_8, c0_9⟩ := HS.out.c10 0 _ _ _ _ _ _ _ _ _ _ _ _ rfl; obtain ⟨c1_0, c1_1, c1_2, c1_3, c1_4, c1_5, c1_6, c1_7, c1_8, c1_9⟩ := HS.out.c10 1 _ _ _ _ _ _ _ _ _ _ _ _ rfl))
  exact bodyPost_ret (v := .tuple #[.agg #[.int .i64 id, .string name, .bool may, .slice A fst.length c, .int .i64 (m0), .int .i64 (s0), .int .i64 (u0), .slice A fst.length c, .slice A2 now0.length c2, .int .i64 (q0)], .int .i64 x3]) (by simp [results, Try.results67, go_sem, c0_0, c0_1, c0_2, c0_3, c0_4, c0_5, c0_6, c0_7, c0_8, c0_9]) rfl ⟨_, _, rfl, HS.out.drop.drop⟩
set_option maxHeartbeats 1600000 in
set_option maxRecDepth 100000 in
theorem rsetMode_yes (h : St (SL.row (Kd.int .u32) 39 (.slice A2 (s).now.length c2) (s).now :: l) w0 w) (want x1 x2 x3 : Int) (hm : ∀ (l : List SL) (w : World), St l w0 w → Calls Try.prog 18 #[.int .i64 s.mode, .int .i64 want] w fun e w' => e = .returned (.tuple #[.int .i64 x1, .int .i64 x2, .int .i64 x3]) ∧ St l w0 w') (hst : x2 = 0 ∨ x2 = 1 ∨ x2 = 2) (hc : (x3 != 0) = false) (hC : k43.C w0 A fst.length fst) (hl : s.now.length = fst.length) (hs0 : 0 ≤ s.starts) (hs1 : s.starts ≤ 1000000) (hn : fst.length ≤ 1000) :
    Calls Try.prog 67 #[.agg #[.int .i64 id, .string name, .bool may, .slice A fst.length c, .int .i64 (s).mode, .int .i64 (s).starts, .int .i64 (s).cause, .slice A fst.length c, .slice A2 (s).now.length c2, .int .i64 (s).wr], .int .i64 want] w fun e w' => ∃ A3 c3, e = .returned (.tuple #[.agg #[.int .i64 id, .string name, .bool may, .slice A fst.length c, .int .i64 (PS.become fst s x1 x2 1).mode, .int .i64 (PS.become fst s x1 x2 1).starts, .int .i64 (PS.become fst s x1 x2 1).cause, .slice A fst.length c, .slice A3 (PS.become fst s x1 x2 1).now.length c3, .int .i64 (PS.become fst s x1 x2 1).wr], .int .i64 0]) ∧ St (SL.row (Kd.int .u32) 39 (.slice A3 (PS.become fst s x1 x2 1).now.length c3) (PS.become fst s x1 x2 1).now :: l) w0 w' := by
  obtain ⟨m0, s0, u0, now0, q0⟩ := s
  have HC := Go.Lib.hid hC
  have HL : Hid (now0.length = fst.length) := Go.Lib.hid hl
  have HS := Go.Lib.hid h
  have hs0' : 0 ≤ s0 := hs0
  have hs1' : s0 ≤ 1000000 := hs1
  clear hC hl h hs0 hs1
  have HM := Go.Lib.hid hm
  clear hm
  go_enter Try.func67, Try.ntmps67
  go_wp2_with (first | ((with_reducible refine gate_dst (N := 2) rfl ?_); refine Sl.box_st HS.out (by rfl) (cs := #[.int .i64 id, .string name, .bool may, .slice A fst.length c, .int .i64 (m0), .int .i64 (s0), .int .i64 (u0), .slice A fst.length c, .slice A2 now0.length c2, .int .i64 (q0)]) (t := 76) ?hr ?_; (case hr => first | (go_simp; done) | (go_simp; rfl)); intro g2 w1_ HSn HBn; clear HBn; replace HS : Hid (St (SL.blk g2 76 #[.int .i64 id, .string name, .bool may, .slice A fst.length c, .int .i64 (m0), .int .i64 (s0), .int .i64 (u0), .slice A fst.length c, .slice A2 now0.length c2, .int .i64 (q0)] :: SL.row (Kd.int .u32) 39 (.slice A2 now0.length c2) now0 :: l) w0 w1_) := Go.Lib.hid HSn; clear HSn; obtain ⟨c0_0, c0_1, c0_2, c0_3, c0_4, c0_5, c0_6, c0_7, c0_8, c0_9⟩ := HS.out.c10 0 _ _ _ _ _ _ _ _ _ _ _ _ rfl) | ((with_reducible refine gate_dst (N := 4) rfl ?_); refine Sl.box_st HS.out (by rfl) (cs := #[.int .i64 0, .string ⟨#[]⟩, .bool false, .slice none 0 0, .int .i64 0, .int .i64 0, .int .i64 0, .slice none 0 0, .slice none 0 0, .int .i64 0]) (t := 76) ?hr ?_; (case hr => first | (go_simp; done) | (go_simp; rfl)); intro g4 w2_ HSn HBn; clear HBn; replace HS : Hid (St (SL.blk g4 76 #[.int .i64 0, .string ⟨#[]⟩, .bool false, .slice none 0 0, .int .i64 0, .int .i64 0, .int .i64 0, .slice none 0 0, .slice none 0 0, .int .i64 0] :: SL.blk g2 76 #[.int .i64 id, .string name, .bool may, .slice A fst.length c, .int .i64 (m0), .int .i64 (s0), .int .i64 (u0), .slice A fst.length c, .slice A2 now0.length c2, .int .i64 (q0)] :: SL.row (Kd.int .u32) 39 (.slice A2 now0.length c2) now0 :: l) w0 w2_) := Go.Lib.hid HSn; clear HSn; clear c0_0 c0_1 c0_2 c0_3 c0_4 c0_5 c0_6 c0_7 c0_8 c0_9; obtain ⟨c0_0, c0_1, c0_2, c0_3, c0_4, c0_5, c0_6, c0_7, c0_8, c0_9⟩ := HS.out.c10 0 _ _ _ _ _ _ _ _ _ _ _ _ rfl; obtain ⟨c1_0, c1_1, c1_2, c1_3, c1_4, c1_5, c1_6, c1_7, c1_8, c1_9⟩ := HS.out.c10 1 _ _ _ _ _ _ _ _ _ _ _ _ rfl) | (go_at_call 18; refine (HM.out _ _ HS.out).mono ?_; rintro e w3_ ⟨rfl, HSn⟩; replace HS : Hid (St (SL.blk g4 76 #[.int .i64 0, .string ⟨#[]⟩, .bool false, .slice none 0 0, .int .i64 0, .int .i64 0, .int .i64 0, .slice none 0 0, .slice none 0 0, .int .i64 0] :: SL.blk g2 76 #[.int .i64 id, .string name, .bool may, .slice A fst.length c, .int .i64 (m0), .int .i64 (s0), .int .i64 (u0), .slice A fst.length c, .slice A2 now0.length c2, .int .i64 (q0)] :: SL.row (Kd.int .u32) 39 (.slice A2 now0.length c2) now0 :: l) w0 w3_) := Go.Lib.hid HSn; clear HSn; clear c0_0 c0_1 c0_2 c0_3 c0_4 c0_5 c0_6 c0_7 c0_8 c0_9 c1_0 c1_1 c1_2 c1_3 c1_4 c1_5 c1_6 c1_7 c1_8 c1_9; obtain ⟨c0_0, c0_1, c0_2, c0_3, c0_4, c0_5, c0_6, c0_7, c0_8, c0_9⟩ := HS.out.c10 0 _ _ _ _ _ _ _ _ _ _ _ _ rfl; obtain ⟨c1_0, c1_1, c1_2, c1_3, c1_4, c1_5, c1_6, c1_7, c1_8, c1_9⟩ := HS.out.c10 1 _ _ _ _ _ _ _ _ _ _ _ _ rfl) | ((with_reducible refine gate_store (p := 22) rfl ?_); refine Sl.store_st HS.out 1 g2 76 _ rfl 4 (.int .i64 (x1)) (by rfl) (by rfl) ?hr ?_; (case hr => have f_ := HS.out.free 1 _ _ _ rfl 4; first | (go_simp; done) | (go_simp; rfl)); intro w4_ HSn; replace HS : Hid (St (SL.blk g4 76 #[.int .i64 0, .string ⟨#[]⟩, .bool false, .slice none 0 0, .int .i64 0, .int .i64 0, .int .i64 0, .slice none 0 0, .slice none 0 0, .int .i64 0] :: SL.blk g2 76 #[.int .i64 id, .string name, .bool may, .slice A fst.length c, .int .i64 (x1), .int .i64 (s0), .int .i64 (u0), .slice A fst.length c, .slice A2 now0.length c2, .int .i64 (q0)] :: SL.row (Kd.int .u32) 39 (.slice A2 now0.length c2) now0 :: l) w0 w4_) := Go.Lib.hid HSn; clear HSn; clear c0_0 c0_1 c0_2 c0_3 c0_4 c0_5 c0_6 c0_7 c0_8 c0_9 c1_0 c1_1 c1_2 c1_3 c1_4 c1_5 c1_6 c1_7 c1_8 c1_9; obtain ⟨c0_0, c0_1, c0_2, c0_3, c0_4, c0_5, c0_6, c0_7, c0_8, c0_9⟩ := HS.out.c10 0 _ _ _ _ _ _ _ _ _ _ _ _ rfl; obtain ⟨c1_0, c1_1, c1_2, c1_3, c1_4, c1_5, c1_6, c1_7, c1_8, c1_9⟩ := HS.out.c10 1 _ _ _ _ _ _ _ _ _ _ _ _ rfl))
  refine (rstart21 (s := (⟨x1, s0, u0, now0, q0⟩ : PS)) HS.out.up2 x2 1 hst HC.out HL.out hs0' hs1' hn).mono ?_
  rintro e w5_ ⟨A3, c3, rfl, HSm⟩
  have HSn := HSm.down
  replace HS : Hid (St (SL.blk g4 76 #[.int .i64 0, .string ⟨#[]⟩, .bool false, .slice none 0 0, .int .i64 0, .int .i64 0, .int .i64 0, .slice none 0 0, .slice none 0 0, .int .i64 0] :: SL.blk g2 76 #[.int .i64 id, .string name, .bool may, .slice A fst.length c, .int .i64 (x1), .int .i64 (s0), .int .i64 (u0), .slice A fst.length c, .slice A2 now0.length c2, .int .i64 (q0)] :: SL.row (Kd.int .u32) 39 (.slice A3 (PS.become fst (⟨x1, s0, u0, now0, q0⟩ : PS) x1 x2 1).now.length c3) (PS.become fst (⟨x1, s0, u0, now0, q0⟩ : PS) x1 x2 1).now :: l) w0 w5_) := Go.Lib.hid HSn
  clear HSn HSm
  clear c0_0 c0_1 c0_2 c0_3 c0_4 c0_5 c0_6 c0_7 c0_8 c0_9 c1_0 c1_1 c1_2 c1_3 c1_4 c1_5 c1_6 c1_7 c1_8 c1_9
  obtain ⟨c0_0, c0_1, c0_2, c0_3, c0_4, c0_5, c0_6, c0_7, c0_8, c0_9⟩ := HS.out.c10 0 _ _ _ _ _ _ _ _ _ _ _ _ rfl
  obtain ⟨c1_0, c1_1, c1_2, c1_3, c1_4, c1_5, c1_6, c1_7, c1_8, c1_9⟩ := HS.out.c10 1 _ _ _ _ _ _ _ _ _ _ _ _ rfl
  go_wp2_with (first | ((with_reducible refine gate_store (p := 4) rfl ?_); refine Sl.storeAll_st HS.out 0 g4 76 _ rfl [.int .i64 id, .string name, .bool may, .slice A fst.length c, .int .i64 ((PS.become fst (⟨x1, s0, u0, now0, q0⟩ : PS) x1 x2 1)).mode, .int .i64 ((PS.become fst (⟨x1, s0, u0, now0, q0⟩ : PS) x1 x2 1)).starts, .int .i64 ((PS.become fst (⟨x1, s0, u0, now0, q0⟩ : PS) x1 x2 1)).cause, .slice A fst.length c, .slice A3 ((PS.become fst (⟨x1, s0, u0, now0, q0⟩ : PS) x1 x2 1)).now.length c3, .int .i64 ((PS.become fst (⟨x1, s0, u0, now0, q0⟩ : PS) x1 x2 1)).wr] rfl (by rfl) (by rfl) ?hr ?_; (case hr => have f_ := HS.out.f10 0 _ _ _ _ _ _ _ _ _ _ _ _ rfl; (try obtain ⟨f0, f1, f2, f3, f4, f5, f6, f7, f8, f9⟩ := f_); first | (go_simp; done) | (go_simp; rfl)); intro w6_ HSn; replace HS : Hid (St (SL.blk g4 76 #[.int .i64 id, .string name, .bool may, .slice A fst.length c, .int .i64 ((PS.become fst (⟨x1, s0, u0, now0, q0⟩ : PS) x1 x2 1)).mode, .int .i64 ((PS.become fst (⟨x1, s0, u0, now0, q0⟩ : PS) x1 x2 1)).starts, .int .i64 ((PS.become fst (⟨x1, s0, u0, now0, q0⟩ : PS) x1 x2 1)).cause, .slice A fst.length c, .slice A3 ((PS.become fst (⟨x1, s0, u0, now0, q0⟩ : PS) x1 x2 1)).now.length c3, .int .i64 ((PS.become fst (⟨x1, s0, u0, now0, q0⟩ : PS) x1 x2 1)).wr] :: SL.blk g2 76 #[.int .i64 id, .string name, .bool may, .slice A fst.length c, .int .i64 (x1), .int .i64 (s0), .int .i64 (u0), .slice A fst.length c, .slice A2 now0.length c2, .int .i64 (q0)] :: SL.row (Kd.int .u32) 39 (.slice A3 (PS.become fst (⟨x1, s0, u0, now0, q0⟩ : PS) x1 x2 1).now.length c3) (PS.become fst (⟨x1, s0, u0, now0, q0⟩ : PS) x1 x2 1).now :: l) w0 w6_) := Go.Lib.hid HSn; clear HSn; clear c0_0 c0_1 c0_2 c0_3 c0_4 c0_5 c0_6 c0_7 c0_8 c0_9 c1_0 c1_1 c1_2 c1_3 c1_4 c1_5 c1_6 c1_7 c1_8 c1_9; obtain ⟨c0_0, c0_1, c0_2, c0_3, c0_4, c0_5, c0_6, c0_7, c0_8, c0_9⟩ := HS.out.c10 0 _ _ _ _ _ _ _ _ _ _ _ _ rfl; obtain ⟨c1_0, c1_1, c1_2, c1_3, c1_4, c1_5, c1_6, c1_7, c1_8, c1_9⟩ := HS.out.c10 1 _ _ _ _ _ _ _ _ _ _ _ _ rfl))
  exact bodyPost_ret (v := .tuple #[.agg #[.int .i64 id, .string name, .bool may, .slice A fst.length c, .int .i64 ((PS.become fst (⟨x1, s0, u0, now0, q0⟩ : PS) x1 x2 1)).mode, .int .i64 ((PS.become fst (⟨x1, s0, u0, now0, q0⟩ : PS) x1 x2 1)).starts, .int .i64 ((PS.become fst (⟨x1, s0, u0, now0, q0⟩ : PS) x1 x2 1)).cause, .slice A fst.length c, .slice A3 ((PS.become fst (⟨x1, s0, u0, now0, q0⟩ : PS) x1 x2 1)).now.length c3, .int .i64 ((PS.become fst (⟨x1, s0, u0, now0, q0⟩ : PS) x1 x2 1)).wr], .int .i64 0]) (by simp [results, Try.results67, go_sem, c0_0, c0_1, c0_2, c0_3, c0_4, c0_5, c0_6, c0_7, c0_8, c0_9]) rfl ⟨_, _, rfl, HS.out.drop.drop⟩
set_option maxHeartbeats 1600000 in
set_option maxRecDepth 100000 in
theorem ract_no (h : St (SL.row (Kd.int .u32) 39 (.slice A2 (s).now.length c2) (s).now :: l) w0 w) (want x1 x2 x3 : Int) (hm : ∀ (l : List SL) (w : World), St l w0 w → Calls Try.prog 123 #[.int .i64 s.mode, .int .i64 want] w fun e w' => e = .returned (.tuple #[.int .i64 x1, .int .i64 x2, .int .i64 x3]) ∧ St l w0 w') (hst : x2 = 0 ∨ x2 = 1 ∨ x2 = 2) (hc : (x2 == 0) = true) (hC : k43.C w0 A fst.length fst) (hl : s.now.length = fst.length) (hs0 : 0 ≤ s.starts) (hs1 : s.starts ≤ 1000000) (hn : fst.length ≤ 1000) :
    Calls Try.prog 102 #[.agg #[.int .i64 id, .string name, .bool may, .slice A fst.length c, .int .i64 (s).mode, .int .i64 (s).starts, .int .i64 (s).cause, .slice A fst.length c, .slice A2 (s).now.length c2, .int .i64 (s).wr], .int .i64 want] w fun e w' => ∃ A3 c3, e = .returned (.tuple #[.agg #[.int .i64 id, .string name, .bool may, .slice A fst.length c, .int .i64 (s).mode, .int .i64 (s).starts, .int .i64 (s).cause, .slice A fst.length c, .slice A3 (s).now.length c3, .int .i64 (s).wr], .bool false]) ∧ St (SL.row (Kd.int .u32) 39 (.slice A3 (s).now.length c3) (s).now :: l) w0 w' := by
  obtain ⟨m0, s0, u0, now0, q0⟩ := s
  have HC := Go.Lib.hid hC
  have HL : Hid (now0.length = fst.length) := Go.Lib.hid hl
  have HS := Go.Lib.hid h
  have hs0' : 0 ≤ s0 := hs0
  have hs1' : s0 ≤ 1000000 := hs1
  clear hC hl h hs0 hs1
  have HM := Go.Lib.hid hm
  clear hm
  go_enter Try.func102, Try.ntmps102
  go_wp2_with (first | ((with_reducible refine gate_dst (N := 2) rfl ?_); refine Sl.box_st HS.out (by rfl) (cs := #[.int .i64 id, .string name, .bool may, .slice A fst.length c, .int .i64 (m0), .int .i64 (s0), .int .i64 (u0), .slice A fst.length c, .slice A2 now0.length c2, .int .i64 (q0)]) (t := 76) ?hr ?_; (case hr => first | (go_simp; done) | (go_simp; rfl)); intro g2 w1_ HSn HBn; clear HBn; replace HS : Hid (St (SL.blk g2 76 #[.int .i64 id, .string name, .bool may, .slice A fst.length c, .int .i64 (m0), .int .i64 (s0), .int .i64 (u0), .slice A fst.length c, .slice A2 now0.length c2, .int .i64 (q0)] :: SL.row (Kd.int .u32) 39 (.slice A2 now0.length c2) now0 :: l) w0 w1_) := Go.Lib.hid HSn; clear HSn; obtain ⟨c0_0, c0_1, c0_2, c0_3, c0_4, c0_5, c0_6, c0_7, c0_8, c0_9⟩ := HS.out.c10 0 _ _ _ _ _ _ _ _ _ _ _ _ rfl) | ((with_reducible refine gate_dst (N := 4) rfl ?_); refine Sl.box_st HS.out (by rfl) (cs := #[.int .i64 0, .string ⟨#[]⟩, .bool false, .slice none 0 0, .int .i64 0, .int .i64 0, .int .i64 0, .slice none 0 0, .slice none 0 0, .int .i64 0]) (t := 76) ?hr ?_; (case hr => first | (go_simp; done) | (go_simp; rfl)); intro g4 w2_ HSn HBn; clear HBn; replace HS : Hid (St (SL.blk g4 76 #[.int .i64 0, .string ⟨#[]⟩, .bool false, .slice none 0 0, .int .i64 0, .int .i64 0, .int .i64 0, .slice none 0 0, .slice none 0 0, .int .i64 0] :: SL.blk g2 76 #[.int .i64 id, .string name, .bool may, .slice A fst.length c, .int .i64 (m0), .int .i64 (s0), .int .i64 (u0), .slice A fst.length c, .slice A2 now0.length c2, .int .i64 (q0)] :: SL.row (Kd.int .u32) 39 (.slice A2 now0.length c2) now0 :: l) w0 w2_) := Go.Lib.hid HSn; clear HSn; clear c0_0 c0_1 c0_2 c0_3 c0_4 c0_5 c0_6 c0_7 c0_8 c0_9; obtain ⟨c0_0, c0_1, c0_2, c0_3, c0_4, c0_5, c0_6, c0_7, c0_8, c0_9⟩ := HS.out.c10 0 _ _ _ _ _ _ _ _ _ _ _ _ rfl; obtain ⟨c1_0, c1_1, c1_2, c1_3, c1_4, c1_5, c1_6, c1_7, c1_8, c1_9⟩ := HS.out.c10 1 _ _ _ _ _ _ _ _ _ _ _ _ rfl) | (go_at_call 123; refine (HM.out _ _ HS.out).mono ?_; rintro e w3_ ⟨rfl, HSn⟩; replace HS : Hid (St (SL.blk g4 76 #[.int .i64 0, .string ⟨#[]⟩, .bool false, .slice none 0 0, .int .i64 0, .int .i64 0, .int .i64 0, .slice none 0 0, .slice none 0 0, .int .i64 0] :: SL.blk g2 76 #[.int .i64 id, .string name, .bool may, .slice A fst.length c, .int .i64 (m0), .int .i64 (s0), .int .i64 (u0), .slice A fst.length c, .slice A2 now0.length c2, .int .i64 (q0)] :: SL.row (Kd.int .u32) 39 (.slice A2 now0.length c2) now0 :: l) w0 w3_) := Go.Lib.hid HSn; clear HSn; clear c0_0 c0_1 c0_2 c0_3 c0_4 c0_5 c0_6 c0_7 c0_8 c0_9 c1_0 c1_1 c1_2 c1_3 c1_4 c1_5 c1_6 c1_7 c1_8 c1_9; obtain ⟨c0_0, c0_1, c0_2, c0_3, c0_4, c0_5, c0_6, c0_7, c0_8, c0_9⟩ := HS.out.c10 0 _ _ _ _ _ _ _ _ _ _ _ _ rfl; obtain ⟨c1_0, c1_1, c1_2, c1_3, c1_4, c1_5, c1_6, c1_7, c1_8, c1_9⟩ := HS.out.c10 1 _ _ _ _ _ _ _ _ _ _ _ _ rfl) | ((with_reducible refine gate_store (p := 4) rfl ?_); refine Sl.storeAll_st HS.out 0 g4 76 _ rfl [.int .i64 id, .string name, .bool may, .slice A fst.length c, .int .i64 (m0), .int .i64 (s0), .int .i64 (u0), .slice A fst.length c, .slice A2 now0.length c2, .int .i64 (q0)] rfl (by rfl) (by rfl) ?hr ?_; (case hr => have f_ := HS.out.f10 0 _ _ _ _ _ _ _ _ _ _ _ _ rfl; (try obtain ⟨f0, f1, f2, f3, f4, f5, f6, f7, f8, f9⟩ := f_); first | (go_simp; done) | (go_simp; rfl)); intro w4_ HSn; replace HS : Hid (St (SL.blk g4 76 #[.int .i64 id, .string name, .bool may, .slice A fst.length c, .int .i64 (m0), .int .i64 (s0), .int .i64 (u0), .slice A fst.length c, .slice A2 now0.length c2, .int .i64 (q0)] :: SL.blk g2 76 #[.int .i64 id, .string name, .bool may, .slice A fst.length c, .int .i64 (m0), .int .i64 (s0), .int .i64 (u0), .slice A fst.length c, .slice A2 now0.length c2, .int .i64 (q0)] :: SL.row (Kd.int .u32) 39 (.slice A2 now0.length c2) now0 :: l) w0 w4_) := Go.Lib.hid HSn; clear HSn; clear c0_0 c0_1 c0_2 c0_3 c0_4 c0_5 c0_6 c0_7 c0_8 c0_9 c1_0 c1_1 c1_2 c1_3 c1_4 c1_5 c1_6 c1_7 c1_8 c1_9; obtain ⟨c0_0, c0_1, c0_2, c0_3, c0_4, c0_5, c0_6, c0_7, c0_8, c0_9⟩ := HS.out.c10 0 _ _ _ _ _ _ _ _ _ _ _ _ rfl; obtain ⟨c1_0, c1_1, c1_2, c1_3, c1_4, c1_5, c1_6, c1_7, c1_8, c1_9⟩ := HS.out.c10 1 _ _ _ _ _ _ _ _ _ _ _ _ rfl))
  exact bodyPost_ret (v := .tuple #[.agg #[.int .i64 id, .string name, .bool may, .slice A fst.length c, .int .i64 (m0), .int .i64 (s0), .int .i64 (u0), .slice A fst.length c, .slice A2 now0.length c2, .int .i64 (q0)], .bool false]) (by simp [results, Try.results102, go_sem, c0_0, c0_1, c0_2, c0_3, c0_4, c0_5, c0_6, c0_7, c0_8, c0_9]) rfl ⟨_, _, rfl, HS.out.drop.drop⟩
set_option maxHeartbeats 1600000 in
set_option maxRecDepth 100000 in
theorem ract_yes (h : St (SL.row (Kd.int .u32) 39 (.slice A2 (s).now.length c2) (s).now :: l) w0 w) (want x1 x2 x3 : Int) (hm : ∀ (l : List SL) (w : World), St l w0 w → Calls Try.prog 123 #[.int .i64 s.mode, .int .i64 want] w fun e w' => e = .returned (.tuple #[.int .i64 x1, .int .i64 x2, .int .i64 x3]) ∧ St l w0 w') (hst : x2 = 0 ∨ x2 = 1 ∨ x2 = 2) (hc : (x2 == 0) = false) (hC : k43.C w0 A fst.length fst) (hl : s.now.length = fst.length) (hs0 : 0 ≤ s.starts) (hs1 : s.starts ≤ 1000000) (hn : fst.length ≤ 1000) :
    Calls Try.prog 102 #[.agg #[.int .i64 id, .string name, .bool may, .slice A fst.length c, .int .i64 (s).mode, .int .i64 (s).starts, .int .i64 (s).cause, .slice A fst.length c, .slice A2 (s).now.length c2, .int .i64 (s).wr], .int .i64 want] w fun e w' => ∃ A3 c3, e = .returned (.tuple #[.agg #[.int .i64 id, .string name, .bool may, .slice A fst.length c, .int .i64 (PS.become fst s x1 x2 2).mode, .int .i64 (PS.become fst s x1 x2 2).starts, .int .i64 (PS.become fst s x1 x2 2).cause, .slice A fst.length c, .slice A3 (PS.become fst s x1 x2 2).now.length c3, .int .i64 (PS.become fst s x1 x2 2).wr], .bool true]) ∧ St (SL.row (Kd.int .u32) 39 (.slice A3 (PS.become fst s x1 x2 2).now.length c3) (PS.become fst s x1 x2 2).now :: l) w0 w' := by
  obtain ⟨m0, s0, u0, now0, q0⟩ := s
  have HC := Go.Lib.hid hC
  have HL : Hid (now0.length = fst.length) := Go.Lib.hid hl
  have HS := Go.Lib.hid h
  have hs0' : 0 ≤ s0 := hs0
  have hs1' : s0 ≤ 1000000 := hs1
  clear hC hl h hs0 hs1
  have HM := Go.Lib.hid hm
  clear hm
  go_enter Try.func102, Try.ntmps102
  go_wp2_with (first | ((with_reducible refine gate_dst (N := 2) rfl ?_); refine Sl.box_st HS.out (by rfl) (cs := #[.int .i64 id, .string name, .bool may, .slice A fst.length c, .int .i64 (m0), .int .i64 (s0), .int .i64 (u0), .slice A fst.length c, .slice A2 now0.length c2, .int .i64 (q0)]) (t := 76) ?hr ?_; (case hr => first | (go_simp; done) | (go_simp; rfl)); intro g2 w1_ HSn HBn; clear HBn; replace HS : Hid (St (SL.blk g2 76 #[.int .i64 id, .string name, .bool may, .slice A fst.length c, .int .i64 (m0), .int .i64 (s0), .int .i64 (u0), .slice A fst.length c, .slice A2 now0.length c2, .int .i64 (q0)] :: SL.row (Kd.int .u32) 39 (.slice A2 now0.length c2) now0 :: l) w0 w1_) := Go.Lib.hid HSn; clear HSn; obtain ⟨c0_0, c0_1, c0_2, c0_3, c0_4, c0_5, c0_6, c0_7, c0_8, c0_9⟩ := HS.out.c10 0 _ _ _ _ _ _ _ _ _ _ _ _ rfl) | ((with_reducible refine gate_dst (N := 4) rfl ?_); refine Sl.box_st HS.out (by rfl) (cs := #[.int .i64 0, .string ⟨#[]⟩, .bool false, .slice none 0 0, .int .i64 0, .int .i64 0, .int .i64 0, .slice none 0 0, .slice none 0 0, .int .i64 0]) (t := 76) ?hr ?_; (case hr => first | (go_simp; done) | (go_simp; rfl)); intro g4 w2_ HSn HBn; clear HBn; replace HS : Hid (St (SL.blk g4 76 #[.int .i64 0, .string ⟨#[]⟩, .bool false, .slice none 0 0, .int .i64 0, .int .i64 0, .int .i64 0, .slice none 0 0, .slice none 0 0, .int .i64 0] :: SL.blk g2 76 #[.int .i64 id, .string name, .bool may, .slice A fst.length c, .int .i64 (m0), .int .i64 (s0), .int .i64 (u0), .slice A fst.length c, .slice A2 now0.length c2, .int .i64 (q0)] :: SL.row (Kd.int .u32) 39 (.slice A2 now0.length c2) now0 :: l) w0 w2_) := Go.Lib.hid HSn; clear HSn; clear c0_0 c0_1 c0_2 c0_3 c0_4 c0_5 c0_6 c0_7 c0_8 c0_9; obtain ⟨c0_0, c0_1, c0_2, c0_3, c0_4, c0_5, c0_6, c0_7, c0_8, c0_9⟩ := HS.out.c10 0 _ _ _ _ _ _ _ _ _ _ _ _ rfl; obtain ⟨c1_0, c1_1, c1_2, c1_3, c1_4, c1_5, c1_6, c1_7, c1_8, c1_9⟩ := HS.out.c10 1 _ _ _ _ _ _ _ _ _ _ _ _ rfl) | (go_at_call 123; refine (HM.out _ _ HS.out).mono ?_; rintro e w3_ ⟨rfl, HSn⟩; replace HS : Hid (St (SL.blk g4 76 #[.int .i64 0, .string ⟨#[]⟩, .bool false, .slice none 0 0, .int .i64 0, .int .i64 0, .int .i64 0, .slice none 0 0, .slice none 0 0, .int .i64 0] :: SL.blk g2 76 #[.int .i64 id, .string name, .bool may, .slice A fst.length c, .int .i64 (m0), .int .i64 (s0), .int .i64 (u0), .slice A fst.length c, .slice A2 now0.length c2, .int .i64 (q0)] :: SL.row (Kd.int .u32) 39 (.slice A2 now0.length c2) now0 :: l) w0 w3_) := Go.Lib.hid HSn; clear HSn; clear c0_0 c0_1 c0_2 c0_3 c0_4 c0_5 c0_6 c0_7 c0_8 c0_9 c1_0 c1_1 c1_2 c1_3 c1_4 c1_5 c1_6 c1_7 c1_8 c1_9; obtain ⟨c0_0, c0_1, c0_2, c0_3, c0_4, c0_5, c0_6, c0_7, c0_8, c0_9⟩ := HS.out.c10 0 _ _ _ _ _ _ _ _ _ _ _ _ rfl; obtain ⟨c1_0, c1_1, c1_2, c1_3, c1_4, c1_5, c1_6, c1_7, c1_8, c1_9⟩ := HS.out.c10 1 _ _ _ _ _ _ _ _ _ _ _ _ rfl) | ((with_reducible refine gate_store (p := 21) rfl ?_); refine Sl.store_st HS.out 1 g2 76 _ rfl 4 (.int .i64 (x1)) (by rfl) (by rfl) ?hr ?_; (case hr => have f_ := HS.out.free 1 _ _ _ rfl 4; first | (go_simp; done) | (go_simp; rfl)); intro w4_ HSn; replace HS : Hid (St (SL.blk g4 76 #[.int .i64 0, .string ⟨#[]⟩, .bool false, .slice none 0 0, .int .i64 0, .int .i64 0, .int .i64 0, .slice none 0 0, .slice none 0 0, .int .i64 0] :: SL.blk g2 76 #[.int .i64 id, .string name, .bool may, .slice A fst.length c, .int .i64 (x1), .int .i64 (s0), .int .i64 (u0), .slice A fst.length c, .slice A2 now0.length c2, .int .i64 (q0)] :: SL.row (Kd.int .u32) 39 (.slice A2 now0.length c2) now0 :: l) w0 w4_) := Go.Lib.hid HSn; clear HSn; clear c0_0 c0_1 c0_2 c0_3 c0_4 c0_5 c0_6 c0_7 c0_8 c0_9 c1_0 c1_1 c1_2 c1_3 c1_4 c1_5 c1_6 c1_7 c1_8 c1_9; obtain ⟨c0_0, c0_1, c0_2, c0_3, c0_4, c0_5, c0_6, c0_7, c0_8, c0_9⟩ := HS.out.c10 0 _ _ _ _ _ _ _ _ _ _ _ _ rfl; obtain ⟨c1_0, c1_1, c1_2, c1_3, c1_4, c1_5, c1_6, c1_7, c1_8, c1_9⟩ := HS.out.c10 1 _ _ _ _ _ _ _ _ _ _ _ _ rfl))
  refine (rstart21 (s := (⟨x1, s0, u0, now0, q0⟩ : PS)) HS.out.up2 x2 2 hst HC.out HL.out hs0' hs1' hn).mono ?_
  rintro e w5_ ⟨A3, c3, rfl, HSm⟩
  have HSn := HSm.down
  replace HS : Hid (St (SL.blk g4 76 #[.int .i64 0, .string ⟨#[]⟩, .bool false, .slice none 0 0, .int .i64 0, .int .i64 0, .int .i64 0, .slice none 0 0, .slice none 0 0, .int .i64 0] :: SL.blk g2 76 #[.int .i64 id, .string name, .bool may, .slice A fst.length c, .int .i64 (x1), .int .i64 (s0), .int .i64 (u0), .slice A fst.length c, .slice A2 now0.length c2, .int .i64 (q0)] :: SL.row (Kd.int .u32) 39 (.slice A3 (PS.become fst (⟨x1, s0, u0, now0, q0⟩ : PS) x1 x2 2).now.length c3) (PS.become fst (⟨x1, s0, u0, now0, q0⟩ : PS) x1 x2 2).now :: l) w0 w5_) := Go.Lib.hid HSn
  clear HSn HSm
  clear c0_0 c0_1 c0_2 c0_3 c0_4 c0_5 c0_6 c0_7 c0_8 c0_9 c1_0 c1_1 c1_2 c1_3 c1_4 c1_5 c1_6 c1_7 c1_8 c1_9
  obtain ⟨c0_0, c0_1, c0_2, c0_3, c0_4, c0_5, c0_6, c0_7, c0_8, c0_9⟩ := HS.out.c10 0 _ _ _ _ _ _ _ _ _ _ _ _ rfl
  obtain ⟨c1_0, c1_1, c1_2, c1_3, c1_4, c1_5, c1_6, c1_7, c1_8, c1_9⟩ := HS.out.c10 1 _ _ _ _ _ _ _ _ _ _ _ _ rfl
  go_wp2_with (first | ((with_reducible refine gate_store (p := 4) rfl ?_); refine Sl.storeAll_st HS.out 0 g4 76 _ rfl [.int .i64 id, .string name, .bool may, .slice A fst.length c, .int .i64 ((PS.become fst (⟨x1, s0, u0, now0, q0⟩ : PS) x1 x2 2)).mode, .int .i64 ((PS.become fst (⟨x1, s0, u0, now0, q0⟩ : PS) x1 x2 2)).starts, .int .i64 ((PS.become fst (⟨x1, s0, u0, now0, q0⟩ : PS) x1 x2 2)).cause, .slice A fst.length c, .slice A3 ((PS.become fst (⟨x1, s0, u0, now0, q0⟩ : PS) x1 x2 2)).now.length c3, .int .i64 ((PS.become fst (⟨x1, s0, u0, now0, q0⟩ : PS) x1 x2 2)).wr] rfl (by rfl) (by rfl) ?hr ?_; (case hr => have f_ := HS.out.f10 0 _ _ _ _ _ _ _ _ _ _ _ _ rfl; (try obtain ⟨f0, f1, f2, f3, f4, f5, f6, f7, f8, f9⟩ := f_); first | (go_simp; done) | (go_simp; rfl)); intro w6_ HSn; replace HS : Hid (St (SL.blk g4 76 #[.int .i64 id, .string name, .bool may, .slice A fst.length c, .int .i64 ((PS.become fst (⟨x1, s0, u0, now0, q0⟩ : PS) x1 x2 2)).mode, .int .i64 ((PS.become fst (⟨x1, s0, u0, now0, q0⟩ : PS) x1 x2 2)).starts, .int .i64 ((PS.become fst (⟨x1, s0, u0, now0, q0⟩ : PS) x1 x2 2)).cause, .slice A fst.length c, .slice A3 ((PS.become fst (⟨x1, s0, u0, now0, q0⟩ : PS) x1 x2 2)).now.length c3, .int .i64 ((PS.become fst (⟨x1, s0, u0, now0, q0⟩ : PS) x1 x2 2)).wr] :: SL.blk g2 76 #[.int .i64 id, .string name, .bool may, .slice A fst.length c, .int .i64 (x1), .int .i64 (s0), .int .i64 (u0), .slice A fst.length c, .slice A2 now0.length c2, .int .i64 (q0)] :: SL.row (Kd.int .u32) 39 (.slice A3 (PS.become fst (⟨x1, s0, u0, now0, q0⟩ : PS) x1 x2 2).now.length c3) (PS.become fst (⟨x1, s0, u0, now0, q0⟩ : PS) x1 x2 2).now :: l) w0 w6_) := Go.Lib.hid HSn; clear HSn; clear c0_0 c0_1 c0_2 c0_3 c0_4 c0_5 c0_6 c0_7 c0_8 c0_9 c1_0 c1_1 c1_2 c1_3 c1_4 c1_5 c1_6 c1_7 c1_8 c1_9; obtain ⟨c0_0, c0_1, c0_2, c0_3, c0_4, c0_5, c0_6, c0_7, c0_8, c0_9⟩ := HS.out.c10 0 _ _ _ _ _ _ _ _ _ _ _ _ rfl; obtain ⟨c1_0, c1_1, c1_2, c1_3, c1_4, c1_5, c1_6, c1_7, c1_8, c1_9⟩ := HS.out.c10 1 _ _ _ _ _ _ _ _ _ _ _ _ rfl))
  exact bodyPost_ret (v := .tuple #[.agg #[.int .i64 id, .string name, .bool may, .slice A fst.length c, .int .i64 ((PS.become fst (⟨x1, s0, u0, now0, q0⟩ : PS) x1 x2 2)).mode, .int .i64 ((PS.become fst (⟨x1, s0, u0, now0, q0⟩ : PS) x1 x2 2)).starts, .int .i64 ((PS.become fst (⟨x1, s0, u0, now0, q0⟩ : PS) x1 x2 2)).cause, .slice A fst.length c, .slice A3 ((PS.become fst (⟨x1, s0, u0, now0, q0⟩ : PS) x1 x2 2)).now.length c3, .int .i64 ((PS.become fst (⟨x1, s0, u0, now0, q0⟩ : PS) x1 x2 2)).wr], .bool true]) (by simp [results, Try.results102, go_sem, c0_0, c0_1, c0_2, c0_3, c0_4, c0_5, c0_6, c0_7, c0_8, c0_9]) rfl ⟨_, _, rfl, HS.out.drop.drop⟩
theorem rsetMode (h : St (SL.row (Kd.int .u32) 39 (.slice A2 (s).now.length c2) (s).now :: l) w0 w) (want : Int) (hC : k43.C w0 A fst.length fst) (hl : s.now.length = fst.length) (hs0 : 0 ≤ s.starts) (hs1 : s.starts ≤ 1000000) (hn : fst.length ≤ 1000) :
    Calls Try.prog 67 #[.agg #[.int .i64 id, .string name, .bool may, .slice A fst.length c, .int .i64 (s).mode, .int .i64 (s).starts, .int .i64 (s).cause, .slice A fst.length c, .slice A2 (s).now.length c2, .int .i64 (s).wr], .int .i64 want] w fun e w' => ∃ A3 c3, e = .returned (.tuple #[.agg #[.int .i64 id, .string name, .bool may, .slice A fst.length c, .int .i64 (s.setMode fst want).mode, .int .i64 (s.setMode fst want).starts, .int .i64 (s.setMode fst want).cause, .slice A fst.length c, .slice A3 (s.setMode fst want).now.length c3, .int .i64 (s.setMode fst want).wr], .int .i64 (mset s.mode want).2.2]) ∧ St (SL.row (Kd.int .u32) 39 (.slice A3 (s.setMode fst want).now.length c3) (s.setMode fst want).now :: l) w0 w' := by
  unfold PS.setMode
  by_cases hz : (mset s.mode want).2.2 = 0
  · rw [if_pos hz, hz]
    exact rsetMode_yes h want _ _ 0 (fun l w hS => by have := rmset_st hS s.mode want; rw [hz] at this; exact this) (mset_start _ _) (by decide) hC hl hs0 hs1 hn
  · rw [if_neg hz]
    exact rsetMode_no h want _ _ _ (fun l w hS => rmset_st hS s.mode want) (mset_start _ _) (by rw [bne_iff_ne]; exact hz) hC hl hs0 hs1 hn
theorem ract21 (h : St (SL.row (Kd.int .u32) 39 (.slice A2 (s).now.length c2) (s).now :: l) w0 w) (want : Int) (hm0 : 0 ≤ s.mode) (hm1 : s.mode ≤ 3) (hC : k43.C w0 A fst.length fst) (hl : s.now.length = fst.length) (hs0 : 0 ≤ s.starts) (hs1 : s.starts ≤ 1000000) (hn : fst.length ≤ 1000) :
    Calls Try.prog 102 #[.agg #[.int .i64 id, .string name, .bool may, .slice A fst.length c, .int .i64 (s).mode, .int .i64 (s).starts, .int .i64 (s).cause, .slice A fst.length c, .slice A2 (s).now.length c2, .int .i64 (s).wr], .int .i64 want] w fun e w' => ∃ A3 c3, e = .returned (.tuple #[.agg #[.int .i64 id, .string name, .bool may, .slice A fst.length c, .int .i64 (s.act fst want).mode, .int .i64 (s.act fst want).starts, .int .i64 (s.act fst want).cause, .slice A fst.length c, .slice A3 (s.act fst want).now.length c3, .int .i64 (s.act fst want).wr], .bool (!decide ((actM s.mode want).2.1 = 0))]) ∧ St (SL.row (Kd.int .u32) 39 (.slice A3 (s.act fst want).now.length c3) (s.act fst want).now :: l) w0 w' := by
  unfold PS.act
  by_cases hz : (actM s.mode want).2.1 = 0
  · rw [if_pos hz, decide_eq_true hz]
    exact ract_no h want _ _ _ (fun l w hS => ract_st hS s.mode want hm0 hm1) (act_start _ _) (beq_iff_eq.2 hz) hC hl hs0 hs1 hn
  · rw [if_neg hz, decide_eq_false hz]
    exact ract_yes h want _ _ _ (fun l w hS => ract_st hS s.mode want hm0 hm1) (act_start _ _) (beq_eq_false_iff_ne.2 hz) hC hl hs0 hs1 hn
end Go.Proofs.Ytkmhgolohppliaa.Prt

/-! The document's partition: Cell, Write, New; a partition's shot, and its copy; shots held side by side. -/
namespace Go.Proofs.Ytkmhgolohppliaa.Prt
open Go.RowKit Go.Proofs.Ytkmhgolohppliaa.PCellsPlays Go.Proofs.YtkmhgolohppliaaW.PrintWords Go.Proofs.YtkmhgolohppliaaW.PrintLast Go.Proofs.YtkmhgolohppliaaW.PrintMore Go.Proofs.Ytkmhgolohppliaa.Mine Go.Proofs.Ytkmhgolohppliaa.Cel Go.Proofs.Ytkmhgolohppliaa.Cls
open Go.Proofs.Ytkmhgolohppliaa.Sl (SL Stp St No)
open Go.Proofs.Ytkmhgolohppliaa.Mod (strt actM runs right askd)
set_option linter.unusedVariables false
set_option linter.unusedSimpArgs false
attribute [local go_sem] max2_int min2_int max_two min_two max_three min_three max_four min_four
variable {l : List SL} {w0 w : World} {g : Nat} {id : Int} {name : ByteArray} {may : Bool} {fst : List S43} {s : PS}
variable {now : List Int} {A : Option Addr} {c : Nat} {A2 : Option Addr} {c2 : Nat}
set_option maxRecDepth 100000 in
theorem rcell_0 (h : St (SL.row (Kd.int .u32) 39 (.slice A2 (s).now.length c2) (s).now :: l) w0 w) (i : Int) (hz : (s.mode == 0) = true) :
    Calls Try.prog 101 #[.agg #[.int .i64 id, .string name, .bool may, .slice A fst.length c, .int .i64 (s).mode, .int .i64 (s).starts, .int .i64 (s).cause, .slice A fst.length c, .slice A2 (s).now.length c2, .int .i64 (s).wr], .int .i64 i] w fun e w' => e = .returned (.int .i64 5) ∧ St (SL.row (Kd.int .u32) 39 (.slice A2 (s).now.length c2) (s).now :: l) w0 w' := by
  obtain ⟨m0, s0, u0, now0, q0⟩ := s
  have HS := Go.Lib.hid h
  clear h
  go_enter Try.func101, Try.ntmps101
  go_wp2_with (first | ((with_reducible refine gate_dst (N := 2) rfl ?_); refine Sl.box_st HS.out (by rfl) (cs := #[.int .i64 id, .string name, .bool may, .slice A fst.length c, .int .i64 (m0), .int .i64 (s0), .int .i64 (u0), .slice A fst.length c, .slice A2 now0.length c2, .int .i64 (q0)]) (t := 76) ?hr ?_; (case hr => first | (go_simp; done) | (go_simp; rfl)); intro g2 w1_ HSn HBn; clear HBn; replace HS : Hid (St (SL.blk g2 76 #[.int .i64 id, .string name, .bool may, .slice A fst.length c, .int .i64 (m0), .int .i64 (s0), .int .i64 (u0), .slice A fst.length c, .slice A2 now0.length c2, .int .i64 (q0)] :: SL.row (Kd.int .u32) 39 (.slice A2 now0.length c2) now0 :: l) w0 w1_) := Go.Lib.hid HSn; clear HSn; obtain ⟨c0_0, c0_1, c0_2, c0_3, c0_4, c0_5, c0_6, c0_7, c0_8, c0_9⟩ := HS.out.c10 0 _ _ _ _ _ _ _ _ _ _ _ _ rfl))
  go_ret
  exact ⟨rfl, HS.out.drop⟩
set_option maxRecDepth 100000 in
theorem rcell_1 (h : St (SL.row (Kd.int .u32) 39 (.slice A2 (s).now.length c2) (s).now :: l) w0 w) (i : Int) (hz : (s.mode == 0) = false) (h1 : decide (i < 0) = true) :
    Calls Try.prog 101 #[.agg #[.int .i64 id, .string name, .bool may, .slice A fst.length c, .int .i64 (s).mode, .int .i64 (s).starts, .int .i64 (s).cause, .slice A fst.length c, .slice A2 (s).now.length c2, .int .i64 (s).wr], .int .i64 i] w fun e w' => e = .returned (.int .i64 3) ∧ St (SL.row (Kd.int .u32) 39 (.slice A2 (s).now.length c2) (s).now :: l) w0 w' := by
  obtain ⟨m0, s0, u0, now0, q0⟩ := s
  have HS := Go.Lib.hid h
  clear h
  go_enter Try.func101, Try.ntmps101
  go_wp2_with (first | ((with_reducible refine gate_dst (N := 2) rfl ?_); refine Sl.box_st HS.out (by rfl) (cs := #[.int .i64 id, .string name, .bool may, .slice A fst.length c, .int .i64 (m0), .int .i64 (s0), .int .i64 (u0), .slice A fst.length c, .slice A2 now0.length c2, .int .i64 (q0)]) (t := 76) ?hr ?_; (case hr => first | (go_simp; done) | (go_simp; rfl)); intro g2 w1_ HSn HBn; clear HBn; replace HS : Hid (St (SL.blk g2 76 #[.int .i64 id, .string name, .bool may, .slice A fst.length c, .int .i64 (m0), .int .i64 (s0), .int .i64 (u0), .slice A fst.length c, .slice A2 now0.length c2, .int .i64 (q0)] :: SL.row (Kd.int .u32) 39 (.slice A2 now0.length c2) now0 :: l) w0 w1_) := Go.Lib.hid HSn; clear HSn; obtain ⟨c0_0, c0_1, c0_2, c0_3, c0_4, c0_5, c0_6, c0_7, c0_8, c0_9⟩ := HS.out.c10 0 _ _ _ _ _ _ _ _ _ _ _ _ rfl))
  go_ret
  exact ⟨rfl, HS.out.drop⟩
set_option maxRecDepth 100000 in
theorem rcell_2 (h : St (SL.row (Kd.int .u32) 39 (.slice A2 (s).now.length c2) (s).now :: l) w0 w) (i : Int) (hz : (s.mode == 0) = false) (h1 : decide (i < 0) = false) (h2 : decide ((s.now.length : Int) ≤ i) = true) :
    Calls Try.prog 101 #[.agg #[.int .i64 id, .string name, .bool may, .slice A fst.length c, .int .i64 (s).mode, .int .i64 (s).starts, .int .i64 (s).cause, .slice A fst.length c, .slice A2 (s).now.length c2, .int .i64 (s).wr], .int .i64 i] w fun e w' => e = .returned (.int .i64 3) ∧ St (SL.row (Kd.int .u32) 39 (.slice A2 (s).now.length c2) (s).now :: l) w0 w' := by
  obtain ⟨m0, s0, u0, now0, q0⟩ := s
  have HS := Go.Lib.hid h
  clear h
  go_enter Try.func101, Try.ntmps101
  go_wp2_with (first | ((with_reducible refine gate_dst (N := 2) rfl ?_); refine Sl.box_st HS.out (by rfl) (cs := #[.int .i64 id, .string name, .bool may, .slice A fst.length c, .int .i64 (m0), .int .i64 (s0), .int .i64 (u0), .slice A fst.length c, .slice A2 now0.length c2, .int .i64 (q0)]) (t := 76) ?hr ?_; (case hr => first | (go_simp; done) | (go_simp; rfl)); intro g2 w1_ HSn HBn; clear HBn; replace HS : Hid (St (SL.blk g2 76 #[.int .i64 id, .string name, .bool may, .slice A fst.length c, .int .i64 (m0), .int .i64 (s0), .int .i64 (u0), .slice A fst.length c, .slice A2 now0.length c2, .int .i64 (q0)] :: SL.row (Kd.int .u32) 39 (.slice A2 now0.length c2) now0 :: l) w0 w1_) := Go.Lib.hid HSn; clear HSn; obtain ⟨c0_0, c0_1, c0_2, c0_3, c0_4, c0_5, c0_6, c0_7, c0_8, c0_9⟩ := HS.out.c10 0 _ _ _ _ _ _ _ _ _ _ _ _ rfl))
  go_ret
  exact ⟨rfl, HS.out.drop⟩
set_option maxRecDepth 100000 in
theorem rcell_3 (h : St (SL.row (Kd.int .u32) 39 (.slice A2 (s).now.length c2) (s).now :: l) w0 w) (i : Int) (hz : (s.mode == 0) = false) (h1 : decide (i < 0) = false) (h2 : decide ((s.now.length : Int) ≤ i) = false) :
    Calls Try.prog 101 #[.agg #[.int .i64 id, .string name, .bool may, .slice A fst.length c, .int .i64 (s).mode, .int .i64 (s).starts, .int .i64 (s).cause, .slice A fst.length c, .slice A2 (s).now.length c2, .int .i64 (s).wr], .int .i64 i] w fun e w' => e = .returned (.int .i64 0) ∧ St (SL.row (Kd.int .u32) 39 (.slice A2 (s).now.length c2) (s).now :: l) w0 w' := by
  obtain ⟨m0, s0, u0, now0, q0⟩ := s
  have HS := Go.Lib.hid h
  clear h
  go_enter Try.func101, Try.ntmps101
  go_wp2_with (first | ((with_reducible refine gate_dst (N := 2) rfl ?_); refine Sl.box_st HS.out (by rfl) (cs := #[.int .i64 id, .string name, .bool may, .slice A fst.length c, .int .i64 (m0), .int .i64 (s0), .int .i64 (u0), .slice A fst.length c, .slice A2 now0.length c2, .int .i64 (q0)]) (t := 76) ?hr ?_; (case hr => first | (go_simp; done) | (go_simp; rfl)); intro g2 w1_ HSn HBn; clear HBn; replace HS : Hid (St (SL.blk g2 76 #[.int .i64 id, .string name, .bool may, .slice A fst.length c, .int .i64 (m0), .int .i64 (s0), .int .i64 (u0), .slice A fst.length c, .slice A2 now0.length c2, .int .i64 (q0)] :: SL.row (Kd.int .u32) 39 (.slice A2 now0.length c2) now0 :: l) w0 w1_) := Go.Lib.hid HSn; clear HSn; obtain ⟨c0_0, c0_1, c0_2, c0_3, c0_4, c0_5, c0_6, c0_7, c0_8, c0_9⟩ := HS.out.c10 0 _ _ _ _ _ _ _ _ _ _ _ _ rfl))
  go_ret
  exact ⟨rfl, HS.out.drop⟩
theorem rcell_calls (h : St (SL.row (Kd.int .u32) 39 (.slice A2 (s).now.length c2) (s).now :: l) w0 w) (i : Int) (hm0 : 0 ≤ s.mode) (hm1 : s.mode ≤ 3) :
    Calls Try.prog 101 #[.agg #[.int .i64 id, .string name, .bool may, .slice A fst.length c, .int .i64 (s).mode, .int .i64 (s).starts, .int .i64 (s).cause, .slice A fst.length c, .slice A2 (s).now.length c2, .int .i64 (s).wr], .int .i64 i] w fun e w' => e = .returned (.int .i64 (s.cell i)) ∧ St (SL.row (Kd.int .u32) 39 (.slice A2 (s).now.length c2) (s).now :: l) w0 w' := by
  by_cases hz : s.mode = 0
  · have e : s.cell i = 5 := by
      unfold PS.cell
      rw [if_neg (by rw [hz]; decide)]
    rw [e]; exact rcell_0 h i (beq_iff_eq.2 hz)
  · have hr : runs s.mode = true := by unfold runs; simp; omega
    have hz' := beq_eq_false_iff_ne.2 hz
    by_cases h1 : i < 0
    · have e : s.cell i = 3 := by
        unfold PS.cell
        rw [if_pos hr, if_neg (by unfold inB; simp; omega)]
      rw [e]; exact rcell_1 h i hz' (by simpa using h1)
    · by_cases h2 : (s.now.length : Int) ≤ i
      · have e : s.cell i = 3 := by
          unfold PS.cell
          rw [if_pos hr, if_neg (by unfold inB; simp; omega)]
        rw [e]; exact rcell_2 h i hz' (by simpa using h1) (by simpa using h2)
      · have e : s.cell i = 0 := by
          unfold PS.cell
          rw [if_pos hr, if_pos (by unfold inB; simp; omega)]
        rw [e]; exact rcell_3 h i hz' (by simpa using h1) (by simpa using h2)
set_option maxHeartbeats 1600000 in
set_option maxRecDepth 100000 in
theorem rwrite_no (h : St (SL.row (Kd.int .u32) 39 (.slice A2 (s).now.length c2) (s).now :: l) w0 w) (i x k : Int) (hm0 : 0 ≤ s.mode) (hm1 : s.mode ≤ 3) (hk : s.cell i = k) (hz : (k == 0) = false) (hq0 : 0 ≤ s.wr) (hq1 : s.wr ≤ 1000000) (hn2 : s.now.length ≤ 1000000) :
    Calls Try.prog 69 #[.agg #[.int .i64 id, .string name, .bool may, .slice A fst.length c, .int .i64 (s).mode, .int .i64 (s).starts, .int .i64 (s).cause, .slice A fst.length c, .slice A2 (s).now.length c2, .int .i64 (s).wr], .int .i64 i, .int .u32 x] w fun e w' => ∃ A3 c3, e = .returned (.tuple #[.agg #[.int .i64 id, .string name, .bool may, .slice A fst.length c, .int .i64 ((s : PS)).mode, .int .i64 ((s : PS)).starts, .int .i64 ((s : PS)).cause, .slice A fst.length c, .slice A3 ((s : PS)).now.length c3, .int .i64 ((s : PS)).wr], .int .i64 k]) ∧ St (SL.row (Kd.int .u32) 39 (.slice A3 ((s : PS)).now.length c3) ((s : PS)).now :: l) w0 w' := by
  have HK : Hid (∀ (l : List SL) (w : World), St (SL.row (Kd.int .u32) 39 (.slice A2 (s).now.length c2) (s).now :: l) w0 w → Calls Try.prog 101 #[.agg #[.int .i64 id, .string name, .bool may, .slice A fst.length c, .int .i64 (s).mode, .int .i64 (s).starts, .int .i64 (s).cause, .slice A fst.length c, .slice A2 (s).now.length c2, .int .i64 (s).wr], .int .i64 i] w fun e w' => e = .returned (.int .i64 k) ∧ St (SL.row (Kd.int .u32) 39 (.slice A2 (s).now.length c2) (s).now :: l) w0 w') := Go.Lib.hid (fun l w hS => by rw [← hk]; exact rcell_calls hS i hm0 hm1)
  clear hk
  obtain ⟨m0, s0, u0, now0, q0⟩ := s
  have HS := Go.Lib.hid h
  clear h
  have hq0' : 0 ≤ q0 := hq0
  have hq1' : q0 ≤ 1000000 := hq1
  clear hq0 hq1
  go_enter Try.func69, Try.ntmps69
  go_wp2_with (first | ((with_reducible refine gate_dst (N := 3) rfl ?_); refine Sl.box_st HS.out (by rfl) (cs := #[.int .i64 id, .string name, .bool may, .slice A fst.length c, .int .i64 (m0), .int .i64 (s0), .int .i64 (u0), .slice A fst.length c, .slice A2 now0.length c2, .int .i64 (q0)]) (t := 76) ?hr ?_; (case hr => first | (go_simp; done) | (go_simp; rfl)); intro g3 w1_ HSn HBn; clear HBn; replace HS : Hid (St (SL.blk g3 76 #[.int .i64 id, .string name, .bool may, .slice A fst.length c, .int .i64 (m0), .int .i64 (s0), .int .i64 (u0), .slice A fst.length c, .slice A2 now0.length c2, .int .i64 (q0)] :: SL.row (Kd.int .u32) 39 (.slice A2 now0.length c2) now0 :: l) w0 w1_) := Go.Lib.hid HSn; clear HSn; obtain ⟨c0_0, c0_1, c0_2, c0_3, c0_4, c0_5, c0_6, c0_7, c0_8, c0_9⟩ := HS.out.c10 0 _ _ _ _ _ _ _ _ _ _ _ _ rfl) | ((with_reducible refine gate_dst (N := 6) rfl ?_); refine Sl.box_st HS.out (by rfl) (cs := #[.int .i64 0, .string ⟨#[]⟩, .bool false, .slice none 0 0, .int .i64 0, .int .i64 0, .int .i64 0, .slice none 0 0, .slice none 0 0, .int .i64 0]) (t := 76) ?hr ?_; (case hr => first | (go_simp; done) | (go_simp; rfl)); intro g6 w2_ HSn HBn; clear HBn; replace HS : Hid (St (SL.blk g6 76 #[.int .i64 0, .string ⟨#[]⟩, .bool false, .slice none 0 0, .int .i64 0, .int .i64 0, .int .i64 0, .slice none 0 0, .slice none 0 0, .int .i64 0] :: SL.blk g3 76 #[.int .i64 id, .string name, .bool may, .slice A fst.length c, .int .i64 (m0), .int .i64 (s0), .int .i64 (u0), .slice A fst.length c, .slice A2 now0.length c2, .int .i64 (q0)] :: SL.row (Kd.int .u32) 39 (.slice A2 now0.length c2) now0 :: l) w0 w2_) := Go.Lib.hid HSn; clear HSn; clear c0_0 c0_1 c0_2 c0_3 c0_4 c0_5 c0_6 c0_7 c0_8 c0_9; obtain ⟨c0_0, c0_1, c0_2, c0_3, c0_4, c0_5, c0_6, c0_7, c0_8, c0_9⟩ := HS.out.c10 0 _ _ _ _ _ _ _ _ _ _ _ _ rfl; obtain ⟨c1_0, c1_1, c1_2, c1_3, c1_4, c1_5, c1_6, c1_7, c1_8, c1_9⟩ := HS.out.c10 1 _ _ _ _ _ _ _ _ _ _ _ _ rfl))
  refine (HK.out _ _ HS.out.up2).mono ?_
  rintro e w3_ ⟨rfl, HSm⟩
  have HSn := HSm.down
  replace HS : Hid (St (SL.blk g6 76 #[.int .i64 0, .string ⟨#[]⟩, .bool false, .slice none 0 0, .int .i64 0, .int .i64 0, .int .i64 0, .slice none 0 0, .slice none 0 0, .int .i64 0] :: SL.blk g3 76 #[.int .i64 id, .string name, .bool may, .slice A fst.length c, .int .i64 (m0), .int .i64 (s0), .int .i64 (u0), .slice A fst.length c, .slice A2 now0.length c2, .int .i64 (q0)] :: SL.row (Kd.int .u32) 39 (.slice A2 now0.length c2) now0 :: l) w0 w3_) := Go.Lib.hid HSn
  clear HSn HSm
  clear c0_0 c0_1 c0_2 c0_3 c0_4 c0_5 c0_6 c0_7 c0_8 c0_9 c1_0 c1_1 c1_2 c1_3 c1_4 c1_5 c1_6 c1_7 c1_8 c1_9
  obtain ⟨c0_0, c0_1, c0_2, c0_3, c0_4, c0_5, c0_6, c0_7, c0_8, c0_9⟩ := HS.out.c10 0 _ _ _ _ _ _ _ _ _ _ _ _ rfl
  obtain ⟨c1_0, c1_1, c1_2, c1_3, c1_4, c1_5, c1_6, c1_7, c1_8, c1_9⟩ := HS.out.c10 1 _ _ _ _ _ _ _ _ _ _ _ _ rfl
  go_wp2_with (first | ((with_reducible refine gate_store (p := 6) rfl ?_); refine Sl.storeAll_st HS.out 0 g6 76 _ rfl [.int .i64 id, .string name, .bool may, .slice A fst.length c, .int .i64 (m0), .int .i64 (s0), .int .i64 (u0), .slice A fst.length c, .slice A2 now0.length c2, .int .i64 (q0)] rfl (by rfl) (by rfl) ?hr ?_; (case hr => have f_ := HS.out.f10 0 _ _ _ _ _ _ _ _ _ _ _ _ rfl; (try obtain ⟨f0, f1, f2, f3, f4, f5, f6, f7, f8, f9⟩ := f_); first | (go_simp; done) | (go_simp; rfl)); intro w4_ HSn; replace HS : Hid (St (SL.blk g6 76 #[.int .i64 id, .string name, .bool may, .slice A fst.length c, .int .i64 (m0), .int .i64 (s0), .int .i64 (u0), .slice A fst.length c, .slice A2 now0.length c2, .int .i64 (q0)] :: SL.blk g3 76 #[.int .i64 id, .string name, .bool may, .slice A fst.length c, .int .i64 (m0), .int .i64 (s0), .int .i64 (u0), .slice A fst.length c, .slice A2 now0.length c2, .int .i64 (q0)] :: SL.row (Kd.int .u32) 39 (.slice A2 now0.length c2) now0 :: l) w0 w4_) := Go.Lib.hid HSn; clear HSn; clear c0_0 c0_1 c0_2 c0_3 c0_4 c0_5 c0_6 c0_7 c0_8 c0_9 c1_0 c1_1 c1_2 c1_3 c1_4 c1_5 c1_6 c1_7 c1_8 c1_9; obtain ⟨c0_0, c0_1, c0_2, c0_3, c0_4, c0_5, c0_6, c0_7, c0_8, c0_9⟩ := HS.out.c10 0 _ _ _ _ _ _ _ _ _ _ _ _ rfl; obtain ⟨c1_0, c1_1, c1_2, c1_3, c1_4, c1_5, c1_6, c1_7, c1_8, c1_9⟩ := HS.out.c10 1 _ _ _ _ _ _ _ _ _ _ _ _ rfl))
  exact bodyPost_ret (v := .tuple #[.agg #[.int .i64 id, .string name, .bool may, .slice A fst.length c, .int .i64 (m0), .int .i64 (s0), .int .i64 (u0), .slice A fst.length c, .slice A2 now0.length c2, .int .i64 (q0)], .int .i64 k]) (by simp [results, Try.results69, go_sem, c0_0, c0_1, c0_2, c0_3, c0_4, c0_5, c0_6, c0_7, c0_8, c0_9]) rfl ⟨_, _, rfl, HS.out.drop.drop⟩
set_option maxHeartbeats 1600000 in
set_option maxRecDepth 100000 in
theorem rwrite_yes (h : St (SL.row (Kd.int .u32) 39 (.slice A2 (s).now.length c2) (s).now :: l) w0 w) (i x : Int) (hm0 : 0 ≤ s.mode) (hm1 : s.mode ≤ 3) (hk : s.cell i = 0) (hq0 : 0 ≤ s.wr) (hq1 : s.wr ≤ 1000000) (hn2 : s.now.length ≤ 1000000) :
    Calls Try.prog 69 #[.agg #[.int .i64 id, .string name, .bool may, .slice A fst.length c, .int .i64 (s).mode, .int .i64 (s).starts, .int .i64 (s).cause, .slice A fst.length c, .slice A2 (s).now.length c2, .int .i64 (s).wr], .int .i64 i, .int .u32 x] w fun e w' => ∃ A3 c3, e = .returned (.tuple #[.agg #[.int .i64 id, .string name, .bool may, .slice A fst.length c, .int .i64 ((⟨s.mode, s.starts, s.cause, setN s.now i x, setM s.now i s.wr⟩ : PS)).mode, .int .i64 ((⟨s.mode, s.starts, s.cause, setN s.now i x, setM s.now i s.wr⟩ : PS)).starts, .int .i64 ((⟨s.mode, s.starts, s.cause, setN s.now i x, setM s.now i s.wr⟩ : PS)).cause, .slice A fst.length c, .slice A3 ((⟨s.mode, s.starts, s.cause, setN s.now i x, setM s.now i s.wr⟩ : PS)).now.length c3, .int .i64 ((⟨s.mode, s.starts, s.cause, setN s.now i x, setM s.now i s.wr⟩ : PS)).wr], .int .i64 0]) ∧ St (SL.row (Kd.int .u32) 39 (.slice A3 ((⟨s.mode, s.starts, s.cause, setN s.now i x, setM s.now i s.wr⟩ : PS)).now.length c3) ((⟨s.mode, s.starts, s.cause, setN s.now i x, setM s.now i s.wr⟩ : PS)).now :: l) w0 w' := by
  have HK : Hid (∀ (l : List SL) (w : World), St (SL.row (Kd.int .u32) 39 (.slice A2 (s).now.length c2) (s).now :: l) w0 w → Calls Try.prog 101 #[.agg #[.int .i64 id, .string name, .bool may, .slice A fst.length c, .int .i64 (s).mode, .int .i64 (s).starts, .int .i64 (s).cause, .slice A fst.length c, .slice A2 (s).now.length c2, .int .i64 (s).wr], .int .i64 i] w fun e w' => e = .returned (.int .i64 0) ∧ St (SL.row (Kd.int .u32) 39 (.slice A2 (s).now.length c2) (s).now :: l) w0 w') := Go.Lib.hid (fun l w hS => by rw [← hk]; exact rcell_calls hS i hm0 hm1)
  clear hk
  obtain ⟨m0, s0, u0, now0, q0⟩ := s
  have HS := Go.Lib.hid h
  clear h
  have hq0' : 0 ≤ q0 := hq0
  have hq1' : q0 ≤ 1000000 := hq1
  clear hq0 hq1
  go_enter Try.func69, Try.ntmps69
  go_wp2_with (first | ((with_reducible refine gate_dst (N := 3) rfl ?_); refine Sl.box_st HS.out (by rfl) (cs := #[.int .i64 id, .string name, .bool may, .slice A fst.length c, .int .i64 (m0), .int .i64 (s0), .int .i64 (u0), .slice A fst.length c, .slice A2 now0.length c2, .int .i64 (q0)]) (t := 76) ?hr ?_; (case hr => first | (go_simp; done) | (go_simp; rfl)); intro g3 w1_ HSn HBn; clear HBn; replace HS : Hid (St (SL.blk g3 76 #[.int .i64 id, .string name, .bool may, .slice A fst.length c, .int .i64 (m0), .int .i64 (s0), .int .i64 (u0), .slice A fst.length c, .slice A2 now0.length c2, .int .i64 (q0)] :: SL.row (Kd.int .u32) 39 (.slice A2 now0.length c2) now0 :: l) w0 w1_) := Go.Lib.hid HSn; clear HSn; obtain ⟨c0_0, c0_1, c0_2, c0_3, c0_4, c0_5, c0_6, c0_7, c0_8, c0_9⟩ := HS.out.c10 0 _ _ _ _ _ _ _ _ _ _ _ _ rfl) | ((with_reducible refine gate_dst (N := 6) rfl ?_); refine Sl.box_st HS.out (by rfl) (cs := #[.int .i64 0, .string ⟨#[]⟩, .bool false, .slice none 0 0, .int .i64 0, .int .i64 0, .int .i64 0, .slice none 0 0, .slice none 0 0, .int .i64 0]) (t := 76) ?hr ?_; (case hr => first | (go_simp; done) | (go_simp; rfl)); intro g6 w2_ HSn HBn; clear HBn; replace HS : Hid (St (SL.blk g6 76 #[.int .i64 0, .string ⟨#[]⟩, .bool false, .slice none 0 0, .int .i64 0, .int .i64 0, .int .i64 0, .slice none 0 0, .slice none 0 0, .int .i64 0] :: SL.blk g3 76 #[.int .i64 id, .string name, .bool may, .slice A fst.length c, .int .i64 (m0), .int .i64 (s0), .int .i64 (u0), .slice A fst.length c, .slice A2 now0.length c2, .int .i64 (q0)] :: SL.row (Kd.int .u32) 39 (.slice A2 now0.length c2) now0 :: l) w0 w2_) := Go.Lib.hid HSn; clear HSn; clear c0_0 c0_1 c0_2 c0_3 c0_4 c0_5 c0_6 c0_7 c0_8 c0_9; obtain ⟨c0_0, c0_1, c0_2, c0_3, c0_4, c0_5, c0_6, c0_7, c0_8, c0_9⟩ := HS.out.c10 0 _ _ _ _ _ _ _ _ _ _ _ _ rfl; obtain ⟨c1_0, c1_1, c1_2, c1_3, c1_4, c1_5, c1_6, c1_7, c1_8, c1_9⟩ := HS.out.c10 1 _ _ _ _ _ _ _ _ _ _ _ _ rfl))
  refine (HK.out _ _ HS.out.up2).mono ?_
  rintro e w3_ ⟨rfl, HSm⟩
  have HSn := HSm.down
  replace HS : Hid (St (SL.blk g6 76 #[.int .i64 0, .string ⟨#[]⟩, .bool false, .slice none 0 0, .int .i64 0, .int .i64 0, .int .i64 0, .slice none 0 0, .slice none 0 0, .int .i64 0] :: SL.blk g3 76 #[.int .i64 id, .string name, .bool may, .slice A fst.length c, .int .i64 (m0), .int .i64 (s0), .int .i64 (u0), .slice A fst.length c, .slice A2 now0.length c2, .int .i64 (q0)] :: SL.row (Kd.int .u32) 39 (.slice A2 now0.length c2) now0 :: l) w0 w3_) := Go.Lib.hid HSn
  clear HSn HSm
  clear c0_0 c0_1 c0_2 c0_3 c0_4 c0_5 c0_6 c0_7 c0_8 c0_9 c1_0 c1_1 c1_2 c1_3 c1_4 c1_5 c1_6 c1_7 c1_8 c1_9
  obtain ⟨c0_0, c0_1, c0_2, c0_3, c0_4, c0_5, c0_6, c0_7, c0_8, c0_9⟩ := HS.out.c10 0 _ _ _ _ _ _ _ _ _ _ _ _ rfl
  obtain ⟨c1_0, c1_1, c1_2, c1_3, c1_4, c1_5, c1_6, c1_7, c1_8, c1_9⟩ := HS.out.c10 1 _ _ _ _ _ _ _ _ _ _ _ _ rfl
  go_wp2_with (first | (go_at_call 33; refine (rset_st HS.out 2 A fst.length c A2 c2 rfl i x hn2 hq0' hq1').mono ?_; rintro e w4_ ⟨A3, c3, rfl, HSn⟩; replace HS : Hid (St (SL.blk g6 76 #[.int .i64 0, .string ⟨#[]⟩, .bool false, .slice none 0 0, .int .i64 0, .int .i64 0, .int .i64 0, .slice none 0 0, .slice none 0 0, .int .i64 0] :: SL.blk g3 76 #[.int .i64 id, .string name, .bool may, .slice A fst.length c, .int .i64 (m0), .int .i64 (s0), .int .i64 (u0), .slice A fst.length c, .slice A2 now0.length c2, .int .i64 (q0)] :: SL.row (Kd.int .u32) 39 (.slice A3 (setN now0 i x).length c3) (setN now0 i x) :: l) w0 w4_) := Go.Lib.hid HSn; clear HSn; clear c0_0 c0_1 c0_2 c0_3 c0_4 c0_5 c0_6 c0_7 c0_8 c0_9 c1_0 c1_1 c1_2 c1_3 c1_4 c1_5 c1_6 c1_7 c1_8 c1_9; obtain ⟨c0_0, c0_1, c0_2, c0_3, c0_4, c0_5, c0_6, c0_7, c0_8, c0_9⟩ := HS.out.c10 0 _ _ _ _ _ _ _ _ _ _ _ _ rfl; obtain ⟨c1_0, c1_1, c1_2, c1_3, c1_4, c1_5, c1_6, c1_7, c1_8, c1_9⟩ := HS.out.c10 1 _ _ _ _ _ _ _ _ _ _ _ _ rfl) | ((with_reducible refine gate_store (p := 22) rfl ?_); refine Sl.storePart_st HS.out 1 g3 76 _ rfl 7 [.slice A fst.length c, .slice A3 (setN now0 i x).length c3, .int .i64 (setM now0 i q0)] (Nat.le_of_ble_eq_true rfl) #[.int .i64 id, .string name, .bool may, .slice A fst.length c, .int .i64 (m0), .int .i64 (s0), .int .i64 (u0), .slice A fst.length c, .slice A3 (setN now0 i x).length c3, .int .i64 (setM now0 i q0)] rfl (by rfl) (by rfl) ?hr ?_; (case hr => have f_ := HS.out.f10 1 _ _ _ _ _ _ _ _ _ _ _ _ rfl; (try obtain ⟨f0, f1, f2, f3, f4, f5, f6, f7, f8, f9⟩ := f_); first | (go_simp; done) | (go_simp; rfl)); intro w5_ HSn; replace HS : Hid (St (SL.blk g6 76 #[.int .i64 0, .string ⟨#[]⟩, .bool false, .slice none 0 0, .int .i64 0, .int .i64 0, .int .i64 0, .slice none 0 0, .slice none 0 0, .int .i64 0] :: SL.blk g3 76 #[.int .i64 id, .string name, .bool may, .slice A fst.length c, .int .i64 (m0), .int .i64 (s0), .int .i64 (u0), .slice A fst.length c, .slice A3 (setN now0 i x).length c3, .int .i64 (setM now0 i q0)] :: SL.row (Kd.int .u32) 39 (.slice A3 (setN now0 i x).length c3) (setN now0 i x) :: l) w0 w5_) := Go.Lib.hid HSn; clear HSn; clear c0_0 c0_1 c0_2 c0_3 c0_4 c0_5 c0_6 c0_7 c0_8 c0_9 c1_0 c1_1 c1_2 c1_3 c1_4 c1_5 c1_6 c1_7 c1_8 c1_9; obtain ⟨c0_0, c0_1, c0_2, c0_3, c0_4, c0_5, c0_6, c0_7, c0_8, c0_9⟩ := HS.out.c10 0 _ _ _ _ _ _ _ _ _ _ _ _ rfl; obtain ⟨c1_0, c1_1, c1_2, c1_3, c1_4, c1_5, c1_6, c1_7, c1_8, c1_9⟩ := HS.out.c10 1 _ _ _ _ _ _ _ _ _ _ _ _ rfl) | ((with_reducible refine gate_store (p := 6) rfl ?_); refine Sl.storeAll_st HS.out 0 g6 76 _ rfl [.int .i64 id, .string name, .bool may, .slice A fst.length c, .int .i64 (m0), .int .i64 (s0), .int .i64 (u0), .slice A fst.length c, .slice A3 (setN now0 i x).length c3, .int .i64 (setM now0 i q0)] rfl (by rfl) (by rfl) ?hr ?_; (case hr => have f_ := HS.out.f10 0 _ _ _ _ _ _ _ _ _ _ _ _ rfl; (try obtain ⟨f0, f1, f2, f3, f4, f5, f6, f7, f8, f9⟩ := f_); first | (go_simp; done) | (go_simp; rfl)); intro w6_ HSn; replace HS : Hid (St (SL.blk g6 76 #[.int .i64 id, .string name, .bool may, .slice A fst.length c, .int .i64 (m0), .int .i64 (s0), .int .i64 (u0), .slice A fst.length c, .slice A3 (setN now0 i x).length c3, .int .i64 (setM now0 i q0)] :: SL.blk g3 76 #[.int .i64 id, .string name, .bool may, .slice A fst.length c, .int .i64 (m0), .int .i64 (s0), .int .i64 (u0), .slice A fst.length c, .slice A3 (setN now0 i x).length c3, .int .i64 (setM now0 i q0)] :: SL.row (Kd.int .u32) 39 (.slice A3 (setN now0 i x).length c3) (setN now0 i x) :: l) w0 w6_) := Go.Lib.hid HSn; clear HSn; clear c0_0 c0_1 c0_2 c0_3 c0_4 c0_5 c0_6 c0_7 c0_8 c0_9 c1_0 c1_1 c1_2 c1_3 c1_4 c1_5 c1_6 c1_7 c1_8 c1_9; obtain ⟨c0_0, c0_1, c0_2, c0_3, c0_4, c0_5, c0_6, c0_7, c0_8, c0_9⟩ := HS.out.c10 0 _ _ _ _ _ _ _ _ _ _ _ _ rfl; obtain ⟨c1_0, c1_1, c1_2, c1_3, c1_4, c1_5, c1_6, c1_7, c1_8, c1_9⟩ := HS.out.c10 1 _ _ _ _ _ _ _ _ _ _ _ _ rfl))
  exact bodyPost_ret (v := .tuple #[.agg #[.int .i64 id, .string name, .bool may, .slice A fst.length c, .int .i64 (m0), .int .i64 (s0), .int .i64 (u0), .slice A fst.length c, .slice A3 (setN now0 i x).length c3, .int .i64 (setM now0 i q0)], .int .i64 0]) (by simp [results, Try.results69, go_sem, c0_0, c0_1, c0_2, c0_3, c0_4, c0_5, c0_6, c0_7, c0_8, c0_9]) rfl ⟨_, _, rfl, HS.out.drop.drop⟩
theorem rwrite (h : St (SL.row (Kd.int .u32) 39 (.slice A2 (s).now.length c2) (s).now :: l) w0 w) (i x : Int) (hm0 : 0 ≤ s.mode) (hm1 : s.mode ≤ 3) (hq0 : 0 ≤ s.wr) (hq1 : s.wr ≤ 1000000) (hn2 : s.now.length ≤ 1000000) :
    Calls Try.prog 69 #[.agg #[.int .i64 id, .string name, .bool may, .slice A fst.length c, .int .i64 (s).mode, .int .i64 (s).starts, .int .i64 (s).cause, .slice A fst.length c, .slice A2 (s).now.length c2, .int .i64 (s).wr], .int .i64 i, .int .u32 x] w fun e w' => ∃ A3 c3, e = .returned (.tuple #[.agg #[.int .i64 id, .string name, .bool may, .slice A fst.length c, .int .i64 (s.write i x).mode, .int .i64 (s.write i x).starts, .int .i64 (s.write i x).cause, .slice A fst.length c, .slice A3 (s.write i x).now.length c3, .int .i64 (s.write i x).wr], .int .i64 (s.cell i)]) ∧ St (SL.row (Kd.int .u32) 39 (.slice A3 (s.write i x).now.length c3) (s.write i x).now :: l) w0 w' := by
  unfold PS.write
  by_cases hk : s.cell i = 0
  · rw [if_pos hk, hk]
    exact rwrite_yes h i x hm0 hm1 hk hq0 hq1 hn2
  · rw [if_neg hk]
    exact rwrite_no h i x _ hm0 hm1 rfl (beq_eq_false_iff_ne.2 hk) hq0 hq1 hn2
set_option maxHeartbeats 1600000 in
set_option maxRecDepth 100000 in
theorem rnew21 (h : St l w0 w) (hC : k43.C w0 A fst.length fst) (hn : fst.length ≤ 1000) :
    Calls Try.prog 45 #[.agg #[.int .i64 id, .string name, .bool may, .slice A fst.length c]] w fun e w' => ∃ A3 c3, e = .returned (.agg #[.int .i64 id, .string name, .bool may, .slice A fst.length c, .int .i64 ((PS.init fst)).mode, .int .i64 ((PS.init fst)).starts, .int .i64 ((PS.init fst)).cause, .slice A fst.length c, .slice A3 ((PS.init fst)).now.length c3, .int .i64 ((PS.init fst)).wr]) ∧ St (SL.row (Kd.int .u32) 39 (.slice A3 ((PS.init fst)).now.length c3) ((PS.init fst)).now :: l) w0 w' := by
  have HC := Go.Lib.hid hC
  have HS := Go.Lib.hid h
  clear hC h
  go_enter Try.func45, Try.ntmps45
  go_wp2_with (first | ((with_reducible refine gate_dst (N := 1) rfl ?_); refine Sl.box_st HS.out (by rfl) (cs := #[.int .i64 id, .string name, .bool may, .slice A fst.length c]) (t := 63) ?hr ?_; (case hr => first | (go_simp; done) | (go_simp; rfl)); intro g1 w1_ HSn HBn; clear HBn; replace HS : Hid (St (SL.blk g1 63 #[.int .i64 id, .string name, .bool may, .slice A fst.length c] :: l) w0 w1_) := Go.Lib.hid HSn; clear HSn; obtain ⟨c0_0, c0_1, c0_2, c0_3⟩ := HS.out.c4 0 _ _ _ _ _ _ rfl) | ((with_reducible refine gate_dst (N := 2) rfl ?_); refine Sl.box_st HS.out (by rfl) (cs := #[.int .i64 0, .string ⟨#[]⟩, .bool false, .slice none 0 0, .int .i64 0, .int .i64 0, .int .i64 0, .slice none 0 0, .slice none 0 0, .int .i64 0]) (t := 76) ?hr ?_; (case hr => first | (go_simp; done) | (go_simp; rfl)); intro g2 w2_ HSn HBn; clear HBn; replace HS : Hid (St (SL.blk g2 76 #[.int .i64 0, .string ⟨#[]⟩, .bool false, .slice none 0 0, .int .i64 0, .int .i64 0, .int .i64 0, .slice none 0 0, .slice none 0 0, .int .i64 0] :: SL.blk g1 63 #[.int .i64 id, .string name, .bool may, .slice A fst.length c] :: l) w0 w2_) := Go.Lib.hid HSn; clear HSn; clear c0_0 c0_1 c0_2 c0_3; obtain ⟨c0_0, c0_1, c0_2, c0_3, c0_4, c0_5, c0_6, c0_7, c0_8, c0_9⟩ := HS.out.c10 0 _ _ _ _ _ _ _ _ _ _ _ _ rfl; obtain ⟨c1_0, c1_1, c1_2, c1_3⟩ := HS.out.c4 1 _ _ _ _ _ _ rfl))
  clear c0_0 c0_1 c0_2 c0_3 c0_4 c0_5 c0_6 c0_7 c0_8 c0_9 c1_0 c1_1 c1_2 c1_3
  replace HS := Go.Lib.hid HS.out.drew
  refine start_ (n := 6) (S := fun w' => w'.cell? ⟨g1, 0, none⟩ = some (.int .i64 id) ∧ w'.cell? ⟨g1, 1, none⟩ = some (.string name) ∧ w'.cell? ⟨g1, 2, none⟩ = some (.bool may) ∧ w'.cell? ⟨g1, 3, none⟩ = some (.slice A fst.length c)) (ds := [5]) #[false, false, false, false, false, false] (by kernel_rfl) rfl rfl ⟨HS.out.cell 1 _ _ _ rfl 0, HS.out.cell 1 _ _ _ rfl 1, HS.out.cell 1 _ _ _ rfl 2, HS.out.cell 1 _ _ _ rfl 3⟩ (fun hHeld => ?_)
  generalize w2_.drew = W_ at *
  refine pure_ (i := 1) (N := some 4) (v := ?_) (a' := ?_) #[false, true, false, false, false, false] rfl rfl (by kernel_rfl) (fun _ _ _ h => h) (Or.inl ⟨by rfl, ?_⟩) ?_ ?_
  rotate_left
  · intro w'
    go_simp
    with_reducible rfl
  rotate_left
  · simp only [Act.put, List.setIfInBounds_toArray, List.set_cons_zero, List.set_cons_succ, i64_w, i32_w]
    rfl
  refine take_ (i := 0) (N := some 3) (v := ?_) (a' := ?_) #[true, true, false, false, false, false] rfl rfl (by kernel_rfl) (fun _ _ _ h => h) (Or.inl ⟨by rfl, ?_⟩) hHeld ?_ ?_
  rotate_left
  · rintro w' ⟨s0, s1, s2, s3⟩
    go_simp
    with_reducible rfl
  rotate_left
  · simp only [Act.put, List.setIfInBounds_toArray, List.set_cons_zero, List.set_cons_succ, i64_w, i32_w]
    rfl
  refine take_ (i := 2) (N := some 5) (v := ?_) (a' := ?_) #[true, true, true, false, false, false] rfl rfl (by kernel_rfl) (fun _ _ _ h => h) (Or.inl ⟨by rfl, ?_⟩) hHeld ?_ ?_
  rotate_left
  · rintro w' ⟨s0, s1, s2, s3⟩
    go_simp
    with_reducible rfl
  rotate_left
  · simp only [Act.put, List.setIfInBounds_toArray, List.set_cons_zero, List.set_cons_succ, i64_w, i32_w]
    rfl
  refine one_ (i := 3) (N := some 6) #[true, true, true, true, false, false] rfl rfl (by kernel_rfl) (by decide) (fun K hK => ?_)
  refine goes_ Try.func32 (by kernel_rfl) rfl #[.slice A fst.length c] (by rfl) rfl rfl (by (try simp only [List.map_toArray, List.map_cons, List.map_nil]); first | done | rfl) ?_
  refine (rnew_st HS.out A c (HS.out.C HC.out) hn).mono ?_
  rintro e w91 ⟨v8, rfl, hS91⟩
  obtain ⟨A8, c8, hv8, _⟩ := hS91.rowC 0 rfl
  subst hv8
  have HS91 := Go.Lib.hid hS91
  clear hS91
  refine ⟨_, rfl, ?_⟩
  refine hK.out _ _ ⟨HS91.out.cell 2 _ _ _ rfl 0, HS91.out.cell 2 _ _ _ rfl 1, HS91.out.cell 2 _ _ _ rfl 2, HS91.out.cell 2 _ _ _ rfl 3⟩ (fun hHeld => ?_)
  clear hK K
  refine norm_ (a' := ?_) ?_ ?_
  rotate_left
  · show Act.put _ (some 6) _ = _
    simp only [Act.put, List.setIfInBounds_toArray, List.set_cons_zero, List.set_cons_succ, i64_w, i32_w]
    rfl
  refine pure_ (i := 4) (N := some 7) (v := ?_) (a' := ?_) #[true, true, true, true, true, false] rfl rfl (by kernel_rfl) (fun _ _ _ h => h) (Or.inl ⟨by rfl, ?_⟩) ?_ ?_
  rotate_left
  · intro w'
    go_simp
    with_reducible rfl
  rotate_left
  · simp only [Act.put, List.setIfInBounds_toArray, List.set_cons_zero, List.set_cons_succ, i64_w, i32_w]
    rfl
  refine last_ (i := 5) (N := none) #[true, true, true, true, true, true] rfl rfl (by kernel_rfl) (by decide) (fun K hK => ?_)
  obtain ⟨e0, e1, e2, e3, e4, e5, e6, e7, e8, e9⟩ := HS91.out.c10 1 _ _ _ _ _ _ _ _ _ _ _ _ rfl
  have f_ := HS91.out.f10 1 _ _ _ _ _ _ _ _ _ _ _ _ rfl
  obtain ⟨f0, f1, f2, f3, f4, f5, f6, f7, f8, f9⟩ := f_
  refine Sl.storeAll_stp HS91.out 1 g2 76 _ rfl [.int .i64 id, .string name, .bool may, .slice A fst.length c, .int .i64 1, .int .i64 1, .int .i64 0, .slice A fst.length c, .slice A8 (fst.map (·.f0)).length c8, .int .i64 0] rfl (by rfl) rfl ?hr ?_
  case hr => first | (go_simp; done) | (go_simp; rfl)
  intro w92 hS92
  have HS92 := Go.Lib.hid hS92
  clear hS92 e0 f0 e1 f1 e2 f2 e3 f3 e4 f4 e5 f5 e6 f6 e7 f7 e8 f8 e9 f9
  refine hK.out _ _ ?_
  clear hK K
  refine done_ (by kernel_rfl) ?_
  have hS9 : St (SL.row (Kd.int .u32) 39 (.slice A8 (fst.map (·.f0)).length c8) (fst.map (·.f0)) :: SL.blk g2 76 #[.int .i64 id, .string name, .bool may, .slice A fst.length c, .int .i64 1, .int .i64 1, .int .i64 0, .slice A fst.length c, .slice A8 (fst.map (·.f0)).length c8, .int .i64 0] :: SL.blk g1 63 #[.int .i64 id, .string name, .bool may, .slice A fst.length c] :: l) w0 w92 := HS92.out
  have HS9 := Go.Lib.hid hS9
  obtain ⟨d0, d1, d2, d3, d4, d5, d6, d7, d8, d9⟩ := hS9.c10 1 _ _ _ _ _ _ _ _ _ _ _ _ rfl
  clear hS9
  go_wp2_with fail
  exact bodyPost_ret (v := .agg #[.int .i64 id, .string name, .bool may, .slice A fst.length c, .int .i64 1, .int .i64 1, .int .i64 0, .slice A fst.length c, .slice A8 (fst.map (·.f0)).length c8, .int .i64 0]) (by simp [results, Try.results45, go_sem, d0, d1, d2, d3, d4, d5, d6, d7, d8, d9]) rfl ⟨_, _, rfl, (HS9.out.erase 1).erase 1⟩
end Go.Proofs.Ytkmhgolohppliaa.Prt

/-! A partition's shot, and its copy; shots held side by side. -/
namespace Go.Proofs.Ytkmhgolohppliaa.Prt
open Go.RowKit Go.Proofs.Ytkmhgolohppliaa.PCellsPlays Go.Proofs.YtkmhgolohppliaaW.PrintWords Go.Proofs.YtkmhgolohppliaaW.PrintLast Go.Proofs.YtkmhgolohppliaaW.PrintMore Go.Proofs.Ytkmhgolohppliaa.Mine Go.Proofs.Ytkmhgolohppliaa.Cel Go.Proofs.Ytkmhgolohppliaa.Cls
open Go.Proofs.Ytkmhgolohppliaa.Sl (SL Stp St No)
open Go.Proofs.Ytkmhgolohppliaa.Mod (strt actM runs right askd)
set_option linter.unusedVariables false
set_option linter.unusedSimpArgs false
attribute [local go_sem] max2_int min2_int max_two min_two max_three min_three max_four min_four
variable {l : List SL} {w0 w : World} {g : Nat} {id : Int} {name : ByteArray} {may : Bool} {fst : List S43} {s : PS}
variable {now : List Int} {A : Option Addr} {c : Nat} {A2 : Option Addr} {c2 : Nat}
set_option maxHeartbeats 1600000 in
set_option maxRecDepth 100000 in
theorem shot_hd (h : St (part g id name may fst s :: l) w0 w) (hn : s.now.length ≤ 1000000) :
    Calls Try.prog 47 #[.pointer (some ⟨g, 0, none⟩)] w fun e w' => ∃ A9 c9, e = .returned (.agg #[.int .i64 id, .int .i64 s.mode, .int .i64 s.starts, .int .i64 s.cause, .slice A9 s.now.length c9]) ∧ St (SL.row (Kd.int .u32) 39 (.slice A9 s.now.length c9) s.now :: part g id name may fst s :: l) w0 w' := by
  obtain ⟨m0, s0, u0, now0, q0⟩ := s
  obtain ⟨A, n, c, cg, hS⟩ := open_part h
  have HS := Go.Lib.hid hS
  clear hS h
  obtain ⟨c0_0, c0_1, c0_2, c0_3, c0_4, c0_5, c0_6, c0_7⟩ := HS.out.c8 0 _ _ _ _ _ _ _ _ _ _ rfl
  go_enter Try.func47, Try.ntmps47
  go_wp2_with (first | ((with_reducible refine gate_dst (N := 2) rfl ?_); refine Sl.box_st HS.out (by rfl) (cs := #[.int .i64 0, .int .i64 0, .int .i64 0, .int .i64 0, .slice none 0 0]) (t := 81) ?hr ?_; (case hr => first | (go_simp; done) | (go_simp; rfl)); intro g2 w1_ HSn HBn; clear HBn; replace HS : Hid (St (SL.blk g2 81 #[.int .i64 0, .int .i64 0, .int .i64 0, .int .i64 0, .slice none 0 0] :: SL.blk g 73 #[.int .i64 m0, .int .i64 s0, .int .i64 u0, .int .i64 id, .string name, .bool may, .slice A n c, .pointer (some ⟨cg, 0, none⟩)] :: cells cg fst now0 q0 :: l) w0 w1_) := Go.Lib.hid HSn; clear HSn; clear c0_0 c0_1 c0_2 c0_3 c0_4 c0_5 c0_6 c0_7; obtain ⟨c0_0, c0_1, c0_2, c0_3, c0_4⟩ := HS.out.c5 0 _ _ _ _ _ _ _ rfl; obtain ⟨c1_0, c1_1, c1_2, c1_3, c1_4, c1_5, c1_6, c1_7⟩ := HS.out.c8 1 _ _ _ _ _ _ _ _ _ _ rfl))
  clear c0_0 c0_1 c0_2 c0_3 c0_4 c1_0 c1_1 c1_2 c1_3 c1_4 c1_5 c1_6 c1_7
  replace HS := Go.Lib.hid HS.out.drew
  refine start_ (n := 27) (S := fun w' => w'.cell? ⟨g, 3, none⟩ = some (.int .i64 id) ∧ w'.cell? ⟨g, 0, none⟩ = some (.int .i64 m0) ∧ w'.cell? ⟨g, 1, none⟩ = some (.int .i64 s0) ∧ w'.cell? ⟨g, 2, none⟩ = some (.int .i64 u0) ∧ w'.cell? ⟨g, 7, none⟩ = some (.pointer (some ⟨cg, 0, none⟩))) (ds := [26]) #[false, false, false, false, false, false, false, false, false, false, false, false, false, false, false, false, false, false, false, false, false, false, false, false, false, false, false] (by kernel_rfl) rfl rfl ⟨HS.out.cell 1 _ _ _ rfl 3, HS.out.cell 1 _ _ _ rfl 0, HS.out.cell 1 _ _ _ rfl 1, HS.out.cell 1 _ _ _ rfl 2, HS.out.cell 1 _ _ _ rfl 7⟩ (fun hHeld => ?_)
  generalize w1_.drew = W_ at *
  refine pure_ (i := 0) (N := some 3) (v := ?_) (a' := ?_) #[true, false, false, false, false, false, false, false, false, false, false, false, false, false, false, false, false, false, false, false, false, false, false, false, false, false, false] rfl rfl (by kernel_rfl) (fun _ _ _ h => h) (Or.inl ⟨by rfl, ?_⟩) ?_ ?_
  rotate_left
  · intro w'
    go_simp
    with_reducible rfl
  rotate_left
  · simp only [Act.put, List.setIfInBounds_toArray, List.set_cons_zero, List.set_cons_succ, i64_w, i32_w]
    rfl
  refine pure_ (i := 1) (N := some 4) (v := ?_) (a' := ?_) #[true, true, false, false, false, false, false, false, false, false, false, false, false, false, false, false, false, false, false, false, false, false, false, false, false, false, false] rfl rfl (by kernel_rfl) (fun _ _ _ h => h) (Or.inl ⟨by rfl, ?_⟩) ?_ ?_
  rotate_left
  · intro w'
    go_simp
    with_reducible rfl
  rotate_left
  · simp only [Act.put, List.setIfInBounds_toArray, List.set_cons_zero, List.set_cons_succ, i64_w, i32_w]
    rfl
  refine pure_ (i := 2) (N := some 5) (v := ?_) (a' := ?_) #[true, true, true, false, false, false, false, false, false, false, false, false, false, false, false, false, false, false, false, false, false, false, false, false, false, false, false] rfl rfl (by kernel_rfl) (fun _ _ _ h => h) (Or.inl ⟨by rfl, ?_⟩) ?_ ?_
  rotate_left
  · intro w'
    go_simp
    with_reducible rfl
  rotate_left
  · simp only [Act.put, List.setIfInBounds_toArray, List.set_cons_zero, List.set_cons_succ, i64_w, i32_w]
    rfl
  refine pure_ (i := 3) (N := some 6) (v := ?_) (a' := ?_) #[true, true, true, true, false, false, false, false, false, false, false, false, false, false, false, false, false, false, false, false, false, false, false, false, false, false, false] rfl rfl (by kernel_rfl) (fun _ _ _ h => h) (Or.inl ⟨by rfl, ?_⟩) ?_ ?_
  rotate_left
  · intro w'
    go_simp
    with_reducible rfl
  rotate_left
  · simp only [Act.put, List.setIfInBounds_toArray, List.set_cons_zero, List.set_cons_succ, i64_w, i32_w]
    rfl
  refine pure_ (i := 5) (N := some 8) (v := ?_) (a' := ?_) #[true, true, true, true, false, true, false, false, false, false, false, false, false, false, false, false, false, false, false, false, false, false, false, false, false, false, false] rfl rfl (by kernel_rfl) (fun _ _ _ h => h) (Or.inl ⟨by rfl, ?_⟩) ?_ ?_
  rotate_left
  · intro w'
    go_simp
    with_reducible rfl
  rotate_left
  · simp only [Act.put, List.setIfInBounds_toArray, List.set_cons_zero, List.set_cons_succ, i64_w, i32_w]
    rfl
  refine pure_ (i := 6) (N := some 9) (v := ?_) (a' := ?_) #[true, true, true, true, false, true, true, false, false, false, false, false, false, false, false, false, false, false, false, false, false, false, false, false, false, false, false] rfl rfl (by kernel_rfl) (fun _ _ _ h => h) (Or.inl ⟨by rfl, ?_⟩) ?_ ?_
  rotate_left
  · intro w'
    go_simp
    with_reducible rfl
  rotate_left
  · simp only [Act.put, List.setIfInBounds_toArray, List.set_cons_zero, List.set_cons_succ, i64_w, i32_w]
    rfl
  refine pure_ (i := 7) (N := some 10) (v := ?_) (a' := ?_) #[true, true, true, true, false, true, true, true, false, false, false, false, false, false, false, false, false, false, false, false, false, false, false, false, false, false, false] rfl rfl (by kernel_rfl) (fun _ _ _ h => h) (Or.inl ⟨by rfl, ?_⟩) ?_ ?_
  rotate_left
  · intro w'
    go_simp
    with_reducible rfl
  rotate_left
  · simp only [Act.put, List.setIfInBounds_toArray, List.set_cons_zero, List.set_cons_succ, i64_w, i32_w]
    rfl
  refine pure_ (i := 8) (N := some 11) (v := ?_) (a' := ?_) #[true, true, true, true, false, true, true, true, true, false, false, false, false, false, false, false, false, false, false, false, false, false, false, false, false, false, false] rfl rfl (by kernel_rfl) (fun _ _ _ h => h) (Or.inl ⟨by rfl, ?_⟩) ?_ ?_
  rotate_left
  · intro w'
    go_simp
    with_reducible rfl
  rotate_left
  · simp only [Act.put, List.setIfInBounds_toArray, List.set_cons_zero, List.set_cons_succ, i64_w, i32_w]
    rfl
  refine pure_ (i := 10) (N := some 13) (v := ?_) (a' := ?_) #[true, true, true, true, false, true, true, true, true, false, true, false, false, false, false, false, false, false, false, false, false, false, false, false, false, false, false] rfl rfl (by kernel_rfl) (fun _ _ _ h => h) (Or.inl ⟨by rfl, ?_⟩) ?_ ?_
  rotate_left
  · intro w'
    go_simp
    with_reducible rfl
  rotate_left
  · simp only [Act.put, List.setIfInBounds_toArray, List.set_cons_zero, List.set_cons_succ, i64_w, i32_w]
    rfl
  refine pure_ (i := 11) (N := some 14) (v := ?_) (a' := ?_) #[true, true, true, true, false, true, true, true, true, false, true, true, false, false, false, false, false, false, false, false, false, false, false, false, false, false, false] rfl rfl (by kernel_rfl) (fun _ _ _ h => h) (Or.inl ⟨by rfl, ?_⟩) ?_ ?_
  rotate_left
  · intro w'
    go_simp
    with_reducible rfl
  rotate_left
  · simp only [Act.put, List.setIfInBounds_toArray, List.set_cons_zero, List.set_cons_succ, i64_w, i32_w]
    rfl
  refine pure_ (i := 12) (N := some 15) (v := ?_) (a' := ?_) #[true, true, true, true, false, true, true, true, true, false, true, true, true, false, false, false, false, false, false, false, false, false, false, false, false, false, false] rfl rfl (by kernel_rfl) (fun _ _ _ h => h) (Or.inl ⟨by rfl, ?_⟩) ?_ ?_
  rotate_left
  · intro w'
    go_simp
    with_reducible rfl
  rotate_left
  · simp only [Act.put, List.setIfInBounds_toArray, List.set_cons_zero, List.set_cons_succ, i64_w, i32_w]
    rfl
  refine pure_ (i := 13) (N := some 16) (v := ?_) (a' := ?_) #[true, true, true, true, false, true, true, true, true, false, true, true, true, true, false, false, false, false, false, false, false, false, false, false, false, false, false] rfl rfl (by kernel_rfl) (fun _ _ _ h => h) (Or.inl ⟨by rfl, ?_⟩) ?_ ?_
  rotate_left
  · intro w'
    go_simp
    with_reducible rfl
  rotate_left
  · simp only [Act.put, List.setIfInBounds_toArray, List.set_cons_zero, List.set_cons_succ, i64_w, i32_w]
    rfl
  refine pure_ (i := 15) (N := some 18) (v := ?_) (a' := ?_) #[true, true, true, true, false, true, true, true, true, false, true, true, true, true, false, true, false, false, false, false, false, false, false, false, false, false, false] rfl rfl (by kernel_rfl) (fun _ _ _ h => h) (Or.inl ⟨by rfl, ?_⟩) ?_ ?_
  rotate_left
  · intro w'
    go_simp
    with_reducible rfl
  rotate_left
  · simp only [Act.put, List.setIfInBounds_toArray, List.set_cons_zero, List.set_cons_succ, i64_w, i32_w]
    rfl
  refine pure_ (i := 16) (N := some 19) (v := ?_) (a' := ?_) #[true, true, true, true, false, true, true, true, true, false, true, true, true, true, false, true, true, false, false, false, false, false, false, false, false, false, false] rfl rfl (by kernel_rfl) (fun _ _ _ h => h) (Or.inl ⟨by rfl, ?_⟩) ?_ ?_
  rotate_left
  · intro w'
    go_simp
    with_reducible rfl
  rotate_left
  · simp only [Act.put, List.setIfInBounds_toArray, List.set_cons_zero, List.set_cons_succ, i64_w, i32_w]
    rfl
  refine pure_ (i := 17) (N := some 20) (v := ?_) (a' := ?_) #[true, true, true, true, false, true, true, true, true, false, true, true, true, true, false, true, true, true, false, false, false, false, false, false, false, false, false] rfl rfl (by kernel_rfl) (fun _ _ _ h => h) (Or.inl ⟨by rfl, ?_⟩) ?_ ?_
  rotate_left
  · intro w'
    go_simp
    with_reducible rfl
  rotate_left
  · simp only [Act.put, List.setIfInBounds_toArray, List.set_cons_zero, List.set_cons_succ, i64_w, i32_w]
    rfl
  refine pure_ (i := 18) (N := some 21) (v := ?_) (a' := ?_) #[true, true, true, true, false, true, true, true, true, false, true, true, true, true, false, true, true, true, true, false, false, false, false, false, false, false, false] rfl rfl (by kernel_rfl) (fun _ _ _ h => h) (Or.inl ⟨by rfl, ?_⟩) ?_ ?_
  rotate_left
  · intro w'
    go_simp
    with_reducible rfl
  rotate_left
  · simp only [Act.put, List.setIfInBounds_toArray, List.set_cons_zero, List.set_cons_succ, i64_w, i32_w]
    rfl
  refine pure_ (i := 20) (N := some 23) (v := ?_) (a' := ?_) #[true, true, true, true, false, true, true, true, true, false, true, true, true, true, false, true, true, true, true, false, true, false, false, false, false, false, false] rfl rfl (by kernel_rfl) (fun _ _ _ h => h) (Or.inl ⟨by rfl, ?_⟩) ?_ ?_
  rotate_left
  · intro w'
    go_simp
    with_reducible rfl
  rotate_left
  · simp only [Act.put, List.setIfInBounds_toArray, List.set_cons_zero, List.set_cons_succ, i64_w, i32_w]
    rfl
  refine pure_ (i := 21) (N := some 24) (v := ?_) (a' := ?_) #[true, true, true, true, false, true, true, true, true, false, true, true, true, true, false, true, true, true, true, false, true, true, false, false, false, false, false] rfl rfl (by kernel_rfl) (fun _ _ _ h => h) (Or.inl ⟨by rfl, ?_⟩) ?_ ?_
  rotate_left
  · intro w'
    go_simp
    with_reducible rfl
  rotate_left
  · simp only [Act.put, List.setIfInBounds_toArray, List.set_cons_zero, List.set_cons_succ, i64_w, i32_w]
    rfl
  refine pure_ (i := 22) (N := some 25) (v := ?_) (a' := ?_) #[true, true, true, true, false, true, true, true, true, false, true, true, true, true, false, true, true, true, true, false, true, true, true, false, false, false, false] rfl rfl (by kernel_rfl) (fun _ _ _ h => h) (Or.inl ⟨by rfl, ?_⟩) ?_ ?_
  rotate_left
  · intro w'
    go_simp
    with_reducible rfl
  rotate_left
  · simp only [Act.put, List.setIfInBounds_toArray, List.set_cons_zero, List.set_cons_succ, i64_w, i32_w]
    rfl
  refine take_ (i := 4) (N := some 7) (v := ?_) (a' := ?_) #[true, true, true, true, true, true, true, true, true, false, true, true, true, true, false, true, true, true, true, false, true, true, true, false, false, false, false] rfl rfl (by kernel_rfl) (fun _ _ _ h => h) (Or.inl ⟨by rfl, ?_⟩) hHeld ?_ ?_
  rotate_left
  · rintro w' ⟨s0, s1, s2, s3, s4⟩
    go_simp
    with_reducible rfl
  rotate_left
  · simp only [Act.put, List.setIfInBounds_toArray, List.set_cons_zero, List.set_cons_succ, i64_w, i32_w]
    rfl
  refine take_ (i := 9) (N := some 12) (v := ?_) (a' := ?_) #[true, true, true, true, true, true, true, true, true, true, true, true, true, true, false, true, true, true, true, false, true, true, true, false, false, false, false] rfl rfl (by kernel_rfl) (fun _ _ _ h => h) (Or.inl ⟨by rfl, ?_⟩) hHeld ?_ ?_
  rotate_left
  · rintro w' ⟨s0, s1, s2, s3, s4⟩
    go_simp
    with_reducible rfl
  rotate_left
  · simp only [Act.put, List.setIfInBounds_toArray, List.set_cons_zero, List.set_cons_succ, i64_w, i32_w]
    rfl
  refine take_ (i := 14) (N := some 17) (v := ?_) (a' := ?_) #[true, true, true, true, true, true, true, true, true, true, true, true, true, true, true, true, true, true, true, false, true, true, true, false, false, false, false] rfl rfl (by kernel_rfl) (fun _ _ _ h => h) (Or.inl ⟨by rfl, ?_⟩) hHeld ?_ ?_
  rotate_left
  · rintro w' ⟨s0, s1, s2, s3, s4⟩
    go_simp
    with_reducible rfl
  rotate_left
  · simp only [Act.put, List.setIfInBounds_toArray, List.set_cons_zero, List.set_cons_succ, i64_w, i32_w]
    rfl
  refine take_ (i := 19) (N := some 22) (v := ?_) (a' := ?_) #[true, true, true, true, true, true, true, true, true, true, true, true, true, true, true, true, true, true, true, true, true, true, true, false, false, false, false] rfl rfl (by kernel_rfl) (fun _ _ _ h => h) (Or.inl ⟨by rfl, ?_⟩) hHeld ?_ ?_
  rotate_left
  · rintro w' ⟨s0, s1, s2, s3, s4⟩
    go_simp
    with_reducible rfl
  rotate_left
  · simp only [Act.put, List.setIfInBounds_toArray, List.set_cons_zero, List.set_cons_succ, i64_w, i32_w]
    rfl
  refine take_ (i := 23) (N := some 26) (v := ?_) (a' := ?_) #[true, true, true, true, true, true, true, true, true, true, true, true, true, true, true, true, true, true, true, true, true, true, true, true, false, false, false] rfl rfl (by kernel_rfl) (fun _ _ _ h => h) (Or.inl ⟨by rfl, ?_⟩) hHeld ?_ ?_
  rotate_left
  · rintro w' ⟨s0, s1, s2, s3, s4⟩
    go_simp
    with_reducible rfl
  rotate_left
  · simp only [Act.put, List.setIfInBounds_toArray, List.set_cons_zero, List.set_cons_succ, i64_w, i32_w]
    rfl
  refine one_ (i := 24) (N := some 27) #[true, true, true, true, true, true, true, true, true, true, true, true, true, true, true, true, true, true, true, true, true, true, true, true, true, false, false] rfl rfl (by kernel_rfl) (by decide) (fun K hK => ?_)
  refine goes_ Try.func26 (by kernel_rfl) rfl #[.pointer (some ⟨cg, 0, none⟩)] (by rfl) rfl rfl (by (try simp only [List.map_toArray, List.map_cons, List.map_nil]); first | done | rfl) ?_
  refine (all_row HS.out 2 rfl hn).mono ?_
  rintro e w91 ⟨A9, c9, rfl, hS91⟩
  have HS91 := Go.Lib.hid hS91
  clear hS91
  refine ⟨_, rfl, ?_⟩
  refine hK.out _ _ ⟨HS91.out.cell 2 _ _ _ rfl 3, HS91.out.cell 2 _ _ _ rfl 0, HS91.out.cell 2 _ _ _ rfl 1, HS91.out.cell 2 _ _ _ rfl 2, HS91.out.cell 2 _ _ _ rfl 7⟩ (fun hHeld => ?_)
  clear hK K
  refine norm_ (a' := ?_) ?_ ?_
  rotate_left
  · show Act.put _ (some 27) _ = _
    simp only [Act.put, List.setIfInBounds_toArray, List.set_cons_zero, List.set_cons_succ, i64_w, i32_w]
    rfl
  refine pure_ (i := 25) (N := some 28) (v := ?_) (a' := ?_) #[true, true, true, true, true, true, true, true, true, true, true, true, true, true, true, true, true, true, true, true, true, true, true, true, true, true, false] rfl rfl (by kernel_rfl) (fun _ _ _ h => h) (Or.inl ⟨by rfl, ?_⟩) ?_ ?_
  rotate_left
  · intro w'
    go_simp
    with_reducible rfl
  rotate_left
  · simp only [Act.put, List.setIfInBounds_toArray, List.set_cons_zero, List.set_cons_succ, i64_w, i32_w]
    rfl
  refine last_ (i := 26) (N := none) #[true, true, true, true, true, true, true, true, true, true, true, true, true, true, true, true, true, true, true, true, true, true, true, true, true, true, true] rfl rfl (by kernel_rfl) (by decide) (fun K hK => ?_)
  obtain ⟨e0, e1, e2, e3, e4⟩ := HS91.out.c5 1 _ _ _ _ _ _ _ rfl
  obtain ⟨f0, f1, f2, f3, f4⟩ := HS91.out.f5 1 _ _ _ _ _ _ _ rfl
  refine Sl.storeAll_stp HS91.out 1 g2 81 _ rfl [.int .i64 id, .int .i64 m0, .int .i64 s0, .int .i64 u0, .slice A9 now0.length c9] rfl (by rfl) rfl ?hr ?_
  case hr => first | (go_simp; done) | (go_simp; rfl)
  intro w92 hS92
  have HS92 := Go.Lib.hid hS92
  clear hS92 e0 f0 e1 f1 e2 f2 e3 f3 e4 f4
  refine hK.out _ _ ?_
  clear hK K
  refine done_ (by kernel_rfl) ?_
  have hS9 : St (SL.row (Kd.int .u32) 39 (.slice A9 now0.length c9) now0 :: SL.blk g2 81 #[.int .i64 id, .int .i64 m0, .int .i64 s0, .int .i64 u0, .slice A9 now0.length c9] :: SL.blk g 73 #[.int .i64 m0, .int .i64 s0, .int .i64 u0, .int .i64 id, .string name, .bool may, .slice A n c, .pointer (some ⟨cg, 0, none⟩)] :: cells cg fst now0 q0 :: l) w0 w92 := HS92.out
  have HS9 := Go.Lib.hid hS9
  obtain ⟨d0, d1, d2, d3, d4⟩ := hS9.c5 1 _ _ _ _ _ _ _ rfl
  clear hS9
  go_wp2_with fail
  refine bodyPost_ret (v := .agg #[.int .i64 id, .int .i64 m0, .int .i64 s0, .int .i64 u0, .slice A9 now0.length c9]) (by simp [results, Try.results47, go_sem, d0, d1, d2, d3, d4]) rfl ⟨_, _, rfl, ?_⟩
  exact St.swap (shut_part (s := ⟨m0, s0, u0, now0, q0⟩) (HS9.out.erase 1).down2)
theorem shot_at (h : St l w0 w) (k : Nat) (e : l[k]? = some (part g id name may fst s)) (hn : s.now.length ≤ 1000000) :
    Calls Try.prog 47 #[.pointer (some ⟨g, 0, none⟩)] w fun e w' => ∃ A9 c9, e = .returned (.agg #[.int .i64 id, .int .i64 s.mode, .int .i64 s.starts, .int .i64 s.cause, .slice A9 s.now.length c9]) ∧ St (SL.row (Kd.int .u32) 39 (.slice A9 s.now.length c9) s.now :: l.set k (part g id name may fst s)) w0 w' := by
  refine (shot_hd (h.front k _ e) hn).mono ?_
  rintro e' w1 ⟨A9, c9, rfl, hS⟩
  refine ⟨A9, c9, rfl, ?_⟩
  have h2 := hS.swap
  have hk : k < l.length := (List.getElem?_eq_some_iff.1 e).1
  have h3 : St (part g id name may fst s :: (SL.row (Kd.int .u32) 39 (.slice A9 s.now.length c9) s.now :: l).eraseIdx (k + 1)) w0 w1 := h2
  exact St.back (k + 1) (by simpa using hk) h3
set_option maxHeartbeats 1600000 in
set_option maxRecDepth 100000 in
theorem copy_hd (h : St (part g id name may fst s :: l) w0 w) (hn : fst.length ≤ 1000000) :
    Calls Try.prog 54 #[.pointer (some ⟨g, 0, none⟩)] w fun e w' => ∃ g2, e = .returned (.pointer (some ⟨g2, 0, none⟩)) ∧ St (part g2 id name may fst s :: part g id name may fst s :: l) w0 w' := by
  obtain ⟨m0, s0, u0, now0, q0⟩ := s
  obtain ⟨A, n, c, cg, hS⟩ := open_part h
  have HS := Go.Lib.hid hS
  clear hS h
  go_enter Try.func54, Try.ntmps54
  go_wp2_with fail
  replace HS := Go.Lib.hid HS.out.drew
  refine start_ (n := 16) (S := fun w' => w'.cell? ⟨g, 0, none⟩ = some (.int .i64 m0) ∧ w'.cell? ⟨g, 1, none⟩ = some (.int .i64 s0) ∧ w'.cell? ⟨g, 2, none⟩ = some (.int .i64 u0) ∧ w'.cell? ⟨g, 3, none⟩ = some (.int .i64 id) ∧ w'.cell? ⟨g, 4, none⟩ = some (.string name) ∧ w'.cell? ⟨g, 5, none⟩ = some (.bool may) ∧ w'.cell? ⟨g, 6, none⟩ = some (.slice A n c) ∧ w'.cell? ⟨g, 7, none⟩ = some (.pointer (some ⟨cg, 0, none⟩))) (ds := []) #[false, false, false, false, false, false, false, false, false, false, false, false, false, false, false, false] (by kernel_rfl) rfl rfl ⟨HS.out.cell 0 _ _ _ rfl 0, HS.out.cell 0 _ _ _ rfl 1, HS.out.cell 0 _ _ _ rfl 2, HS.out.cell 0 _ _ _ rfl 3, HS.out.cell 0 _ _ _ rfl 4, HS.out.cell 0 _ _ _ rfl 5, HS.out.cell 0 _ _ _ rfl 6, HS.out.cell 0 _ _ _ rfl 7⟩ (fun hHeld => ?_)
  generalize w.drew = W_ at *
  refine pure_ (i := 0) (N := some 3) (v := ?_) (a' := ?_) #[true, false, false, false, false, false, false, false, false, false, false, false, false, false, false, false] rfl rfl (by kernel_rfl) (fun _ _ _ h => h) (Or.inl ⟨by rfl, ?_⟩) ?_ ?_
  rotate_left
  · intro w'
    go_simp
    with_reducible rfl
  rotate_left
  · simp only [Act.put, List.setIfInBounds_toArray, List.set_cons_zero, List.set_cons_succ, i64_w, i32_w]
    rfl
  refine pure_ (i := 1) (N := some 4) (v := ?_) (a' := ?_) #[true, true, false, false, false, false, false, false, false, false, false, false, false, false, false, false] rfl rfl (by kernel_rfl) (fun _ _ _ h => h) (Or.inl ⟨by rfl, ?_⟩) ?_ ?_
  rotate_left
  · intro w'
    go_simp
    with_reducible rfl
  rotate_left
  · simp only [Act.put, List.setIfInBounds_toArray, List.set_cons_zero, List.set_cons_succ, i64_w, i32_w]
    rfl
  refine pure_ (i := 2) (N := some 5) (v := ?_) (a' := ?_) #[true, true, true, false, false, false, false, false, false, false, false, false, false, false, false, false] rfl rfl (by kernel_rfl) (fun _ _ _ h => h) (Or.inl ⟨by rfl, ?_⟩) ?_ ?_
  rotate_left
  · intro w'
    go_simp
    with_reducible rfl
  rotate_left
  · simp only [Act.put, List.setIfInBounds_toArray, List.set_cons_zero, List.set_cons_succ, i64_w, i32_w]
    rfl
  refine pure_ (i := 4) (N := some 7) (v := ?_) (a' := ?_) #[true, true, true, false, true, false, false, false, false, false, false, false, false, false, false, false] rfl rfl (by kernel_rfl) (fun _ _ _ h => h) (Or.inl ⟨by rfl, ?_⟩) ?_ ?_
  rotate_left
  · intro w'
    go_simp
    with_reducible rfl
  rotate_left
  · simp only [Act.put, List.setIfInBounds_toArray, List.set_cons_zero, List.set_cons_succ, i64_w, i32_w]
    rfl
  refine pure_ (i := 5) (N := some 8) (v := ?_) (a' := ?_) #[true, true, true, false, true, true, false, false, false, false, false, false, false, false, false, false] rfl rfl (by kernel_rfl) (fun _ _ _ h => h) (Or.inl ⟨by rfl, ?_⟩) ?_ ?_
  rotate_left
  · intro w'
    go_simp
    with_reducible rfl
  rotate_left
  · simp only [Act.put, List.setIfInBounds_toArray, List.set_cons_zero, List.set_cons_succ, i64_w, i32_w]
    rfl
  refine pure_ (i := 6) (N := some 9) (v := ?_) (a' := ?_) #[true, true, true, false, true, true, true, false, false, false, false, false, false, false, false, false] rfl rfl (by kernel_rfl) (fun _ _ _ h => h) (Or.inl ⟨by rfl, ?_⟩) ?_ ?_
  rotate_left
  · intro w'
    go_simp
    with_reducible rfl
  rotate_left
  · simp only [Act.put, List.setIfInBounds_toArray, List.set_cons_zero, List.set_cons_succ, i64_w, i32_w]
    rfl
  refine pure_ (i := 8) (N := some 11) (v := ?_) (a' := ?_) #[true, true, true, false, true, true, true, false, true, false, false, false, false, false, false, false] rfl rfl (by kernel_rfl) (fun _ _ _ h => h) (Or.inl ⟨by rfl, ?_⟩) ?_ ?_
  rotate_left
  · intro w'
    go_simp
    with_reducible rfl
  rotate_left
  · simp only [Act.put, List.setIfInBounds_toArray, List.set_cons_zero, List.set_cons_succ, i64_w, i32_w]
    rfl
  refine pure_ (i := 9) (N := some 12) (v := ?_) (a' := ?_) #[true, true, true, false, true, true, true, false, true, true, false, false, false, false, false, false] rfl rfl (by kernel_rfl) (fun _ _ _ h => h) (Or.inl ⟨by rfl, ?_⟩) ?_ ?_
  rotate_left
  · intro w'
    go_simp
    with_reducible rfl
  rotate_left
  · simp only [Act.put, List.setIfInBounds_toArray, List.set_cons_zero, List.set_cons_succ, i64_w, i32_w]
    rfl
  refine pure_ (i := 10) (N := some 13) (v := ?_) (a' := ?_) #[true, true, true, false, true, true, true, false, true, true, true, false, false, false, false, false] rfl rfl (by kernel_rfl) (fun _ _ _ h => h) (Or.inl ⟨by rfl, ?_⟩) ?_ ?_
  rotate_left
  · intro w'
    go_simp
    with_reducible rfl
  rotate_left
  · simp only [Act.put, List.setIfInBounds_toArray, List.set_cons_zero, List.set_cons_succ, i64_w, i32_w]
    rfl
  refine take_ (i := 3) (N := some 6) (v := ?_) (a' := ?_) #[true, true, true, true, true, true, true, false, true, true, true, false, false, false, false, false] rfl rfl (by kernel_rfl) (fun _ _ _ h => h) (Or.inl ⟨by rfl, ?_⟩) hHeld ?_ ?_
  rotate_left
  · rintro w' ⟨s0_, s1_, s2_, s3_, s4_, s5_, s6_, s7_⟩
    go_simp
    with_reducible rfl
  rotate_left
  · simp only [Act.put, List.setIfInBounds_toArray, List.set_cons_zero, List.set_cons_succ, i64_w, i32_w]
    rfl
  refine take_ (i := 7) (N := some 10) (v := ?_) (a' := ?_) #[true, true, true, true, true, true, true, true, true, true, true, false, false, false, false, false] rfl rfl (by kernel_rfl) (fun _ _ _ h => h) (Or.inl ⟨by rfl, ?_⟩) hHeld ?_ ?_
  rotate_left
  · rintro w' ⟨s0_, s1_, s2_, s3_, s4_, s5_, s6_, s7_⟩
    go_simp
    with_reducible rfl
  rotate_left
  · simp only [Act.put, List.setIfInBounds_toArray, List.set_cons_zero, List.set_cons_succ, i64_w, i32_w]
    rfl
  refine take_ (i := 11) (N := some 14) (v := ?_) (a' := ?_) #[true, true, true, true, true, true, true, true, true, true, true, true, false, false, false, false] rfl rfl (by kernel_rfl) (fun _ _ _ h => h) (Or.inl ⟨by rfl, ?_⟩) hHeld ?_ ?_
  rotate_left
  · rintro w' ⟨s0_, s1_, s2_, s3_, s4_, s5_, s6_, s7_⟩
    go_simp
    with_reducible rfl
  rotate_left
  · simp only [Act.put, List.setIfInBounds_toArray, List.set_cons_zero, List.set_cons_succ, i64_w, i32_w]
    rfl
  refine one_ (i := 12) (N := some 15) #[true, true, true, true, true, true, true, true, true, true, true, true, true, false, false, false] rfl rfl (by kernel_rfl) (by decide) (fun K hK => ?_)
  refine goes_ Try.func37 (by kernel_rfl) rfl #[.pointer (some ⟨cg, 0, none⟩)] (by rfl) rfl rfl (by (try simp only [List.map_toArray, List.map_cons, List.map_nil]); first | done | rfl) ?_
  refine (copy_st HS.out 1 rfl hn).mono ?_
  rintro e w91 ⟨cg2, rfl, hS91⟩
  have HS91 := Go.Lib.hid hS91
  clear hS91
  refine ⟨_, rfl, ?_⟩
  refine hK.out _ _ ⟨HS91.out.cell 1 _ _ _ rfl 0, HS91.out.cell 1 _ _ _ rfl 1, HS91.out.cell 1 _ _ _ rfl 2, HS91.out.cell 1 _ _ _ rfl 3, HS91.out.cell 1 _ _ _ rfl 4, HS91.out.cell 1 _ _ _ rfl 5, HS91.out.cell 1 _ _ _ rfl 6, HS91.out.cell 1 _ _ _ rfl 7⟩ (fun hHeld => ?_)
  clear hK K
  refine norm_ (a' := ?_) ?_ ?_
  rotate_left
  · show Act.put _ (some 15) _ = _
    simp only [Act.put, List.setIfInBounds_toArray, List.set_cons_zero, List.set_cons_succ, i64_w, i32_w]
    rfl
  refine pure_ (i := 13) (N := some 16) (v := ?_) (a' := ?_) #[true, true, true, true, true, true, true, true, true, true, true, true, true, true, false, false] rfl rfl (by kernel_rfl) (fun _ _ _ h => h) (Or.inl ⟨by rfl, ?_⟩) ?_ ?_
  rotate_left
  · intro w'
    go_simp
    with_reducible rfl
  rotate_left
  · simp only [Act.put, List.setIfInBounds_toArray, List.set_cons_zero, List.set_cons_succ, i64_w, i32_w]
    rfl
  refine one_ (i := 14) (N := some 17) #[true, true, true, true, true, true, true, true, true, true, true, true, true, true, true, false] rfl rfl (by kernel_rfl) (by decide) (fun K hK => ?_)
  refine Sl.box_stp HS91.out (by rfl) (cs := #[.int .i64 m0, .int .i64 s0, .int .i64 u0, .int .i64 id, .string name, .bool may, .slice A n c, .pointer (some ⟨cg2, 0, none⟩)]) (t := 73) ?hr ?_
  case hr => first | (go_simp; done) | (go_simp; rfl)
  intro g2 w92 hS92 hB92
  have HS92 := Go.Lib.hid hS92
  clear hS92 hB92
  refine hK.out _ _ ⟨HS92.out.cell 2 _ _ _ rfl 0, HS92.out.cell 2 _ _ _ rfl 1, HS92.out.cell 2 _ _ _ rfl 2, HS92.out.cell 2 _ _ _ rfl 3, HS92.out.cell 2 _ _ _ rfl 4, HS92.out.cell 2 _ _ _ rfl 5, HS92.out.cell 2 _ _ _ rfl 6, HS92.out.cell 2 _ _ _ rfl 7⟩ (fun hHeld => ?_)
  clear hK K
  refine norm_ (a' := ?_) ?_ ?_
  rotate_left
  · show Act.put _ (some 17) _ = _
    simp only [Act.put, List.setIfInBounds_toArray, List.set_cons_zero, List.set_cons_succ, i64_w, i32_w]
    rfl
  refine pure_ (i := 15) (N := some 2) (v := ?_) (a' := ?_) #[true, true, true, true, true, true, true, true, true, true, true, true, true, true, true, true] rfl rfl (by kernel_rfl) (fun _ _ _ h => h) (Or.inl ⟨by rfl, ?_⟩) ?_ ?_
  rotate_left
  · intro w'
    go_simp
    with_reducible rfl
  rotate_left
  · simp only [Act.put, List.setIfInBounds_toArray, List.set_cons_zero, List.set_cons_succ, i64_w, i32_w]
    rfl
  refine done_ (by kernel_rfl) ?_
  go_wp2_with fail
  go_ret
  refine ⟨_, rfl, ?_⟩
  exact St.swap (shut_part (s := ⟨m0, s0, u0, now0, q0⟩) (shut_part (s := ⟨m0, s0, u0, now0, q0⟩) HS92.out).down2)
theorem copy_at (h : St l w0 w) (k : Nat) (e : l[k]? = some (part g id name may fst s)) (hn : fst.length ≤ 1000000) :
    Calls Try.prog 54 #[.pointer (some ⟨g, 0, none⟩)] w fun e w' => ∃ g2, e = .returned (.pointer (some ⟨g2, 0, none⟩)) ∧ St (part g2 id name may fst s :: l.set k (part g id name may fst s)) w0 w' := by
  refine (copy_hd (h.front k _ e) hn).mono ?_
  rintro e' w1 ⟨g2, rfl, hS⟩
  refine ⟨g2, rfl, ?_⟩
  have h2 := hS.swap
  have hk : k < l.length := (List.getElem?_eq_some_iff.1 e).1
  have h3 : St (part g id name may fst s :: (part g2 id name may fst s :: l).eraseIdx (k + 1)) w0 w1 := h2
  exact St.back (k + 1) (by simpa using hk) h3
set_option maxHeartbeats 800000 in
set_option maxRecDepth 100000 in
theorem sameShot_0 (h : St l w0 w) (i1 m1 s1 u1 i2 m2 s2 u2 : Int) (B1 : Option Addr) (d1 : Nat) (n1 : List Int) (B2 : Option Addr) (d2 : Nat) (n2 : List Int) (hR1 : (Kd.int .u32).C w B1 n1.length n1) (hd1 : n1.length ≤ d1) (hR2 : (Kd.int .u32).C w B2 n2.length n2) (hd2 : n2.length ≤ d2) (hn : n1.length ≤ 1000000) (e0 : (i1 == i2) = false) :
    Calls Try.prog 48 #[.agg #[.int .i64 (i1), .int .i64 (m1), .int .i64 (s1), .int .i64 (u1), .slice B1 n1.length d1], .agg #[.int .i64 (i2), .int .i64 (m2), .int .i64 (s2), .int .i64 (u2), .slice B2 n2.length d2]] w fun e w' => e = .returned (.bool (false)) ∧ St l w0 w' := by
  have H0 := Go.Lib.hid h
  have HS := Go.Lib.hid (St.start w)
  have R1 := Go.Lib.hid hR1
  have R2 := Go.Lib.hid hR2
  clear h hR1 hR2
  go_enter Try.func48, Try.ntmps48
  go_wp2_with (first | ((with_reducible refine gate_dst (N := 2) rfl ?_); refine Sl.box_st HS.out (by rfl) (cs := #[.int .i64 (i1), .int .i64 (m1), .int .i64 (s1), .int .i64 (u1), .slice B1 n1.length d1]) (t := 81) ?hr ?_; (case hr => first | (go_simp; done) | (go_simp; rfl)); intro g2 w1_ HSn HBn; clear HBn; replace HS : Hid (St [SL.blk g2 81 #[.int .i64 (i1), .int .i64 (m1), .int .i64 (s1), .int .i64 (u1), .slice B1 n1.length d1]] w w1_) := Go.Lib.hid HSn; clear HSn; obtain ⟨c0_0, c0_1, c0_2, c0_3, c0_4⟩ := HS.out.c5 0 _ _ _ _ _ _ _ rfl) | ((with_reducible refine gate_dst (N := 3) rfl ?_); refine Sl.box_st HS.out (by rfl) (cs := #[.int .i64 (i2), .int .i64 (m2), .int .i64 (s2), .int .i64 (u2), .slice B2 n2.length d2]) (t := 81) ?hr ?_; (case hr => first | (go_simp; done) | (go_simp; rfl)); intro g3 w2_ HSn HBn; clear HBn; replace HS : Hid (St [SL.blk g3 81 #[.int .i64 (i2), .int .i64 (m2), .int .i64 (s2), .int .i64 (u2), .slice B2 n2.length d2], SL.blk g2 81 #[.int .i64 (i1), .int .i64 (m1), .int .i64 (s1), .int .i64 (u1), .slice B1 n1.length d1]] w w2_) := Go.Lib.hid HSn; clear HSn; clear c0_0 c0_1 c0_2 c0_3 c0_4; obtain ⟨c0_0, c0_1, c0_2, c0_3, c0_4⟩ := HS.out.c5 0 _ _ _ _ _ _ _ rfl; obtain ⟨c1_0, c1_1, c1_2, c1_3, c1_4⟩ := HS.out.c5 1 _ _ _ _ _ _ _ rfl))
  go_ret
  exact ⟨rfl, H0.out.then_ HS.out.below⟩
set_option maxHeartbeats 800000 in
set_option maxRecDepth 100000 in
theorem sameShot_1 (h : St l w0 w) (i1 m1 s1 u1 i2 m2 s2 u2 : Int) (B1 : Option Addr) (d1 : Nat) (n1 : List Int) (B2 : Option Addr) (d2 : Nat) (n2 : List Int) (hR1 : (Kd.int .u32).C w B1 n1.length n1) (hd1 : n1.length ≤ d1) (hR2 : (Kd.int .u32).C w B2 n2.length n2) (hd2 : n2.length ≤ d2) (hn : n1.length ≤ 1000000) (e0 : (i1 == i2) = true) (e1 : (m1 == m2) = false) :
    Calls Try.prog 48 #[.agg #[.int .i64 (i1), .int .i64 (m1), .int .i64 (s1), .int .i64 (u1), .slice B1 n1.length d1], .agg #[.int .i64 (i2), .int .i64 (m2), .int .i64 (s2), .int .i64 (u2), .slice B2 n2.length d2]] w fun e w' => e = .returned (.bool (false)) ∧ St l w0 w' := by
  have H0 := Go.Lib.hid h
  have HS := Go.Lib.hid (St.start w)
  have R1 := Go.Lib.hid hR1
  have R2 := Go.Lib.hid hR2
  clear h hR1 hR2
  go_enter Try.func48, Try.ntmps48
  go_wp2_with (first | ((with_reducible refine gate_dst (N := 2) rfl ?_); refine Sl.box_st HS.out (by rfl) (cs := #[.int .i64 (i1), .int .i64 (m1), .int .i64 (s1), .int .i64 (u1), .slice B1 n1.length d1]) (t := 81) ?hr ?_; (case hr => first | (go_simp; done) | (go_simp; rfl)); intro g2 w1_ HSn HBn; clear HBn; replace HS : Hid (St [SL.blk g2 81 #[.int .i64 (i1), .int .i64 (m1), .int .i64 (s1), .int .i64 (u1), .slice B1 n1.length d1]] w w1_) := Go.Lib.hid HSn; clear HSn; obtain ⟨c0_0, c0_1, c0_2, c0_3, c0_4⟩ := HS.out.c5 0 _ _ _ _ _ _ _ rfl) | ((with_reducible refine gate_dst (N := 3) rfl ?_); refine Sl.box_st HS.out (by rfl) (cs := #[.int .i64 (i2), .int .i64 (m2), .int .i64 (s2), .int .i64 (u2), .slice B2 n2.length d2]) (t := 81) ?hr ?_; (case hr => first | (go_simp; done) | (go_simp; rfl)); intro g3 w2_ HSn HBn; clear HBn; replace HS : Hid (St [SL.blk g3 81 #[.int .i64 (i2), .int .i64 (m2), .int .i64 (s2), .int .i64 (u2), .slice B2 n2.length d2], SL.blk g2 81 #[.int .i64 (i1), .int .i64 (m1), .int .i64 (s1), .int .i64 (u1), .slice B1 n1.length d1]] w w2_) := Go.Lib.hid HSn; clear HSn; clear c0_0 c0_1 c0_2 c0_3 c0_4; obtain ⟨c0_0, c0_1, c0_2, c0_3, c0_4⟩ := HS.out.c5 0 _ _ _ _ _ _ _ rfl; obtain ⟨c1_0, c1_1, c1_2, c1_3, c1_4⟩ := HS.out.c5 1 _ _ _ _ _ _ _ rfl))
  go_ret
  exact ⟨rfl, H0.out.then_ HS.out.below⟩
set_option maxHeartbeats 800000 in
set_option maxRecDepth 100000 in
theorem sameShot_2 (h : St l w0 w) (i1 m1 s1 u1 i2 m2 s2 u2 : Int) (B1 : Option Addr) (d1 : Nat) (n1 : List Int) (B2 : Option Addr) (d2 : Nat) (n2 : List Int) (hR1 : (Kd.int .u32).C w B1 n1.length n1) (hd1 : n1.length ≤ d1) (hR2 : (Kd.int .u32).C w B2 n2.length n2) (hd2 : n2.length ≤ d2) (hn : n1.length ≤ 1000000) (e0 : (i1 == i2) = true) (e1 : (m1 == m2) = true) (e2 : (s1 == s2) = false) :
    Calls Try.prog 48 #[.agg #[.int .i64 (i1), .int .i64 (m1), .int .i64 (s1), .int .i64 (u1), .slice B1 n1.length d1], .agg #[.int .i64 (i2), .int .i64 (m2), .int .i64 (s2), .int .i64 (u2), .slice B2 n2.length d2]] w fun e w' => e = .returned (.bool (false)) ∧ St l w0 w' := by
  have H0 := Go.Lib.hid h
  have HS := Go.Lib.hid (St.start w)
  have R1 := Go.Lib.hid hR1
  have R2 := Go.Lib.hid hR2
  clear h hR1 hR2
  go_enter Try.func48, Try.ntmps48
  go_wp2_with (first | ((with_reducible refine gate_dst (N := 2) rfl ?_); refine Sl.box_st HS.out (by rfl) (cs := #[.int .i64 (i1), .int .i64 (m1), .int .i64 (s1), .int .i64 (u1), .slice B1 n1.length d1]) (t := 81) ?hr ?_; (case hr => first | (go_simp; done) | (go_simp; rfl)); intro g2 w1_ HSn HBn; clear HBn; replace HS : Hid (St [SL.blk g2 81 #[.int .i64 (i1), .int .i64 (m1), .int .i64 (s1), .int .i64 (u1), .slice B1 n1.length d1]] w w1_) := Go.Lib.hid HSn; clear HSn; obtain ⟨c0_0, c0_1, c0_2, c0_3, c0_4⟩ := HS.out.c5 0 _ _ _ _ _ _ _ rfl) | ((with_reducible refine gate_dst (N := 3) rfl ?_); refine Sl.box_st HS.out (by rfl) (cs := #[.int .i64 (i2), .int .i64 (m2), .int .i64 (s2), .int .i64 (u2), .slice B2 n2.length d2]) (t := 81) ?hr ?_; (case hr => first | (go_simp; done) | (go_simp; rfl)); intro g3 w2_ HSn HBn; clear HBn; replace HS : Hid (St [SL.blk g3 81 #[.int .i64 (i2), .int .i64 (m2), .int .i64 (s2), .int .i64 (u2), .slice B2 n2.length d2], SL.blk g2 81 #[.int .i64 (i1), .int .i64 (m1), .int .i64 (s1), .int .i64 (u1), .slice B1 n1.length d1]] w w2_) := Go.Lib.hid HSn; clear HSn; clear c0_0 c0_1 c0_2 c0_3 c0_4; obtain ⟨c0_0, c0_1, c0_2, c0_3, c0_4⟩ := HS.out.c5 0 _ _ _ _ _ _ _ rfl; obtain ⟨c1_0, c1_1, c1_2, c1_3, c1_4⟩ := HS.out.c5 1 _ _ _ _ _ _ _ rfl))
  go_ret
  exact ⟨rfl, H0.out.then_ HS.out.below⟩
set_option maxHeartbeats 800000 in
set_option maxRecDepth 100000 in
theorem sameShot_3 (h : St l w0 w) (i1 m1 s1 u1 i2 m2 s2 u2 : Int) (B1 : Option Addr) (d1 : Nat) (n1 : List Int) (B2 : Option Addr) (d2 : Nat) (n2 : List Int) (hR1 : (Kd.int .u32).C w B1 n1.length n1) (hd1 : n1.length ≤ d1) (hR2 : (Kd.int .u32).C w B2 n2.length n2) (hd2 : n2.length ≤ d2) (hn : n1.length ≤ 1000000) (e0 : (i1 == i2) = true) (e1 : (m1 == m2) = true) (e2 : (s1 == s2) = true) (e3 : (u1 == u2) = false) :
    Calls Try.prog 48 #[.agg #[.int .i64 (i1), .int .i64 (m1), .int .i64 (s1), .int .i64 (u1), .slice B1 n1.length d1], .agg #[.int .i64 (i2), .int .i64 (m2), .int .i64 (s2), .int .i64 (u2), .slice B2 n2.length d2]] w fun e w' => e = .returned (.bool (false)) ∧ St l w0 w' := by
  have H0 := Go.Lib.hid h
  have HS := Go.Lib.hid (St.start w)
  have R1 := Go.Lib.hid hR1
  have R2 := Go.Lib.hid hR2
  clear h hR1 hR2
  go_enter Try.func48, Try.ntmps48
  go_wp2_with (first | ((with_reducible refine gate_dst (N := 2) rfl ?_); refine Sl.box_st HS.out (by rfl) (cs := #[.int .i64 (i1), .int .i64 (m1), .int .i64 (s1), .int .i64 (u1), .slice B1 n1.length d1]) (t := 81) ?hr ?_; (case hr => first | (go_simp; done) | (go_simp; rfl)); intro g2 w1_ HSn HBn; clear HBn; replace HS : Hid (St [SL.blk g2 81 #[.int .i64 (i1), .int .i64 (m1), .int .i64 (s1), .int .i64 (u1), .slice B1 n1.length d1]] w w1_) := Go.Lib.hid HSn; clear HSn; obtain ⟨c0_0, c0_1, c0_2, c0_3, c0_4⟩ := HS.out.c5 0 _ _ _ _ _ _ _ rfl) | ((with_reducible refine gate_dst (N := 3) rfl ?_); refine Sl.box_st HS.out (by rfl) (cs := #[.int .i64 (i2), .int .i64 (m2), .int .i64 (s2), .int .i64 (u2), .slice B2 n2.length d2]) (t := 81) ?hr ?_; (case hr => first | (go_simp; done) | (go_simp; rfl)); intro g3 w2_ HSn HBn; clear HBn; replace HS : Hid (St [SL.blk g3 81 #[.int .i64 (i2), .int .i64 (m2), .int .i64 (s2), .int .i64 (u2), .slice B2 n2.length d2], SL.blk g2 81 #[.int .i64 (i1), .int .i64 (m1), .int .i64 (s1), .int .i64 (u1), .slice B1 n1.length d1]] w w2_) := Go.Lib.hid HSn; clear HSn; clear c0_0 c0_1 c0_2 c0_3 c0_4; obtain ⟨c0_0, c0_1, c0_2, c0_3, c0_4⟩ := HS.out.c5 0 _ _ _ _ _ _ _ rfl; obtain ⟨c1_0, c1_1, c1_2, c1_3, c1_4⟩ := HS.out.c5 1 _ _ _ _ _ _ _ rfl))
  go_ret
  exact ⟨rfl, H0.out.then_ HS.out.below⟩
set_option maxHeartbeats 800000 in
set_option maxRecDepth 100000 in
theorem sameShot_4 (h : St l w0 w) (i1 m1 s1 u1 i2 m2 s2 u2 : Int) (B1 : Option Addr) (d1 : Nat) (n1 : List Int) (B2 : Option Addr) (d2 : Nat) (n2 : List Int) (hR1 : (Kd.int .u32).C w B1 n1.length n1) (hd1 : n1.length ≤ d1) (hR2 : (Kd.int .u32).C w B2 n2.length n2) (hd2 : n2.length ≤ d2) (hn : n1.length ≤ 1000000) (e0 : (i1 == i2) = true) (e1 : (m1 == m2) = true) (e2 : (s1 == s2) = true) (e3 : (u1 == u2) = true) :
    Calls Try.prog 48 #[.agg #[.int .i64 (i1), .int .i64 (m1), .int .i64 (s1), .int .i64 (u1), .slice B1 n1.length d1], .agg #[.int .i64 (i2), .int .i64 (m2), .int .i64 (s2), .int .i64 (u2), .slice B2 n2.length d2]] w fun e w' => e = .returned (.bool (decide (n1 = n2))) ∧ St l w0 w' := by
  have H0 := Go.Lib.hid h
  have HS := Go.Lib.hid (St.start w)
  have R1 := Go.Lib.hid hR1
  have R2 := Go.Lib.hid hR2
  clear h hR1 hR2
  go_enter Try.func48, Try.ntmps48
  go_wp2_with (first | ((with_reducible refine gate_dst (N := 2) rfl ?_); refine Sl.box_st HS.out (by rfl) (cs := #[.int .i64 (i1), .int .i64 (m1), .int .i64 (s1), .int .i64 (u1), .slice B1 n1.length d1]) (t := 81) ?hr ?_; (case hr => first | (go_simp; done) | (go_simp; rfl)); intro g2 w1_ HSn HBn; clear HBn; replace HS : Hid (St [SL.blk g2 81 #[.int .i64 (i1), .int .i64 (m1), .int .i64 (s1), .int .i64 (u1), .slice B1 n1.length d1]] w w1_) := Go.Lib.hid HSn; clear HSn; obtain ⟨c0_0, c0_1, c0_2, c0_3, c0_4⟩ := HS.out.c5 0 _ _ _ _ _ _ _ rfl) | ((with_reducible refine gate_dst (N := 3) rfl ?_); refine Sl.box_st HS.out (by rfl) (cs := #[.int .i64 (i2), .int .i64 (m2), .int .i64 (s2), .int .i64 (u2), .slice B2 n2.length d2]) (t := 81) ?hr ?_; (case hr => first | (go_simp; done) | (go_simp; rfl)); intro g3 w2_ HSn HBn; clear HBn; replace HS : Hid (St [SL.blk g3 81 #[.int .i64 (i2), .int .i64 (m2), .int .i64 (s2), .int .i64 (u2), .slice B2 n2.length d2], SL.blk g2 81 #[.int .i64 (i1), .int .i64 (m1), .int .i64 (s1), .int .i64 (u1), .slice B1 n1.length d1]] w w2_) := Go.Lib.hid HSn; clear HSn; clear c0_0 c0_1 c0_2 c0_3 c0_4; obtain ⟨c0_0, c0_1, c0_2, c0_3, c0_4⟩ := HS.out.c5 0 _ _ _ _ _ _ _ rfl; obtain ⟨c1_0, c1_1, c1_2, c1_3, c1_4⟩ := HS.out.c5 1 _ _ _ _ _ _ _ rfl) | (go_at_call 97; refine (slices_Equal_uint32_uint32.calls (n1.length + 5) B1 d1 n1 B2 d2 n2 _ _ (HS.out.C R1.out) hd1 (HS.out.C R2.out) hd2 (equal_at n1 n2 hn)).mono ?_; rintro e w9_ ⟨rfl, hD⟩; replace HS := Go.Lib.hid (HS.out.drawn hD); clear hD))
  go_ret
  exact ⟨rfl, H0.out.then_ HS.out.below⟩
end Go.Proofs.Ytkmhgolohppliaa.Prt

/-! One call of both partitions; a shot held against the document's; shots held side by side. -/
namespace Go.Proofs.Ytkmhgolohppliaa.Prt
open Go.RowKit Go.Proofs.Ytkmhgolohppliaa.PCellsPlays Go.Proofs.YtkmhgolohppliaaW.PrintWords Go.Proofs.YtkmhgolohppliaaW.PrintLast Go.Proofs.YtkmhgolohppliaaW.PrintMore Go.Proofs.Ytkmhgolohppliaa.Mine Go.Proofs.Ytkmhgolohppliaa.Cel Go.Proofs.Ytkmhgolohppliaa.Cls
open Go.Proofs.Ytkmhgolohppliaa.Sl (SL Stp St No)
open Go.Proofs.Ytkmhgolohppliaa.Mod (strt actM runs right askd)
set_option linter.unusedVariables false
set_option linter.unusedSimpArgs false
attribute [local go_sem] max2_int min2_int max_two min_two max_three min_three max_four min_four
variable {l : List SL} {w0 w : World} {g : Nat} {id : Int} {name : ByteArray} {may : Bool} {fst : List S43} {s : PS}
variable {now : List Int} {A : Option Addr} {c : Nat} {A2 : Option Addr} {c2 : Nat}
theorem sameShot (h : St l w0 w) (i1 m1 s1 u1 i2 m2 s2 u2 : Int) (B1 : Option Addr) (d1 : Nat) (n1 : List Int) (B2 : Option Addr) (d2 : Nat) (n2 : List Int) (hR1 : (Kd.int .u32).C w B1 n1.length n1) (hd1 : n1.length ≤ d1) (hR2 : (Kd.int .u32).C w B2 n2.length n2) (hd2 : n2.length ≤ d2) (hn : n1.length ≤ 1000000) (b : Bool) (hb : b = decide (i1 = i2 ∧ m1 = m2 ∧ s1 = s2 ∧ u1 = u2 ∧ n1 = n2)) :
    Calls Try.prog 48 #[.agg #[.int .i64 i1, .int .i64 m1, .int .i64 s1, .int .i64 u1, .slice B1 n1.length d1], .agg #[.int .i64 i2, .int .i64 m2, .int .i64 s2, .int .i64 u2, .slice B2 n2.length d2]] w fun e w' => e = .returned (.bool b) ∧ St l w0 w' := by
  subst hb
  by_cases e0 : i1 = i2
  · by_cases e1 : m1 = m2
    · by_cases e2 : s1 = s2
      · by_cases e3 : u1 = u2
        · have := sameShot_4 h i1 m1 s1 u1 i2 m2 s2 u2 B1 d1 n1 B2 d2 n2 hR1 hd1 hR2 hd2 hn (beq_iff_eq.2 e0) (beq_iff_eq.2 e1) (beq_iff_eq.2 e2) (beq_iff_eq.2 e3)
          rw [show decide (i1 = i2 ∧ m1 = m2 ∧ s1 = s2 ∧ u1 = u2 ∧ n1 = n2) = decide (n1 = n2) by simp [e0, e1, e2, e3]]; exact this
        · rw [decide_eq_false (fun hx => e3 hx.2.2.2.1)]
          exact sameShot_3 h i1 m1 s1 u1 i2 m2 s2 u2 B1 d1 n1 B2 d2 n2 hR1 hd1 hR2 hd2 hn (beq_iff_eq.2 e0) (beq_iff_eq.2 e1) (beq_iff_eq.2 e2) (beq_eq_false_iff_ne.2 e3)
      · rw [decide_eq_false (fun hx => e2 hx.2.2.1)]
        exact sameShot_2 h i1 m1 s1 u1 i2 m2 s2 u2 B1 d1 n1 B2 d2 n2 hR1 hd1 hR2 hd2 hn (beq_iff_eq.2 e0) (beq_iff_eq.2 e1) (beq_eq_false_iff_ne.2 e2)
    · rw [decide_eq_false (fun hx => e1 hx.2.1)]
      exact sameShot_1 h i1 m1 s1 u1 i2 m2 s2 u2 B1 d1 n1 B2 d2 n2 hR1 hd1 hR2 hd2 hn (beq_iff_eq.2 e0) (beq_eq_false_iff_ne.2 e1)
  · rw [decide_eq_false (fun hx => e0 hx.1)]
    exact sameShot_0 h i1 m1 s1 u1 i2 m2 s2 u2 B1 d1 n1 B2 d2 n2 hR1 hd1 hR2 hd2 hn (beq_eq_false_iff_ne.2 e0)
set_option maxHeartbeats 1600000 in
set_option maxRecDepth 100000 in
theorem unlike_eq {A9 : Option Addr} {c9 : Nat} (h : St (SL.row (Kd.int .u32) 39 (.slice A9 s.now.length c9) s.now :: SL.row (Kd.int .u32) 39 (.slice A2 (s).now.length c2) (s).now :: l) w0 w) (hn : s.now.length ≤ 1000000) :
    Calls Try.prog 49 #[.agg #[.int .i64 id, .int .i64 s.mode, .int .i64 s.starts, .int .i64 s.cause, .slice A9 s.now.length c9], .agg #[.int .i64 id, .string name, .bool may, .slice A fst.length c, .int .i64 (s).mode, .int .i64 (s).starts, .int .i64 (s).cause, .slice A fst.length c, .slice A2 (s).now.length c2, .int .i64 (s).wr]] w fun e w' => e = .returned (.string ⟨#[]⟩) ∧ St (SL.row (Kd.int .u32) 39 (.slice A9 s.now.length c9) s.now :: SL.row (Kd.int .u32) 39 (.slice A2 (s).now.length c2) (s).now :: l) w0 w' := by
  obtain ⟨m0, s0, u0, now0, q0⟩ := s
  have HS := Go.Lib.hid h
  clear h
  go_enter Try.func49, Try.ntmps49
  go_wp2_with (first | ((with_reducible refine gate_dst (N := 2) rfl ?_); refine Sl.box_st HS.out (by rfl) (cs := #[.int .i64 id, .int .i64 m0, .int .i64 s0, .int .i64 u0, .slice A9 now0.length c9]) (t := 81) ?hr ?_; (case hr => first | (go_simp; done) | (go_simp; rfl)); intro g2 w1_ HSn HBn; clear HBn; replace HS : Hid (St (SL.blk g2 81 #[.int .i64 id, .int .i64 m0, .int .i64 s0, .int .i64 u0, .slice A9 now0.length c9] :: SL.row (Kd.int .u32) 39 (.slice A9 now0.length c9) now0 :: SL.row (Kd.int .u32) 39 (.slice A2 now0.length c2) now0 :: l) w0 w1_) := Go.Lib.hid HSn; clear HSn; obtain ⟨c0_0, c0_1, c0_2, c0_3, c0_4⟩ := HS.out.c5 0 _ _ _ _ _ _ _ rfl) | ((with_reducible refine gate_dst (N := 3) rfl ?_); refine Sl.box_st HS.out (by rfl) (cs := #[.int .i64 id, .string name, .bool may, .slice A fst.length c, .int .i64 (m0), .int .i64 (s0), .int .i64 (u0), .slice A fst.length c, .slice A2 now0.length c2, .int .i64 (q0)]) (t := 76) ?hr ?_; (case hr => first | (go_simp; done) | (go_simp; rfl)); intro g3 w2_ HSn HBn; clear HBn; replace HS : Hid (St (SL.blk g3 76 #[.int .i64 id, .string name, .bool may, .slice A fst.length c, .int .i64 (m0), .int .i64 (s0), .int .i64 (u0), .slice A fst.length c, .slice A2 now0.length c2, .int .i64 (q0)] :: SL.blk g2 81 #[.int .i64 id, .int .i64 m0, .int .i64 s0, .int .i64 u0, .slice A9 now0.length c9] :: SL.row (Kd.int .u32) 39 (.slice A9 now0.length c9) now0 :: SL.row (Kd.int .u32) 39 (.slice A2 now0.length c2) now0 :: l) w0 w2_) := Go.Lib.hid HSn; clear HSn; clear c0_0 c0_1 c0_2 c0_3 c0_4; obtain ⟨c0_0, c0_1, c0_2, c0_3, c0_4, c0_5, c0_6, c0_7, c0_8, c0_9⟩ := HS.out.c10 0 _ _ _ _ _ _ _ _ _ _ _ _ rfl; obtain ⟨c1_0, c1_1, c1_2, c1_3, c1_4⟩ := HS.out.c5 1 _ _ _ _ _ _ _ rfl) | (go_at_call 36; refine (rsame_eq HS.out 2 3 rfl rfl hn).mono ?_; rintro e w3_ ⟨rfl, HSn⟩; replace HS : Hid (St (SL.blk g3 76 #[.int .i64 id, .string name, .bool may, .slice A fst.length c, .int .i64 (m0), .int .i64 (s0), .int .i64 (u0), .slice A fst.length c, .slice A2 now0.length c2, .int .i64 (q0)] :: SL.blk g2 81 #[.int .i64 id, .int .i64 m0, .int .i64 s0, .int .i64 u0, .slice A9 now0.length c9] :: SL.row (Kd.int .u32) 39 (.slice A9 now0.length c9) now0 :: SL.row (Kd.int .u32) 39 (.slice A2 now0.length c2) now0 :: l) w0 w3_) := Go.Lib.hid HSn; clear HSn; clear c0_0 c0_1 c0_2 c0_3 c0_4 c0_5 c0_6 c0_7 c0_8 c0_9 c1_0 c1_1 c1_2 c1_3 c1_4; obtain ⟨c0_0, c0_1, c0_2, c0_3, c0_4, c0_5, c0_6, c0_7, c0_8, c0_9⟩ := HS.out.c10 0 _ _ _ _ _ _ _ _ _ _ _ _ rfl; obtain ⟨c1_0, c1_1, c1_2, c1_3, c1_4⟩ := HS.out.c5 1 _ _ _ _ _ _ _ rfl))
  go_ret
  exact ⟨rfl, HS.out.drop.drop⟩
set_option maxHeartbeats 3200000 in
set_option maxRecDepth 100000 in
theorem one_1 (h : St (SL.row (Kd.int .u32) 39 (.slice A2 (s).now.length c2) (s).now :: part g id name may fst s :: l) w0 w) (x0 x1 x2 : Int) (hC : k43.C w0 A fst.length fst) (hl : s.now.length = fst.length) (hs0 : 0 ≤ s.starts) (hs1 : s.starts ≤ 1000000) (hn : fst.length ≤ 1000) (hm0 : 0 ≤ s.mode) (hm1 : s.mode ≤ 3) (hq0 : 0 ≤ s.wr) (hq1 : s.wr ≤ 1000000) :
    Calls Try.prog 46 #[.pointer (some ⟨g, 0, none⟩), .agg #[.int .i64 id, .string name, .bool may, .slice A fst.length c, .int .i64 (s).mode, .int .i64 (s).starts, .int .i64 (s).cause, .slice A fst.length c, .slice A2 (s).now.length c2, .int .i64 (s).wr], .agg #[.int .i64 1, .int .i64 x1, .int .u32 x2]] w fun e w' => ∃ A3 c3, e = .returned (.tuple #[.agg #[.int .i64 id, .string name, .bool may, .slice A fst.length c, .int .i64 (s.setMode fst x1).mode, .int .i64 (s.setMode fst x1).starts, .int .i64 (s.setMode fst x1).cause, .slice A fst.length c, .slice A3 (s.setMode fst x1).now.length c3, .int .i64 (s.setMode fst x1).wr], .bool true]) ∧ St (SL.row (Kd.int .u32) 39 (.slice A3 (s.setMode fst x1).now.length c3) (s.setMode fst x1).now :: part g id name may fst (s.setMode fst x1) :: l) w0 w' := by
  obtain ⟨m0, s0, u0, now0, q0⟩ := s
  have HC := Go.Lib.hid hC
  have HL : Hid (now0.length = fst.length) := Go.Lib.hid hl
  have HS := Go.Lib.hid h
  have hn2 : fst.length ≤ 1000000 := by omega
  have hnn : now0.length ≤ 1000000 := by rw [HL.out]; omega
  clear hC hl h
  go_enter Try.func46, Try.ntmps46
  go_wp2_with (first | ((with_reducible refine gate_dst (N := 4) rfl ?_); refine Sl.box_st HS.out (by rfl) (cs := #[.int .i64 id, .string name, .bool may, .slice A fst.length c, .int .i64 (m0), .int .i64 (s0), .int .i64 (u0), .slice A fst.length c, .slice A2 now0.length c2, .int .i64 (q0)]) (t := 76) ?hr ?_; (case hr => first | (go_simp; done) | (go_simp; rfl)); intro g4 w1_ HSn HBn; clear HBn; replace HS : Hid (St (SL.blk g4 76 #[.int .i64 id, .string name, .bool may, .slice A fst.length c, .int .i64 (m0), .int .i64 (s0), .int .i64 (u0), .slice A fst.length c, .slice A2 now0.length c2, .int .i64 (q0)] :: SL.row (Kd.int .u32) 39 (.slice A2 now0.length c2) now0 :: part g id name may fst ⟨m0, s0, u0, now0, q0⟩ :: l) w0 w1_) := Go.Lib.hid HSn; clear HSn; obtain ⟨c0_0, c0_1, c0_2, c0_3, c0_4, c0_5, c0_6, c0_7, c0_8, c0_9⟩ := HS.out.c10 0 _ _ _ _ _ _ _ _ _ _ _ _ rfl) | ((with_reducible refine gate_dst (N := 5) rfl ?_); refine Sl.box_st HS.out (by rfl) (cs := #[.int .i64 1, .int .i64 x1, .int .u32 x2]) (t := 67) ?hr ?_; (case hr => first | (go_simp; done) | (go_simp; rfl)); intro g5 w2_ HSn HBn; clear HBn; replace HS : Hid (St (SL.blk g5 67 #[.int .i64 1, .int .i64 x1, .int .u32 x2] :: SL.blk g4 76 #[.int .i64 id, .string name, .bool may, .slice A fst.length c, .int .i64 (m0), .int .i64 (s0), .int .i64 (u0), .slice A fst.length c, .slice A2 now0.length c2, .int .i64 (q0)] :: SL.row (Kd.int .u32) 39 (.slice A2 now0.length c2) now0 :: part g id name may fst ⟨m0, s0, u0, now0, q0⟩ :: l) w0 w2_) := Go.Lib.hid HSn; clear HSn; clear c0_0 c0_1 c0_2 c0_3 c0_4 c0_5 c0_6 c0_7 c0_8 c0_9; obtain ⟨c0_0, c0_1, c0_2⟩ := HS.out.c3 0 _ _ _ _ _ rfl; obtain ⟨c1_0, c1_1, c1_2, c1_3, c1_4, c1_5, c1_6, c1_7, c1_8, c1_9⟩ := HS.out.c10 1 _ _ _ _ _ _ _ _ _ _ _ _ rfl) | ((with_reducible refine gate_dst (N := 6) rfl ?_); refine Sl.box_st HS.out (by rfl) (cs := #[.int .i64 0, .string ⟨#[]⟩, .bool false, .slice none 0 0, .int .i64 0, .int .i64 0, .int .i64 0, .slice none 0 0, .slice none 0 0, .int .i64 0]) (t := 76) ?hr ?_; (case hr => first | (go_simp; done) | (go_simp; rfl)); intro g6 w3_ HSn HBn; clear HBn; replace HS : Hid (St (SL.blk g6 76 #[.int .i64 0, .string ⟨#[]⟩, .bool false, .slice none 0 0, .int .i64 0, .int .i64 0, .int .i64 0, .slice none 0 0, .slice none 0 0, .int .i64 0] :: SL.blk g5 67 #[.int .i64 1, .int .i64 x1, .int .u32 x2] :: SL.blk g4 76 #[.int .i64 id, .string name, .bool may, .slice A fst.length c, .int .i64 (m0), .int .i64 (s0), .int .i64 (u0), .slice A fst.length c, .slice A2 now0.length c2, .int .i64 (q0)] :: SL.row (Kd.int .u32) 39 (.slice A2 now0.length c2) now0 :: part g id name may fst ⟨m0, s0, u0, now0, q0⟩ :: l) w0 w3_) := Go.Lib.hid HSn; clear HSn; clear c0_0 c0_1 c0_2 c1_0 c1_1 c1_2 c1_3 c1_4 c1_5 c1_6 c1_7 c1_8 c1_9; obtain ⟨c0_0, c0_1, c0_2, c0_3, c0_4, c0_5, c0_6, c0_7, c0_8, c0_9⟩ := HS.out.c10 0 _ _ _ _ _ _ _ _ _ _ _ _ rfl; obtain ⟨c1_0, c1_1, c1_2⟩ := HS.out.c3 1 _ _ _ _ _ rfl; obtain ⟨c2_0, c2_1, c2_2, c2_3, c2_4, c2_5, c2_6, c2_7, c2_8, c2_9⟩ := HS.out.c10 2 _ _ _ _ _ _ _ _ _ _ _ _ rfl) | (go_at_call 67; refine (rsetMode (s := ⟨m0, s0, u0, now0, q0⟩) (HS.out.front 3 _ rfl) x1 HC.out HL.out hs0 hs1 hn).mono ?_; rintro e w4_ ⟨A3, c3, rfl, HSn⟩; replace HS : Hid (St (SL.row (Kd.int .u32) 39 (.slice A3 ((PS.setMode fst ⟨m0, s0, u0, now0, q0⟩ x1)).now.length c3) ((PS.setMode fst ⟨m0, s0, u0, now0, q0⟩ x1)).now :: SL.blk g6 76 #[.int .i64 0, .string ⟨#[]⟩, .bool false, .slice none 0 0, .int .i64 0, .int .i64 0, .int .i64 0, .slice none 0 0, .slice none 0 0, .int .i64 0] :: SL.blk g5 67 #[.int .i64 1, .int .i64 x1, .int .u32 x2] :: SL.blk g4 76 #[.int .i64 id, .string name, .bool may, .slice A fst.length c, .int .i64 (m0), .int .i64 (s0), .int .i64 (u0), .slice A fst.length c, .slice A2 now0.length c2, .int .i64 (q0)] :: part g id name may fst ⟨m0, s0, u0, now0, q0⟩ :: l) w0 w4_) := Go.Lib.hid HSn; clear HSn; clear c0_0 c0_1 c0_2 c0_3 c0_4 c0_5 c0_6 c0_7 c0_8 c0_9 c1_0 c1_1 c1_2 c2_0 c2_1 c2_2 c2_3 c2_4 c2_5 c2_6 c2_7 c2_8 c2_9; obtain ⟨c1_0, c1_1, c1_2, c1_3, c1_4, c1_5, c1_6, c1_7, c1_8, c1_9⟩ := HS.out.c10 1 _ _ _ _ _ _ _ _ _ _ _ _ rfl; obtain ⟨c2_0, c2_1, c2_2⟩ := HS.out.c3 2 _ _ _ _ _ rfl; obtain ⟨c3_0, c3_1, c3_2, c3_3, c3_4, c3_5, c3_6, c3_7, c3_8, c3_9⟩ := HS.out.c10 3 _ _ _ _ _ _ _ _ _ _ _ _ rfl) | ((with_reducible refine gate_dst (N := 8) rfl ?_); refine Sl.box_st HS.out (by rfl) (cs := #[.int .i64 0, .string ⟨#[]⟩, .bool false, .slice none 0 0, .int .i64 0, .int .i64 0, .int .i64 0, .slice none 0 0, .slice none 0 0, .int .i64 0]) (t := 76) ?hr ?_; (case hr => first | (go_simp; done) | (go_simp; rfl)); intro g8 w5_ HSn HBn; clear HBn; replace HS : Hid (St (SL.blk g8 76 #[.int .i64 0, .string ⟨#[]⟩, .bool false, .slice none 0 0, .int .i64 0, .int .i64 0, .int .i64 0, .slice none 0 0, .slice none 0 0, .int .i64 0] :: SL.row (Kd.int .u32) 39 (.slice A3 ((PS.setMode fst ⟨m0, s0, u0, now0, q0⟩ x1)).now.length c3) ((PS.setMode fst ⟨m0, s0, u0, now0, q0⟩ x1)).now :: SL.blk g6 76 #[.int .i64 0, .string ⟨#[]⟩, .bool false, .slice none 0 0, .int .i64 0, .int .i64 0, .int .i64 0, .slice none 0 0, .slice none 0 0, .int .i64 0] :: SL.blk g5 67 #[.int .i64 1, .int .i64 x1, .int .u32 x2] :: SL.blk g4 76 #[.int .i64 id, .string name, .bool may, .slice A fst.length c, .int .i64 (m0), .int .i64 (s0), .int .i64 (u0), .slice A fst.length c, .slice A2 now0.length c2, .int .i64 (q0)] :: part g id name may fst ⟨m0, s0, u0, now0, q0⟩ :: l) w0 w5_) := Go.Lib.hid HSn; clear HSn; clear c1_0 c1_1 c1_2 c1_3 c1_4 c1_5 c1_6 c1_7 c1_8 c1_9 c2_0 c2_1 c2_2 c3_0 c3_1 c3_2 c3_3 c3_4 c3_5 c3_6 c3_7 c3_8 c3_9; obtain ⟨c0_0, c0_1, c0_2, c0_3, c0_4, c0_5, c0_6, c0_7, c0_8, c0_9⟩ := HS.out.c10 0 _ _ _ _ _ _ _ _ _ _ _ _ rfl; obtain ⟨c2_0, c2_1, c2_2, c2_3, c2_4, c2_5, c2_6, c2_7, c2_8, c2_9⟩ := HS.out.c10 2 _ _ _ _ _ _ _ _ _ _ _ _ rfl; obtain ⟨c3_0, c3_1, c3_2⟩ := HS.out.c3 3 _ _ _ _ _ rfl; obtain ⟨c4_0, c4_1, c4_2, c4_3, c4_4, c4_5, c4_6, c4_7, c4_8, c4_9⟩ := HS.out.c10 4 _ _ _ _ _ _ _ _ _ _ _ _ rfl) | ((with_reducible refine gate_store (p := 8) rfl ?_); refine Sl.storeAll_st HS.out 0 g8 76 _ rfl [.int .i64 id, .string name, .bool may, .slice A fst.length c, .int .i64 ((PS.setMode fst ⟨m0, s0, u0, now0, q0⟩ x1)).mode, .int .i64 ((PS.setMode fst ⟨m0, s0, u0, now0, q0⟩ x1)).starts, .int .i64 ((PS.setMode fst ⟨m0, s0, u0, now0, q0⟩ x1)).cause, .slice A fst.length c, .slice A3 ((PS.setMode fst ⟨m0, s0, u0, now0, q0⟩ x1)).now.length c3, .int .i64 ((PS.setMode fst ⟨m0, s0, u0, now0, q0⟩ x1)).wr] rfl (by rfl) (by rfl) ?hr ?_; (case hr => have f_ := HS.out.f10 0 _ _ _ _ _ _ _ _ _ _ _ _ rfl; (try obtain ⟨f0, f1, f2, f3, f4, f5, f6, f7, f8, f9⟩ := f_); first | (go_simp; done) | (go_simp; rfl)); intro w6_ HSn; replace HS : Hid (St (SL.blk g8 76 #[.int .i64 id, .string name, .bool may, .slice A fst.length c, .int .i64 ((PS.setMode fst ⟨m0, s0, u0, now0, q0⟩ x1)).mode, .int .i64 ((PS.setMode fst ⟨m0, s0, u0, now0, q0⟩ x1)).starts, .int .i64 ((PS.setMode fst ⟨m0, s0, u0, now0, q0⟩ x1)).cause, .slice A fst.length c, .slice A3 ((PS.setMode fst ⟨m0, s0, u0, now0, q0⟩ x1)).now.length c3, .int .i64 ((PS.setMode fst ⟨m0, s0, u0, now0, q0⟩ x1)).wr] :: SL.row (Kd.int .u32) 39 (.slice A3 ((PS.setMode fst ⟨m0, s0, u0, now0, q0⟩ x1)).now.length c3) ((PS.setMode fst ⟨m0, s0, u0, now0, q0⟩ x1)).now :: SL.blk g6 76 #[.int .i64 0, .string ⟨#[]⟩, .bool false, .slice none 0 0, .int .i64 0, .int .i64 0, .int .i64 0, .slice none 0 0, .slice none 0 0, .int .i64 0] :: SL.blk g5 67 #[.int .i64 1, .int .i64 x1, .int .u32 x2] :: SL.blk g4 76 #[.int .i64 id, .string name, .bool may, .slice A fst.length c, .int .i64 (m0), .int .i64 (s0), .int .i64 (u0), .slice A fst.length c, .slice A2 now0.length c2, .int .i64 (q0)] :: part g id name may fst ⟨m0, s0, u0, now0, q0⟩ :: l) w0 w6_) := Go.Lib.hid HSn; clear HSn; clear c0_0 c0_1 c0_2 c0_3 c0_4 c0_5 c0_6 c0_7 c0_8 c0_9 c2_0 c2_1 c2_2 c2_3 c2_4 c2_5 c2_6 c2_7 c2_8 c2_9 c3_0 c3_1 c3_2 c4_0 c4_1 c4_2 c4_3 c4_4 c4_5 c4_6 c4_7 c4_8 c4_9; obtain ⟨c0_0, c0_1, c0_2, c0_3, c0_4, c0_5, c0_6, c0_7, c0_8, c0_9⟩ := HS.out.c10 0 _ _ _ _ _ _ _ _ _ _ _ _ rfl; obtain ⟨c2_0, c2_1, c2_2, c2_3, c2_4, c2_5, c2_6, c2_7, c2_8, c2_9⟩ := HS.out.c10 2 _ _ _ _ _ _ _ _ _ _ _ _ rfl; obtain ⟨c3_0, c3_1, c3_2⟩ := HS.out.c3 3 _ _ _ _ _ rfl; obtain ⟨c4_0, c4_1, c4_2, c4_3, c4_4, c4_5, c4_6, c4_7, c4_8, c4_9⟩ := HS.out.c10 4 _ _ _ _ _ _ _ _ _ _ _ _ rfl))
  clear c0_0 c0_1 c0_2 c0_3 c0_4 c0_5 c0_6 c0_7 c0_8 c0_9 c2_0 c2_1 c2_2 c2_3 c2_4 c2_5 c2_6 c2_7 c2_8 c2_9 c3_0 c3_1 c3_2 c4_0 c4_1 c4_2 c4_3 c4_4 c4_5 c4_6 c4_7 c4_8 c4_9
  replace HS := Go.Lib.hid HS.out.drew
  refine start_ (n := 9) (S := fun w' => w'.cell? ⟨g8, 0, none⟩ = some (.int .i64 id) ∧ w'.cell? ⟨g8, 1, none⟩ = some (.string name) ∧ w'.cell? ⟨g8, 2, none⟩ = some (.bool may) ∧ w'.cell? ⟨g8, 3, none⟩ = some (.slice A fst.length c) ∧ w'.cell? ⟨g8, 4, none⟩ = some (.int .i64 ((PS.setMode fst ⟨m0, s0, u0, now0, q0⟩ x1)).mode) ∧ w'.cell? ⟨g8, 5, none⟩ = some (.int .i64 ((PS.setMode fst ⟨m0, s0, u0, now0, q0⟩ x1)).starts) ∧ w'.cell? ⟨g8, 6, none⟩ = some (.int .i64 ((PS.setMode fst ⟨m0, s0, u0, now0, q0⟩ x1)).cause) ∧ w'.cell? ⟨g8, 7, none⟩ = some (.slice A fst.length c) ∧ w'.cell? ⟨g8, 8, none⟩ = some (.slice A3 ((PS.setMode fst ⟨m0, s0, u0, now0, q0⟩ x1)).now.length c3) ∧ w'.cell? ⟨g8, 9, none⟩ = some (.int .i64 ((PS.setMode fst ⟨m0, s0, u0, now0, q0⟩ x1)).wr) ∧ w'.cell? ⟨g5, 1, none⟩ = some (.int .i64 x1) ∧ w'.cell? ⟨g5, 2, none⟩ = some (.int .u32 x2)) (ds := [7]) #[false, false, false, false, false, false, false, false, false] (by kernel_rfl) rfl rfl ⟨HS.out.cell 0 _ _ _ rfl 0, HS.out.cell 0 _ _ _ rfl 1, HS.out.cell 0 _ _ _ rfl 2, HS.out.cell 0 _ _ _ rfl 3, HS.out.cell 0 _ _ _ rfl 4, HS.out.cell 0 _ _ _ rfl 5, HS.out.cell 0 _ _ _ rfl 6, HS.out.cell 0 _ _ _ rfl 7, HS.out.cell 0 _ _ _ rfl 8, HS.out.cell 0 _ _ _ rfl 9, HS.out.cell 3 _ _ _ rfl 1, HS.out.cell 3 _ _ _ rfl 2⟩ (fun hHeld => ?_)
  generalize w6_.drew = W_ at *
  refine pure_ (i := 1) (N := some 30) (v := ?_) (a' := ?_) #[false, true, false, false, false, false, false, false, false] rfl rfl (by kernel_rfl) (fun _ _ _ h => h) (Or.inl ⟨by rfl, ?_⟩) ?_ ?_
  rotate_left
  · intro w'
    go_simp
    with_reducible rfl
  rotate_left
  · simp only [Act.put, List.setIfInBounds_toArray, List.set_cons_zero, List.set_cons_succ, i64_w, i32_w]
    rfl
  refine pure_ (i := 2) (N := some 31) (v := ?_) (a' := ?_) #[false, true, true, false, false, false, false, false, false] rfl rfl (by kernel_rfl) (fun _ _ _ h => h) (Or.inl ⟨by rfl, ?_⟩) ?_ ?_
  rotate_left
  · intro w'
    go_simp
    with_reducible rfl
  rotate_left
  · simp only [Act.put, List.setIfInBounds_toArray, List.set_cons_zero, List.set_cons_succ, i64_w, i32_w]
    rfl
  refine pure_ (i := 5) (N := some 34) (v := ?_) (a' := ?_) #[false, true, true, false, false, true, false, false, false] rfl rfl (by kernel_rfl) (fun _ _ _ h => h) (Or.inl ⟨by rfl, ?_⟩) ?_ ?_
  rotate_left
  · intro w'
    go_simp
    with_reducible rfl
  rotate_left
  · simp only [Act.put, List.setIfInBounds_toArray, List.set_cons_zero, List.set_cons_succ, i64_w, i32_w]
    rfl
  refine take_ (i := 0) (N := some 29) (v := ?_) (a' := ?_) #[true, true, true, false, false, true, false, false, false] rfl rfl (by kernel_rfl) (fun _ _ _ h => h) (Or.inl ⟨by rfl, ?_⟩) hHeld ?_ ?_
  rotate_left
  · rintro w' ⟨s0_, s1_, s2_, s3_, s4_, s5_, s6_, s7_, s8_, s9_, s10_, s11_⟩
    go_simp
    with_reducible rfl
  rotate_left
  · simp only [Act.put, List.setIfInBounds_toArray, List.set_cons_zero, List.set_cons_succ, i64_w, i32_w]
    rfl
  refine take_ (i := 3) (N := some 32) (v := ?_) (a' := ?_) #[true, true, true, true, false, true, false, false, false] rfl rfl (by kernel_rfl) (fun _ _ _ h => h) (Or.inl ⟨by rfl, ?_⟩) hHeld ?_ ?_
  rotate_left
  · rintro w' ⟨s0_, s1_, s2_, s3_, s4_, s5_, s6_, s7_, s8_, s9_, s10_, s11_⟩
    go_simp
    with_reducible rfl
  rotate_left
  · simp only [Act.put, List.setIfInBounds_toArray, List.set_cons_zero, List.set_cons_succ, i64_w, i32_w]
    rfl
  refine one_ (i := 4) (N := some 33) #[true, true, true, true, true, true, false, false, false] rfl rfl (by kernel_rfl) (by decide) (fun K hK => ?_)
  refine goes_ Try.func40 (by kernel_rfl) rfl #[.pointer (some ⟨g, 0, none⟩), .int .i64 x1] (by rfl) rfl rfl (by (try simp only [List.map_toArray, List.map_cons, List.map_nil]); first | done | rfl) ?_
  refine (setMode_at (s := ⟨m0, s0, u0, now0, q0⟩) HS.out 5 rfl x1 hs0 hs1 hn2).mono ?_
  rintro e w91 ⟨rfl, hS91⟩
  have HS91 := Go.Lib.hid hS91
  clear hS91
  refine ⟨_, rfl, ?_⟩
  refine hK.out _ _ ⟨HS91.out.cell 0 _ _ _ rfl 0, HS91.out.cell 0 _ _ _ rfl 1, HS91.out.cell 0 _ _ _ rfl 2, HS91.out.cell 0 _ _ _ rfl 3, HS91.out.cell 0 _ _ _ rfl 4, HS91.out.cell 0 _ _ _ rfl 5, HS91.out.cell 0 _ _ _ rfl 6, HS91.out.cell 0 _ _ _ rfl 7, HS91.out.cell 0 _ _ _ rfl 8, HS91.out.cell 0 _ _ _ rfl 9, HS91.out.cell 3 _ _ _ rfl 1, HS91.out.cell 3 _ _ _ rfl 2⟩ (fun hHeld => ?_)
  clear hK K
  refine norm_ (a' := ?_) ?_ ?_
  rotate_left
  · show Act.put _ (some 33) _ = _
    simp only [Act.put, List.setIfInBounds_toArray, List.set_cons_zero, List.set_cons_succ, i64_w, i32_w]
    rfl
  refine pure_ (i := 6) (N := some 35) (v := ?_) (a' := ?_) #[true, true, true, true, true, true, true, false, false] rfl rfl (by kernel_rfl) (fun _ _ _ h => h) (Or.inl ⟨by rfl, ?_⟩) ?_ ?_
  rotate_left
  · intro w'
    go_simp
    with_reducible rfl
  rotate_left
  · simp only [Act.put, List.setIfInBounds_toArray, List.set_cons_zero, List.set_cons_succ, i64_w, i32_w]
    rfl
  refine last_ (i := 7) (N := none) #[true, true, true, true, true, true, true, true, false] rfl rfl (by kernel_rfl) (by decide) (fun K hK => ?_)
  obtain ⟨e0, e1, e2, e3, e4, e5, e6, e7, e8, e9⟩ := HS91.out.c10 2 _ _ _ _ _ _ _ _ _ _ _ _ rfl
  obtain ⟨f0, f1, f2, f3, f4, f5, f6, f7, f8, f9⟩ := HS91.out.f10 2 _ _ _ _ _ _ _ _ _ _ _ _ rfl
  refine Sl.storeAll_stp HS91.out 2 g6 76 _ rfl [.int .i64 id, .string name, .bool may, .slice A fst.length c, .int .i64 ((PS.setMode fst ⟨m0, s0, u0, now0, q0⟩ x1)).mode, .int .i64 ((PS.setMode fst ⟨m0, s0, u0, now0, q0⟩ x1)).starts, .int .i64 ((PS.setMode fst ⟨m0, s0, u0, now0, q0⟩ x1)).cause, .slice A fst.length c, .slice A3 ((PS.setMode fst ⟨m0, s0, u0, now0, q0⟩ x1)).now.length c3, .int .i64 ((PS.setMode fst ⟨m0, s0, u0, now0, q0⟩ x1)).wr] rfl (by rfl) rfl ?hr ?_
  case hr => first | (go_simp; done) | (go_simp; rfl)
  intro w92 hS92
  have HS92 := Go.Lib.hid hS92
  clear hS92 e0 f0 e1 f1 e2 f2 e3 f3 e4 f4 e5 f5 e6 f6 e7 f7 e8 f8 e9 f9
  refine hK.out _ _ ?_
  clear hK K
  refine pure_ (i := 8) (N := some 7) (v := ?_) (a' := ?_) #[true, true, true, true, true, true, true, true, true] rfl rfl (by kernel_rfl) (fun _ _ _ h => h) (Or.inl ⟨by rfl, ?_⟩) ?_ ?_
  rotate_left
  · intro w'
    go_simp
    with_reducible rfl
  rotate_left
  · simp only [Act.put, List.setIfInBounds_toArray, List.set_cons_zero, List.set_cons_succ, i64_w, i32_w]
    rfl
  refine done_ (by kernel_rfl) ?_
  obtain ⟨d0, d1, d2, d3, d4, d5, d6, d7, d8, d9⟩ := HS92.out.c10 2 _ _ _ _ _ _ _ _ _ _ _ _ rfl
  go_wp2_with fail
  exact bodyPost_ret (v := .tuple #[.agg #[.int .i64 id, .string name, .bool may, .slice A fst.length c, .int .i64 ((PS.setMode fst ⟨m0, s0, u0, now0, q0⟩ x1)).mode, .int .i64 ((PS.setMode fst ⟨m0, s0, u0, now0, q0⟩ x1)).starts, .int .i64 ((PS.setMode fst ⟨m0, s0, u0, now0, q0⟩ x1)).cause, .slice A fst.length c, .slice A3 ((PS.setMode fst ⟨m0, s0, u0, now0, q0⟩ x1)).now.length c3, .int .i64 ((PS.setMode fst ⟨m0, s0, u0, now0, q0⟩ x1)).wr], .bool true]) (by simp [results, Try.results46, go_sem, d0, d1, d2, d3, d4, d5, d6, d7, d8, d9]) rfl ⟨_, _, rfl, (((HS92.out.erase 4).erase 3).erase 2).erase 0⟩
set_option maxHeartbeats 3200000 in
set_option maxRecDepth 100000 in
theorem one_3 (h : St (SL.row (Kd.int .u32) 39 (.slice A2 (s).now.length c2) (s).now :: part g id name may fst s :: l) w0 w) (x0 x1 x2 : Int) (hC : k43.C w0 A fst.length fst) (hl : s.now.length = fst.length) (hs0 : 0 ≤ s.starts) (hs1 : s.starts ≤ 1000000) (hn : fst.length ≤ 1000) (hm0 : 0 ≤ s.mode) (hm1 : s.mode ≤ 3) (hq0 : 0 ≤ s.wr) (hq1 : s.wr ≤ 1000000) :
    Calls Try.prog 46 #[.pointer (some ⟨g, 0, none⟩), .agg #[.int .i64 id, .string name, .bool may, .slice A fst.length c, .int .i64 (s).mode, .int .i64 (s).starts, .int .i64 (s).cause, .slice A fst.length c, .slice A2 (s).now.length c2, .int .i64 (s).wr], .agg #[.int .i64 3, .int .i64 x1, .int .u32 x2]] w fun e w' => ∃ A3 c3, e = .returned (.tuple #[.agg #[.int .i64 id, .string name, .bool may, .slice A fst.length c, .int .i64 (s.write x1 x2).mode, .int .i64 (s.write x1 x2).starts, .int .i64 (s.write x1 x2).cause, .slice A fst.length c, .slice A3 (s.write x1 x2).now.length c3, .int .i64 (s.write x1 x2).wr], .bool true]) ∧ St (SL.row (Kd.int .u32) 39 (.slice A3 (s.write x1 x2).now.length c3) (s.write x1 x2).now :: part g id name may fst (s.write x1 x2) :: l) w0 w' := by
  obtain ⟨m0, s0, u0, now0, q0⟩ := s
  have HC := Go.Lib.hid hC
  have HL : Hid (now0.length = fst.length) := Go.Lib.hid hl
  have HS := Go.Lib.hid h
  have hn2 : fst.length ≤ 1000000 := by omega
  have hnn : now0.length ≤ 1000000 := by rw [HL.out]; omega
  clear hC hl h
  go_enter Try.func46, Try.ntmps46
  go_wp2_with (first | ((with_reducible refine gate_dst (N := 4) rfl ?_); refine Sl.box_st HS.out (by rfl) (cs := #[.int .i64 id, .string name, .bool may, .slice A fst.length c, .int .i64 (m0), .int .i64 (s0), .int .i64 (u0), .slice A fst.length c, .slice A2 now0.length c2, .int .i64 (q0)]) (t := 76) ?hr ?_; (case hr => first | (go_simp; done) | (go_simp; rfl)); intro g4 w1_ HSn HBn; clear HBn; replace HS : Hid (St (SL.blk g4 76 #[.int .i64 id, .string name, .bool may, .slice A fst.length c, .int .i64 (m0), .int .i64 (s0), .int .i64 (u0), .slice A fst.length c, .slice A2 now0.length c2, .int .i64 (q0)] :: SL.row (Kd.int .u32) 39 (.slice A2 now0.length c2) now0 :: part g id name may fst ⟨m0, s0, u0, now0, q0⟩ :: l) w0 w1_) := Go.Lib.hid HSn; clear HSn; obtain ⟨c0_0, c0_1, c0_2, c0_3, c0_4, c0_5, c0_6, c0_7, c0_8, c0_9⟩ := HS.out.c10 0 _ _ _ _ _ _ _ _ _ _ _ _ rfl) | ((with_reducible refine gate_dst (N := 5) rfl ?_); refine Sl.box_st HS.out (by rfl) (cs := #[.int .i64 3, .int .i64 x1, .int .u32 x2]) (t := 67) ?hr ?_; (case hr => first | (go_simp; done) | (go_simp; rfl)); intro g5 w2_ HSn HBn; clear HBn; replace HS : Hid (St (SL.blk g5 67 #[.int .i64 3, .int .i64 x1, .int .u32 x2] :: SL.blk g4 76 #[.int .i64 id, .string name, .bool may, .slice A fst.length c, .int .i64 (m0), .int .i64 (s0), .int .i64 (u0), .slice A fst.length c, .slice A2 now0.length c2, .int .i64 (q0)] :: SL.row (Kd.int .u32) 39 (.slice A2 now0.length c2) now0 :: part g id name may fst ⟨m0, s0, u0, now0, q0⟩ :: l) w0 w2_) := Go.Lib.hid HSn; clear HSn; clear c0_0 c0_1 c0_2 c0_3 c0_4 c0_5 c0_6 c0_7 c0_8 c0_9; obtain ⟨c0_0, c0_1, c0_2⟩ := HS.out.c3 0 _ _ _ _ _ rfl; obtain ⟨c1_0, c1_1, c1_2, c1_3, c1_4, c1_5, c1_6, c1_7, c1_8, c1_9⟩ := HS.out.c10 1 _ _ _ _ _ _ _ _ _ _ _ _ rfl) | ((with_reducible refine gate_dst (N := 6) rfl ?_); refine Sl.box_st HS.out (by rfl) (cs := #[.int .i64 0, .string ⟨#[]⟩, .bool false, .slice none 0 0, .int .i64 0, .int .i64 0, .int .i64 0, .slice none 0 0, .slice none 0 0, .int .i64 0]) (t := 76) ?hr ?_; (case hr => first | (go_simp; done) | (go_simp; rfl)); intro g6 w3_ HSn HBn; clear HBn; replace HS : Hid (St (SL.blk g6 76 #[.int .i64 0, .string ⟨#[]⟩, .bool false, .slice none 0 0, .int .i64 0, .int .i64 0, .int .i64 0, .slice none 0 0, .slice none 0 0, .int .i64 0] :: SL.blk g5 67 #[.int .i64 3, .int .i64 x1, .int .u32 x2] :: SL.blk g4 76 #[.int .i64 id, .string name, .bool may, .slice A fst.length c, .int .i64 (m0), .int .i64 (s0), .int .i64 (u0), .slice A fst.length c, .slice A2 now0.length c2, .int .i64 (q0)] :: SL.row (Kd.int .u32) 39 (.slice A2 now0.length c2) now0 :: part g id name may fst ⟨m0, s0, u0, now0, q0⟩ :: l) w0 w3_) := Go.Lib.hid HSn; clear HSn; clear c0_0 c0_1 c0_2 c1_0 c1_1 c1_2 c1_3 c1_4 c1_5 c1_6 c1_7 c1_8 c1_9; obtain ⟨c0_0, c0_1, c0_2, c0_3, c0_4, c0_5, c0_6, c0_7, c0_8, c0_9⟩ := HS.out.c10 0 _ _ _ _ _ _ _ _ _ _ _ _ rfl; obtain ⟨c1_0, c1_1, c1_2⟩ := HS.out.c3 1 _ _ _ _ _ rfl; obtain ⟨c2_0, c2_1, c2_2, c2_3, c2_4, c2_5, c2_6, c2_7, c2_8, c2_9⟩ := HS.out.c10 2 _ _ _ _ _ _ _ _ _ _ _ _ rfl) | (go_at_call 69; refine (rwrite (s := ⟨m0, s0, u0, now0, q0⟩) (HS.out.front 3 _ rfl) x1 x2 hm0 hm1 hq0 hq1 hnn).mono ?_; rintro e w4_ ⟨A3, c3, rfl, HSn⟩; replace HS : Hid (St (SL.row (Kd.int .u32) 39 (.slice A3 ((PS.write ⟨m0, s0, u0, now0, q0⟩ x1 x2)).now.length c3) ((PS.write ⟨m0, s0, u0, now0, q0⟩ x1 x2)).now :: SL.blk g6 76 #[.int .i64 0, .string ⟨#[]⟩, .bool false, .slice none 0 0, .int .i64 0, .int .i64 0, .int .i64 0, .slice none 0 0, .slice none 0 0, .int .i64 0] :: SL.blk g5 67 #[.int .i64 3, .int .i64 x1, .int .u32 x2] :: SL.blk g4 76 #[.int .i64 id, .string name, .bool may, .slice A fst.length c, .int .i64 (m0), .int .i64 (s0), .int .i64 (u0), .slice A fst.length c, .slice A2 now0.length c2, .int .i64 (q0)] :: part g id name may fst ⟨m0, s0, u0, now0, q0⟩ :: l) w0 w4_) := Go.Lib.hid HSn; clear HSn; clear c0_0 c0_1 c0_2 c0_3 c0_4 c0_5 c0_6 c0_7 c0_8 c0_9 c1_0 c1_1 c1_2 c2_0 c2_1 c2_2 c2_3 c2_4 c2_5 c2_6 c2_7 c2_8 c2_9; obtain ⟨c1_0, c1_1, c1_2, c1_3, c1_4, c1_5, c1_6, c1_7, c1_8, c1_9⟩ := HS.out.c10 1 _ _ _ _ _ _ _ _ _ _ _ _ rfl; obtain ⟨c2_0, c2_1, c2_2⟩ := HS.out.c3 2 _ _ _ _ _ rfl; obtain ⟨c3_0, c3_1, c3_2, c3_3, c3_4, c3_5, c3_6, c3_7, c3_8, c3_9⟩ := HS.out.c10 3 _ _ _ _ _ _ _ _ _ _ _ _ rfl) | ((with_reducible refine gate_dst (N := 14) rfl ?_); refine Sl.box_st HS.out (by rfl) (cs := #[.int .i64 0, .string ⟨#[]⟩, .bool false, .slice none 0 0, .int .i64 0, .int .i64 0, .int .i64 0, .slice none 0 0, .slice none 0 0, .int .i64 0]) (t := 76) ?hr ?_; (case hr => first | (go_simp; done) | (go_simp; rfl)); intro g8 w5_ HSn HBn; clear HBn; replace HS : Hid (St (SL.blk g8 76 #[.int .i64 0, .string ⟨#[]⟩, .bool false, .slice none 0 0, .int .i64 0, .int .i64 0, .int .i64 0, .slice none 0 0, .slice none 0 0, .int .i64 0] :: SL.row (Kd.int .u32) 39 (.slice A3 ((PS.write ⟨m0, s0, u0, now0, q0⟩ x1 x2)).now.length c3) ((PS.write ⟨m0, s0, u0, now0, q0⟩ x1 x2)).now :: SL.blk g6 76 #[.int .i64 0, .string ⟨#[]⟩, .bool false, .slice none 0 0, .int .i64 0, .int .i64 0, .int .i64 0, .slice none 0 0, .slice none 0 0, .int .i64 0] :: SL.blk g5 67 #[.int .i64 3, .int .i64 x1, .int .u32 x2] :: SL.blk g4 76 #[.int .i64 id, .string name, .bool may, .slice A fst.length c, .int .i64 (m0), .int .i64 (s0), .int .i64 (u0), .slice A fst.length c, .slice A2 now0.length c2, .int .i64 (q0)] :: part g id name may fst ⟨m0, s0, u0, now0, q0⟩ :: l) w0 w5_) := Go.Lib.hid HSn; clear HSn; clear c1_0 c1_1 c1_2 c1_3 c1_4 c1_5 c1_6 c1_7 c1_8 c1_9 c2_0 c2_1 c2_2 c3_0 c3_1 c3_2 c3_3 c3_4 c3_5 c3_6 c3_7 c3_8 c3_9; obtain ⟨c0_0, c0_1, c0_2, c0_3, c0_4, c0_5, c0_6, c0_7, c0_8, c0_9⟩ := HS.out.c10 0 _ _ _ _ _ _ _ _ _ _ _ _ rfl; obtain ⟨c2_0, c2_1, c2_2, c2_3, c2_4, c2_5, c2_6, c2_7, c2_8, c2_9⟩ := HS.out.c10 2 _ _ _ _ _ _ _ _ _ _ _ _ rfl; obtain ⟨c3_0, c3_1, c3_2⟩ := HS.out.c3 3 _ _ _ _ _ rfl; obtain ⟨c4_0, c4_1, c4_2, c4_3, c4_4, c4_5, c4_6, c4_7, c4_8, c4_9⟩ := HS.out.c10 4 _ _ _ _ _ _ _ _ _ _ _ _ rfl) | ((with_reducible refine gate_store (p := 14) rfl ?_); refine Sl.storeAll_st HS.out 0 g8 76 _ rfl [.int .i64 id, .string name, .bool may, .slice A fst.length c, .int .i64 ((PS.write ⟨m0, s0, u0, now0, q0⟩ x1 x2)).mode, .int .i64 ((PS.write ⟨m0, s0, u0, now0, q0⟩ x1 x2)).starts, .int .i64 ((PS.write ⟨m0, s0, u0, now0, q0⟩ x1 x2)).cause, .slice A fst.length c, .slice A3 ((PS.write ⟨m0, s0, u0, now0, q0⟩ x1 x2)).now.length c3, .int .i64 ((PS.write ⟨m0, s0, u0, now0, q0⟩ x1 x2)).wr] rfl (by rfl) (by rfl) ?hr ?_; (case hr => have f_ := HS.out.f10 0 _ _ _ _ _ _ _ _ _ _ _ _ rfl; (try obtain ⟨f0, f1, f2, f3, f4, f5, f6, f7, f8, f9⟩ := f_); first | (go_simp; done) | (go_simp; rfl)); intro w6_ HSn; replace HS : Hid (St (SL.blk g8 76 #[.int .i64 id, .string name, .bool may, .slice A fst.length c, .int .i64 ((PS.write ⟨m0, s0, u0, now0, q0⟩ x1 x2)).mode, .int .i64 ((PS.write ⟨m0, s0, u0, now0, q0⟩ x1 x2)).starts, .int .i64 ((PS.write ⟨m0, s0, u0, now0, q0⟩ x1 x2)).cause, .slice A fst.length c, .slice A3 ((PS.write ⟨m0, s0, u0, now0, q0⟩ x1 x2)).now.length c3, .int .i64 ((PS.write ⟨m0, s0, u0, now0, q0⟩ x1 x2)).wr] :: SL.row (Kd.int .u32) 39 (.slice A3 ((PS.write ⟨m0, s0, u0, now0, q0⟩ x1 x2)).now.length c3) ((PS.write ⟨m0, s0, u0, now0, q0⟩ x1 x2)).now :: SL.blk g6 76 #[.int .i64 0, .string ⟨#[]⟩, .bool false, .slice none 0 0, .int .i64 0, .int .i64 0, .int .i64 0, .slice none 0 0, .slice none 0 0, .int .i64 0] :: SL.blk g5 67 #[.int .i64 3, .int .i64 x1, .int .u32 x2] :: SL.blk g4 76 #[.int .i64 id, .string name, .bool may, .slice A fst.length c, .int .i64 (m0), .int .i64 (s0), .int .i64 (u0), .slice A fst.length c, .slice A2 now0.length c2, .int .i64 (q0)] :: part g id name may fst ⟨m0, s0, u0, now0, q0⟩ :: l) w0 w6_) := Go.Lib.hid HSn; clear HSn; clear c0_0 c0_1 c0_2 c0_3 c0_4 c0_5 c0_6 c0_7 c0_8 c0_9 c2_0 c2_1 c2_2 c2_3 c2_4 c2_5 c2_6 c2_7 c2_8 c2_9 c3_0 c3_1 c3_2 c4_0 c4_1 c4_2 c4_3 c4_4 c4_5 c4_6 c4_7 c4_8 c4_9; obtain ⟨c0_0, c0_1, c0_2, c0_3, c0_4, c0_5, c0_6, c0_7, c0_8, c0_9⟩ := HS.out.c10 0 _ _ _ _ _ _ _ _ _ _ _ _ rfl; obtain ⟨c2_0, c2_1, c2_2, c2_3, c2_4, c2_5, c2_6, c2_7, c2_8, c2_9⟩ := HS.out.c10 2 _ _ _ _ _ _ _ _ _ _ _ _ rfl; obtain ⟨c3_0, c3_1, c3_2⟩ := HS.out.c3 3 _ _ _ _ _ rfl; obtain ⟨c4_0, c4_1, c4_2, c4_3, c4_4, c4_5, c4_6, c4_7, c4_8, c4_9⟩ := HS.out.c10 4 _ _ _ _ _ _ _ _ _ _ _ _ rfl))
  clear c0_0 c0_1 c0_2 c0_3 c0_4 c0_5 c0_6 c0_7 c0_8 c0_9 c2_0 c2_1 c2_2 c2_3 c2_4 c2_5 c2_6 c2_7 c2_8 c2_9 c3_0 c3_1 c3_2 c4_0 c4_1 c4_2 c4_3 c4_4 c4_5 c4_6 c4_7 c4_8 c4_9
  replace HS := Go.Lib.hid HS.out.drew
  refine start_ (n := 11) (S := fun w' => w'.cell? ⟨g8, 0, none⟩ = some (.int .i64 id) ∧ w'.cell? ⟨g8, 1, none⟩ = some (.string name) ∧ w'.cell? ⟨g8, 2, none⟩ = some (.bool may) ∧ w'.cell? ⟨g8, 3, none⟩ = some (.slice A fst.length c) ∧ w'.cell? ⟨g8, 4, none⟩ = some (.int .i64 ((PS.write ⟨m0, s0, u0, now0, q0⟩ x1 x2)).mode) ∧ w'.cell? ⟨g8, 5, none⟩ = some (.int .i64 ((PS.write ⟨m0, s0, u0, now0, q0⟩ x1 x2)).starts) ∧ w'.cell? ⟨g8, 6, none⟩ = some (.int .i64 ((PS.write ⟨m0, s0, u0, now0, q0⟩ x1 x2)).cause) ∧ w'.cell? ⟨g8, 7, none⟩ = some (.slice A fst.length c) ∧ w'.cell? ⟨g8, 8, none⟩ = some (.slice A3 ((PS.write ⟨m0, s0, u0, now0, q0⟩ x1 x2)).now.length c3) ∧ w'.cell? ⟨g8, 9, none⟩ = some (.int .i64 ((PS.write ⟨m0, s0, u0, now0, q0⟩ x1 x2)).wr) ∧ w'.cell? ⟨g5, 1, none⟩ = some (.int .i64 x1) ∧ w'.cell? ⟨g5, 2, none⟩ = some (.int .u32 x2)) (ds := [9]) #[false, false, false, false, false, false, false, false, false, false, false] (by kernel_rfl) rfl rfl ⟨HS.out.cell 0 _ _ _ rfl 0, HS.out.cell 0 _ _ _ rfl 1, HS.out.cell 0 _ _ _ rfl 2, HS.out.cell 0 _ _ _ rfl 3, HS.out.cell 0 _ _ _ rfl 4, HS.out.cell 0 _ _ _ rfl 5, HS.out.cell 0 _ _ _ rfl 6, HS.out.cell 0 _ _ _ rfl 7, HS.out.cell 0 _ _ _ rfl 8, HS.out.cell 0 _ _ _ rfl 9, HS.out.cell 3 _ _ _ rfl 1, HS.out.cell 3 _ _ _ rfl 2⟩ (fun hHeld => ?_)
  generalize w6_.drew = W_ at *
  refine pure_ (i := 1) (N := some 79) (v := ?_) (a' := ?_) #[false, true, false, false, false, false, false, false, false, false, false] rfl rfl (by kernel_rfl) (fun _ _ _ h => h) (Or.inl ⟨by rfl, ?_⟩) ?_ ?_
  rotate_left
  · intro w'
    go_simp
    with_reducible rfl
  rotate_left
  · simp only [Act.put, List.setIfInBounds_toArray, List.set_cons_zero, List.set_cons_succ, i64_w, i32_w]
    rfl
  refine pure_ (i := 2) (N := some 80) (v := ?_) (a' := ?_) #[false, true, true, false, false, false, false, false, false, false, false] rfl rfl (by kernel_rfl) (fun _ _ _ h => h) (Or.inl ⟨by rfl, ?_⟩) ?_ ?_
  rotate_left
  · intro w'
    go_simp
    with_reducible rfl
  rotate_left
  · simp only [Act.put, List.setIfInBounds_toArray, List.set_cons_zero, List.set_cons_succ, i64_w, i32_w]
    rfl
  refine pure_ (i := 4) (N := some 82) (v := ?_) (a' := ?_) #[false, true, true, false, true, false, false, false, false, false, false] rfl rfl (by kernel_rfl) (fun _ _ _ h => h) (Or.inl ⟨by rfl, ?_⟩) ?_ ?_
  rotate_left
  · intro w'
    go_simp
    with_reducible rfl
  rotate_left
  · simp only [Act.put, List.setIfInBounds_toArray, List.set_cons_zero, List.set_cons_succ, i64_w, i32_w]
    rfl
  refine pure_ (i := 7) (N := some 85) (v := ?_) (a' := ?_) #[false, true, true, false, true, false, false, true, false, false, false] rfl rfl (by kernel_rfl) (fun _ _ _ h => h) (Or.inl ⟨by rfl, ?_⟩) ?_ ?_
  rotate_left
  · intro w'
    go_simp
    with_reducible rfl
  rotate_left
  · simp only [Act.put, List.setIfInBounds_toArray, List.set_cons_zero, List.set_cons_succ, i64_w, i32_w]
    rfl
  refine take_ (i := 0) (N := some 78) (v := ?_) (a' := ?_) #[true, true, true, false, true, false, false, true, false, false, false] rfl rfl (by kernel_rfl) (fun _ _ _ h => h) (Or.inl ⟨by rfl, ?_⟩) hHeld ?_ ?_
  rotate_left
  · rintro w' ⟨s0_, s1_, s2_, s3_, s4_, s5_, s6_, s7_, s8_, s9_, s10_, s11_⟩
    go_simp
    with_reducible rfl
  rotate_left
  · simp only [Act.put, List.setIfInBounds_toArray, List.set_cons_zero, List.set_cons_succ, i64_w, i32_w]
    rfl
  refine take_ (i := 3) (N := some 81) (v := ?_) (a' := ?_) #[true, true, true, true, true, false, false, true, false, false, false] rfl rfl (by kernel_rfl) (fun _ _ _ h => h) (Or.inl ⟨by rfl, ?_⟩) hHeld ?_ ?_
  rotate_left
  · rintro w' ⟨s0_, s1_, s2_, s3_, s4_, s5_, s6_, s7_, s8_, s9_, s10_, s11_⟩
    go_simp
    with_reducible rfl
  rotate_left
  · simp only [Act.put, List.setIfInBounds_toArray, List.set_cons_zero, List.set_cons_succ, i64_w, i32_w]
    rfl
  refine take_ (i := 5) (N := some 83) (v := ?_) (a' := ?_) #[true, true, true, true, true, true, false, true, false, false, false] rfl rfl (by kernel_rfl) (fun _ _ _ h => h) (Or.inl ⟨by rfl, ?_⟩) hHeld ?_ ?_
  rotate_left
  · rintro w' ⟨s0_, s1_, s2_, s3_, s4_, s5_, s6_, s7_, s8_, s9_, s10_, s11_⟩
    go_simp
    with_reducible rfl
  rotate_left
  · simp only [Act.put, List.setIfInBounds_toArray, List.set_cons_zero, List.set_cons_succ, i64_w, i32_w]
    rfl
  refine one_ (i := 6) (N := some 84) #[true, true, true, true, true, true, true, true, false, false, false] rfl rfl (by kernel_rfl) (by decide) (fun K hK => ?_)
  refine goes_ Try.func42 (by kernel_rfl) rfl #[.pointer (some ⟨g, 0, none⟩), .int .i64 x1, .int .u32 x2] (by rfl) rfl rfl (by (try simp only [List.map_toArray, List.map_cons, List.map_nil]); first | done | rfl) ?_
  refine (write_at (s := ⟨m0, s0, u0, now0, q0⟩) HS.out 5 rfl x1 x2 hq0 hq1).mono ?_
  rintro e w91 ⟨rfl, hS91⟩
  have HS91 := Go.Lib.hid hS91
  clear hS91
  refine ⟨_, rfl, ?_⟩
  refine hK.out _ _ ⟨HS91.out.cell 0 _ _ _ rfl 0, HS91.out.cell 0 _ _ _ rfl 1, HS91.out.cell 0 _ _ _ rfl 2, HS91.out.cell 0 _ _ _ rfl 3, HS91.out.cell 0 _ _ _ rfl 4, HS91.out.cell 0 _ _ _ rfl 5, HS91.out.cell 0 _ _ _ rfl 6, HS91.out.cell 0 _ _ _ rfl 7, HS91.out.cell 0 _ _ _ rfl 8, HS91.out.cell 0 _ _ _ rfl 9, HS91.out.cell 3 _ _ _ rfl 1, HS91.out.cell 3 _ _ _ rfl 2⟩ (fun hHeld => ?_)
  clear hK K
  refine norm_ (a' := ?_) ?_ ?_
  rotate_left
  · show Act.put _ (some 84) _ = _
    simp only [Act.put, List.setIfInBounds_toArray, List.set_cons_zero, List.set_cons_succ, i64_w, i32_w]
    rfl
  refine pure_ (i := 8) (N := some 86) (v := ?_) (a' := ?_) #[true, true, true, true, true, true, true, true, true, false, false] rfl rfl (by kernel_rfl) (fun _ _ _ h => h) (Or.inl ⟨by rfl, ?_⟩) ?_ ?_
  rotate_left
  · intro w'
    go_simp
    with_reducible rfl
  rotate_left
  · simp only [Act.put, List.setIfInBounds_toArray, List.set_cons_zero, List.set_cons_succ, i64_w, i32_w]
    rfl
  refine last_ (i := 9) (N := none) #[true, true, true, true, true, true, true, true, true, true, false] rfl rfl (by kernel_rfl) (by decide) (fun K hK => ?_)
  obtain ⟨e0, e1, e2, e3, e4, e5, e6, e7, e8, e9⟩ := HS91.out.c10 2 _ _ _ _ _ _ _ _ _ _ _ _ rfl
  obtain ⟨f0, f1, f2, f3, f4, f5, f6, f7, f8, f9⟩ := HS91.out.f10 2 _ _ _ _ _ _ _ _ _ _ _ _ rfl
  refine Sl.storeAll_stp HS91.out 2 g6 76 _ rfl [.int .i64 id, .string name, .bool may, .slice A fst.length c, .int .i64 ((PS.write ⟨m0, s0, u0, now0, q0⟩ x1 x2)).mode, .int .i64 ((PS.write ⟨m0, s0, u0, now0, q0⟩ x1 x2)).starts, .int .i64 ((PS.write ⟨m0, s0, u0, now0, q0⟩ x1 x2)).cause, .slice A fst.length c, .slice A3 ((PS.write ⟨m0, s0, u0, now0, q0⟩ x1 x2)).now.length c3, .int .i64 ((PS.write ⟨m0, s0, u0, now0, q0⟩ x1 x2)).wr] rfl (by rfl) rfl ?hr ?_
  case hr => first | (go_simp; done) | (go_simp; rfl)
  intro w92 hS92
  have HS92 := Go.Lib.hid hS92
  clear hS92 e0 f0 e1 f1 e2 f2 e3 f3 e4 f4 e5 f5 e6 f6 e7 f7 e8 f8 e9 f9
  refine hK.out _ _ ?_
  clear hK K
  refine pure_ (i := 10) (N := some 7) (v := ?_) (a' := ?_) #[true, true, true, true, true, true, true, true, true, true, true] rfl rfl (by kernel_rfl) (fun _ _ _ h => h) (Or.inl ⟨by rfl, ?_⟩) ?_ ?_
  rotate_left
  · intro w'
    go_simp
    with_reducible rfl
  rotate_left
  · simp only [Act.put, List.setIfInBounds_toArray, List.set_cons_zero, List.set_cons_succ, i64_w, i32_w]
    rfl
  refine done_ (by kernel_rfl) ?_
  obtain ⟨d0, d1, d2, d3, d4, d5, d6, d7, d8, d9⟩ := HS92.out.c10 2 _ _ _ _ _ _ _ _ _ _ _ _ rfl
  go_wp2_with fail
  exact bodyPost_ret (v := .tuple #[.agg #[.int .i64 id, .string name, .bool may, .slice A fst.length c, .int .i64 ((PS.write ⟨m0, s0, u0, now0, q0⟩ x1 x2)).mode, .int .i64 ((PS.write ⟨m0, s0, u0, now0, q0⟩ x1 x2)).starts, .int .i64 ((PS.write ⟨m0, s0, u0, now0, q0⟩ x1 x2)).cause, .slice A fst.length c, .slice A3 ((PS.write ⟨m0, s0, u0, now0, q0⟩ x1 x2)).now.length c3, .int .i64 ((PS.write ⟨m0, s0, u0, now0, q0⟩ x1 x2)).wr], .bool true]) (by simp [results, Try.results46, go_sem, d0, d1, d2, d3, d4, d5, d6, d7, d8, d9]) rfl ⟨_, _, rfl, (((HS92.out.erase 4).erase 3).erase 2).erase 0⟩
set_option maxHeartbeats 3200000 in
set_option maxRecDepth 100000 in
theorem one_4 (h : St (SL.row (Kd.int .u32) 39 (.slice A2 (s).now.length c2) (s).now :: part g id name may fst s :: l) w0 w) (x0 x1 x2 : Int) (hC : k43.C w0 A fst.length fst) (hl : s.now.length = fst.length) (hs0 : 0 ≤ s.starts) (hs1 : s.starts ≤ 1000000) (hn : fst.length ≤ 1000) (hm0 : 0 ≤ s.mode) (hm1 : s.mode ≤ 3) (hq0 : 0 ≤ s.wr) (hq1 : s.wr ≤ 1000000) :
    Calls Try.prog 46 #[.pointer (some ⟨g, 0, none⟩), .agg #[.int .i64 id, .string name, .bool may, .slice A fst.length c, .int .i64 (s).mode, .int .i64 (s).starts, .int .i64 (s).cause, .slice A fst.length c, .slice A2 (s).now.length c2, .int .i64 (s).wr], .agg #[.int .i64 4, .int .i64 x1, .int .u32 x2]] w fun e w' => ∃ A3 c3, e = .returned (.tuple #[.agg #[.int .i64 id, .string name, .bool may, .slice A fst.length c, .int .i64 (s.act fst x1).mode, .int .i64 (s.act fst x1).starts, .int .i64 (s.act fst x1).cause, .slice A fst.length c, .slice A3 (s.act fst x1).now.length c3, .int .i64 (s.act fst x1).wr], .bool true]) ∧ St (SL.row (Kd.int .u32) 39 (.slice A3 (s.act fst x1).now.length c3) (s.act fst x1).now :: part g id name may fst (s.act fst x1) :: l) w0 w' := by
  obtain ⟨m0, s0, u0, now0, q0⟩ := s
  have HC := Go.Lib.hid hC
  have HL : Hid (now0.length = fst.length) := Go.Lib.hid hl
  have HS := Go.Lib.hid h
  have hn2 : fst.length ≤ 1000000 := by omega
  have hnn : now0.length ≤ 1000000 := by rw [HL.out]; omega
  clear hC hl h
  go_enter Try.func46, Try.ntmps46
  go_wp2_with (first | ((with_reducible refine gate_dst (N := 4) rfl ?_); refine Sl.box_st HS.out (by rfl) (cs := #[.int .i64 id, .string name, .bool may, .slice A fst.length c, .int .i64 (m0), .int .i64 (s0), .int .i64 (u0), .slice A fst.length c, .slice A2 now0.length c2, .int .i64 (q0)]) (t := 76) ?hr ?_; (case hr => first | (go_simp; done) | (go_simp; rfl)); intro g4 w1_ HSn HBn; clear HBn; replace HS : Hid (St (SL.blk g4 76 #[.int .i64 id, .string name, .bool may, .slice A fst.length c, .int .i64 (m0), .int .i64 (s0), .int .i64 (u0), .slice A fst.length c, .slice A2 now0.length c2, .int .i64 (q0)] :: SL.row (Kd.int .u32) 39 (.slice A2 now0.length c2) now0 :: part g id name may fst ⟨m0, s0, u0, now0, q0⟩ :: l) w0 w1_) := Go.Lib.hid HSn; clear HSn; obtain ⟨c0_0, c0_1, c0_2, c0_3, c0_4, c0_5, c0_6, c0_7, c0_8, c0_9⟩ := HS.out.c10 0 _ _ _ _ _ _ _ _ _ _ _ _ rfl) | ((with_reducible refine gate_dst (N := 5) rfl ?_); refine Sl.box_st HS.out (by rfl) (cs := #[.int .i64 4, .int .i64 x1, .int .u32 x2]) (t := 67) ?hr ?_; (case hr => first | (go_simp; done) | (go_simp; rfl)); intro g5 w2_ HSn HBn; clear HBn; replace HS : Hid (St (SL.blk g5 67 #[.int .i64 4, .int .i64 x1, .int .u32 x2] :: SL.blk g4 76 #[.int .i64 id, .string name, .bool may, .slice A fst.length c, .int .i64 (m0), .int .i64 (s0), .int .i64 (u0), .slice A fst.length c, .slice A2 now0.length c2, .int .i64 (q0)] :: SL.row (Kd.int .u32) 39 (.slice A2 now0.length c2) now0 :: part g id name may fst ⟨m0, s0, u0, now0, q0⟩ :: l) w0 w2_) := Go.Lib.hid HSn; clear HSn; clear c0_0 c0_1 c0_2 c0_3 c0_4 c0_5 c0_6 c0_7 c0_8 c0_9; obtain ⟨c0_0, c0_1, c0_2⟩ := HS.out.c3 0 _ _ _ _ _ rfl; obtain ⟨c1_0, c1_1, c1_2, c1_3, c1_4, c1_5, c1_6, c1_7, c1_8, c1_9⟩ := HS.out.c10 1 _ _ _ _ _ _ _ _ _ _ _ _ rfl) | ((with_reducible refine gate_dst (N := 6) rfl ?_); refine Sl.box_st HS.out (by rfl) (cs := #[.int .i64 0, .string ⟨#[]⟩, .bool false, .slice none 0 0, .int .i64 0, .int .i64 0, .int .i64 0, .slice none 0 0, .slice none 0 0, .int .i64 0]) (t := 76) ?hr ?_; (case hr => first | (go_simp; done) | (go_simp; rfl)); intro g6 w3_ HSn HBn; clear HBn; replace HS : Hid (St (SL.blk g6 76 #[.int .i64 0, .string ⟨#[]⟩, .bool false, .slice none 0 0, .int .i64 0, .int .i64 0, .int .i64 0, .slice none 0 0, .slice none 0 0, .int .i64 0] :: SL.blk g5 67 #[.int .i64 4, .int .i64 x1, .int .u32 x2] :: SL.blk g4 76 #[.int .i64 id, .string name, .bool may, .slice A fst.length c, .int .i64 (m0), .int .i64 (s0), .int .i64 (u0), .slice A fst.length c, .slice A2 now0.length c2, .int .i64 (q0)] :: SL.row (Kd.int .u32) 39 (.slice A2 now0.length c2) now0 :: part g id name may fst ⟨m0, s0, u0, now0, q0⟩ :: l) w0 w3_) := Go.Lib.hid HSn; clear HSn; clear c0_0 c0_1 c0_2 c1_0 c1_1 c1_2 c1_3 c1_4 c1_5 c1_6 c1_7 c1_8 c1_9; obtain ⟨c0_0, c0_1, c0_2, c0_3, c0_4, c0_5, c0_6, c0_7, c0_8, c0_9⟩ := HS.out.c10 0 _ _ _ _ _ _ _ _ _ _ _ _ rfl; obtain ⟨c1_0, c1_1, c1_2⟩ := HS.out.c3 1 _ _ _ _ _ rfl; obtain ⟨c2_0, c2_1, c2_2, c2_3, c2_4, c2_5, c2_6, c2_7, c2_8, c2_9⟩ := HS.out.c10 2 _ _ _ _ _ _ _ _ _ _ _ _ rfl) | (go_at_call 102; refine (ract21 (s := ⟨m0, s0, u0, now0, q0⟩) (HS.out.front 3 _ rfl) x1 hm0 hm1 HC.out HL.out hs0 hs1 hn).mono ?_; rintro e w4_ ⟨A3, c3, rfl, HSn⟩; replace HS : Hid (St (SL.row (Kd.int .u32) 39 (.slice A3 ((PS.act fst ⟨m0, s0, u0, now0, q0⟩ x1)).now.length c3) ((PS.act fst ⟨m0, s0, u0, now0, q0⟩ x1)).now :: SL.blk g6 76 #[.int .i64 0, .string ⟨#[]⟩, .bool false, .slice none 0 0, .int .i64 0, .int .i64 0, .int .i64 0, .slice none 0 0, .slice none 0 0, .int .i64 0] :: SL.blk g5 67 #[.int .i64 4, .int .i64 x1, .int .u32 x2] :: SL.blk g4 76 #[.int .i64 id, .string name, .bool may, .slice A fst.length c, .int .i64 (m0), .int .i64 (s0), .int .i64 (u0), .slice A fst.length c, .slice A2 now0.length c2, .int .i64 (q0)] :: part g id name may fst ⟨m0, s0, u0, now0, q0⟩ :: l) w0 w4_) := Go.Lib.hid HSn; clear HSn; clear c0_0 c0_1 c0_2 c0_3 c0_4 c0_5 c0_6 c0_7 c0_8 c0_9 c1_0 c1_1 c1_2 c2_0 c2_1 c2_2 c2_3 c2_4 c2_5 c2_6 c2_7 c2_8 c2_9; obtain ⟨c1_0, c1_1, c1_2, c1_3, c1_4, c1_5, c1_6, c1_7, c1_8, c1_9⟩ := HS.out.c10 1 _ _ _ _ _ _ _ _ _ _ _ _ rfl; obtain ⟨c2_0, c2_1, c2_2⟩ := HS.out.c3 2 _ _ _ _ _ rfl; obtain ⟨c3_0, c3_1, c3_2, c3_3, c3_4, c3_5, c3_6, c3_7, c3_8, c3_9⟩ := HS.out.c10 3 _ _ _ _ _ _ _ _ _ _ _ _ rfl) | ((with_reducible refine gate_dst (N := 16) rfl ?_); refine Sl.box_st HS.out (by rfl) (cs := #[.int .i64 0, .string ⟨#[]⟩, .bool false, .slice none 0 0, .int .i64 0, .int .i64 0, .int .i64 0, .slice none 0 0, .slice none 0 0, .int .i64 0]) (t := 76) ?hr ?_; (case hr => first | (go_simp; done) | (go_simp; rfl)); intro g8 w5_ HSn HBn; clear HBn; replace HS : Hid (St (SL.blk g8 76 #[.int .i64 0, .string ⟨#[]⟩, .bool false, .slice none 0 0, .int .i64 0, .int .i64 0, .int .i64 0, .slice none 0 0, .slice none 0 0, .int .i64 0] :: SL.row (Kd.int .u32) 39 (.slice A3 ((PS.act fst ⟨m0, s0, u0, now0, q0⟩ x1)).now.length c3) ((PS.act fst ⟨m0, s0, u0, now0, q0⟩ x1)).now :: SL.blk g6 76 #[.int .i64 0, .string ⟨#[]⟩, .bool false, .slice none 0 0, .int .i64 0, .int .i64 0, .int .i64 0, .slice none 0 0, .slice none 0 0, .int .i64 0] :: SL.blk g5 67 #[.int .i64 4, .int .i64 x1, .int .u32 x2] :: SL.blk g4 76 #[.int .i64 id, .string name, .bool may, .slice A fst.length c, .int .i64 (m0), .int .i64 (s0), .int .i64 (u0), .slice A fst.length c, .slice A2 now0.length c2, .int .i64 (q0)] :: part g id name may fst ⟨m0, s0, u0, now0, q0⟩ :: l) w0 w5_) := Go.Lib.hid HSn; clear HSn; clear c1_0 c1_1 c1_2 c1_3 c1_4 c1_5 c1_6 c1_7 c1_8 c1_9 c2_0 c2_1 c2_2 c3_0 c3_1 c3_2 c3_3 c3_4 c3_5 c3_6 c3_7 c3_8 c3_9; obtain ⟨c0_0, c0_1, c0_2, c0_3, c0_4, c0_5, c0_6, c0_7, c0_8, c0_9⟩ := HS.out.c10 0 _ _ _ _ _ _ _ _ _ _ _ _ rfl; obtain ⟨c2_0, c2_1, c2_2, c2_3, c2_4, c2_5, c2_6, c2_7, c2_8, c2_9⟩ := HS.out.c10 2 _ _ _ _ _ _ _ _ _ _ _ _ rfl; obtain ⟨c3_0, c3_1, c3_2⟩ := HS.out.c3 3 _ _ _ _ _ rfl; obtain ⟨c4_0, c4_1, c4_2, c4_3, c4_4, c4_5, c4_6, c4_7, c4_8, c4_9⟩ := HS.out.c10 4 _ _ _ _ _ _ _ _ _ _ _ _ rfl) | ((with_reducible refine gate_store (p := 16) rfl ?_); refine Sl.storeAll_st HS.out 0 g8 76 _ rfl [.int .i64 id, .string name, .bool may, .slice A fst.length c, .int .i64 ((PS.act fst ⟨m0, s0, u0, now0, q0⟩ x1)).mode, .int .i64 ((PS.act fst ⟨m0, s0, u0, now0, q0⟩ x1)).starts, .int .i64 ((PS.act fst ⟨m0, s0, u0, now0, q0⟩ x1)).cause, .slice A fst.length c, .slice A3 ((PS.act fst ⟨m0, s0, u0, now0, q0⟩ x1)).now.length c3, .int .i64 ((PS.act fst ⟨m0, s0, u0, now0, q0⟩ x1)).wr] rfl (by rfl) (by rfl) ?hr ?_; (case hr => have f_ := HS.out.f10 0 _ _ _ _ _ _ _ _ _ _ _ _ rfl; (try obtain ⟨f0, f1, f2, f3, f4, f5, f6, f7, f8, f9⟩ := f_); first | (go_simp; done) | (go_simp; rfl)); intro w6_ HSn; replace HS : Hid (St (SL.blk g8 76 #[.int .i64 id, .string name, .bool may, .slice A fst.length c, .int .i64 ((PS.act fst ⟨m0, s0, u0, now0, q0⟩ x1)).mode, .int .i64 ((PS.act fst ⟨m0, s0, u0, now0, q0⟩ x1)).starts, .int .i64 ((PS.act fst ⟨m0, s0, u0, now0, q0⟩ x1)).cause, .slice A fst.length c, .slice A3 ((PS.act fst ⟨m0, s0, u0, now0, q0⟩ x1)).now.length c3, .int .i64 ((PS.act fst ⟨m0, s0, u0, now0, q0⟩ x1)).wr] :: SL.row (Kd.int .u32) 39 (.slice A3 ((PS.act fst ⟨m0, s0, u0, now0, q0⟩ x1)).now.length c3) ((PS.act fst ⟨m0, s0, u0, now0, q0⟩ x1)).now :: SL.blk g6 76 #[.int .i64 0, .string ⟨#[]⟩, .bool false, .slice none 0 0, .int .i64 0, .int .i64 0, .int .i64 0, .slice none 0 0, .slice none 0 0, .int .i64 0] :: SL.blk g5 67 #[.int .i64 4, .int .i64 x1, .int .u32 x2] :: SL.blk g4 76 #[.int .i64 id, .string name, .bool may, .slice A fst.length c, .int .i64 (m0), .int .i64 (s0), .int .i64 (u0), .slice A fst.length c, .slice A2 now0.length c2, .int .i64 (q0)] :: part g id name may fst ⟨m0, s0, u0, now0, q0⟩ :: l) w0 w6_) := Go.Lib.hid HSn; clear HSn; clear c0_0 c0_1 c0_2 c0_3 c0_4 c0_5 c0_6 c0_7 c0_8 c0_9 c2_0 c2_1 c2_2 c2_3 c2_4 c2_5 c2_6 c2_7 c2_8 c2_9 c3_0 c3_1 c3_2 c4_0 c4_1 c4_2 c4_3 c4_4 c4_5 c4_6 c4_7 c4_8 c4_9; obtain ⟨c0_0, c0_1, c0_2, c0_3, c0_4, c0_5, c0_6, c0_7, c0_8, c0_9⟩ := HS.out.c10 0 _ _ _ _ _ _ _ _ _ _ _ _ rfl; obtain ⟨c2_0, c2_1, c2_2, c2_3, c2_4, c2_5, c2_6, c2_7, c2_8, c2_9⟩ := HS.out.c10 2 _ _ _ _ _ _ _ _ _ _ _ _ rfl; obtain ⟨c3_0, c3_1, c3_2⟩ := HS.out.c3 3 _ _ _ _ _ rfl; obtain ⟨c4_0, c4_1, c4_2, c4_3, c4_4, c4_5, c4_6, c4_7, c4_8, c4_9⟩ := HS.out.c10 4 _ _ _ _ _ _ _ _ _ _ _ _ rfl))
  clear c0_0 c0_1 c0_2 c0_3 c0_4 c0_5 c0_6 c0_7 c0_8 c0_9 c2_0 c2_1 c2_2 c2_3 c2_4 c2_5 c2_6 c2_7 c2_8 c2_9 c3_0 c3_1 c3_2 c4_0 c4_1 c4_2 c4_3 c4_4 c4_5 c4_6 c4_7 c4_8 c4_9
  replace HS := Go.Lib.hid HS.out.drew
  refine start_ (n := 9) (S := fun w' => w'.cell? ⟨g8, 0, none⟩ = some (.int .i64 id) ∧ w'.cell? ⟨g8, 1, none⟩ = some (.string name) ∧ w'.cell? ⟨g8, 2, none⟩ = some (.bool may) ∧ w'.cell? ⟨g8, 3, none⟩ = some (.slice A fst.length c) ∧ w'.cell? ⟨g8, 4, none⟩ = some (.int .i64 ((PS.act fst ⟨m0, s0, u0, now0, q0⟩ x1)).mode) ∧ w'.cell? ⟨g8, 5, none⟩ = some (.int .i64 ((PS.act fst ⟨m0, s0, u0, now0, q0⟩ x1)).starts) ∧ w'.cell? ⟨g8, 6, none⟩ = some (.int .i64 ((PS.act fst ⟨m0, s0, u0, now0, q0⟩ x1)).cause) ∧ w'.cell? ⟨g8, 7, none⟩ = some (.slice A fst.length c) ∧ w'.cell? ⟨g8, 8, none⟩ = some (.slice A3 ((PS.act fst ⟨m0, s0, u0, now0, q0⟩ x1)).now.length c3) ∧ w'.cell? ⟨g8, 9, none⟩ = some (.int .i64 ((PS.act fst ⟨m0, s0, u0, now0, q0⟩ x1)).wr) ∧ w'.cell? ⟨g5, 1, none⟩ = some (.int .i64 x1) ∧ w'.cell? ⟨g5, 2, none⟩ = some (.int .u32 x2)) (ds := [7]) #[false, false, false, false, false, false, false, false, false] (by kernel_rfl) rfl rfl ⟨HS.out.cell 0 _ _ _ rfl 0, HS.out.cell 0 _ _ _ rfl 1, HS.out.cell 0 _ _ _ rfl 2, HS.out.cell 0 _ _ _ rfl 3, HS.out.cell 0 _ _ _ rfl 4, HS.out.cell 0 _ _ _ rfl 5, HS.out.cell 0 _ _ _ rfl 6, HS.out.cell 0 _ _ _ rfl 7, HS.out.cell 0 _ _ _ rfl 8, HS.out.cell 0 _ _ _ rfl 9, HS.out.cell 3 _ _ _ rfl 1, HS.out.cell 3 _ _ _ rfl 2⟩ (fun hHeld => ?_)
  generalize w6_.drew = W_ at *
  refine pure_ (i := 1) (N := some 97) (v := ?_) (a' := ?_) #[false, true, false, false, false, false, false, false, false] rfl rfl (by kernel_rfl) (fun _ _ _ h => h) (Or.inl ⟨by rfl, ?_⟩) ?_ ?_
  rotate_left
  · intro w'
    go_simp
    with_reducible rfl
  rotate_left
  · simp only [Act.put, List.setIfInBounds_toArray, List.set_cons_zero, List.set_cons_succ, i64_w, i32_w]
    rfl
  refine pure_ (i := 2) (N := some 98) (v := ?_) (a' := ?_) #[false, true, true, false, false, false, false, false, false] rfl rfl (by kernel_rfl) (fun _ _ _ h => h) (Or.inl ⟨by rfl, ?_⟩) ?_ ?_
  rotate_left
  · intro w'
    go_simp
    with_reducible rfl
  rotate_left
  · simp only [Act.put, List.setIfInBounds_toArray, List.set_cons_zero, List.set_cons_succ, i64_w, i32_w]
    rfl
  refine pure_ (i := 5) (N := some 101) (v := ?_) (a' := ?_) #[false, true, true, false, false, true, false, false, false] rfl rfl (by kernel_rfl) (fun _ _ _ h => h) (Or.inl ⟨by rfl, ?_⟩) ?_ ?_
  rotate_left
  · intro w'
    go_simp
    with_reducible rfl
  rotate_left
  · simp only [Act.put, List.setIfInBounds_toArray, List.set_cons_zero, List.set_cons_succ, i64_w, i32_w]
    rfl
  refine take_ (i := 0) (N := some 96) (v := ?_) (a' := ?_) #[true, true, true, false, false, true, false, false, false] rfl rfl (by kernel_rfl) (fun _ _ _ h => h) (Or.inl ⟨by rfl, ?_⟩) hHeld ?_ ?_
  rotate_left
  · rintro w' ⟨s0_, s1_, s2_, s3_, s4_, s5_, s6_, s7_, s8_, s9_, s10_, s11_⟩
    go_simp
    with_reducible rfl
  rotate_left
  · simp only [Act.put, List.setIfInBounds_toArray, List.set_cons_zero, List.set_cons_succ, i64_w, i32_w]
    rfl
  refine take_ (i := 3) (N := some 99) (v := ?_) (a' := ?_) #[true, true, true, true, false, true, false, false, false] rfl rfl (by kernel_rfl) (fun _ _ _ h => h) (Or.inl ⟨by rfl, ?_⟩) hHeld ?_ ?_
  rotate_left
  · rintro w' ⟨s0_, s1_, s2_, s3_, s4_, s5_, s6_, s7_, s8_, s9_, s10_, s11_⟩
    go_simp
    with_reducible rfl
  rotate_left
  · simp only [Act.put, List.setIfInBounds_toArray, List.set_cons_zero, List.set_cons_succ, i64_w, i32_w]
    rfl
  refine one_ (i := 4) (N := some 100) #[true, true, true, true, true, true, false, false, false] rfl rfl (by kernel_rfl) (by decide) (fun K hK => ?_)
  refine goes_ Try.func41 (by kernel_rfl) rfl #[.pointer (some ⟨g, 0, none⟩), .int .i64 x1] (by rfl) rfl rfl (by (try simp only [List.map_toArray, List.map_cons, List.map_nil]); first | done | rfl) ?_
  refine (act_at (s := ⟨m0, s0, u0, now0, q0⟩) HS.out 5 rfl x1 hs0 hs1 hn2).mono ?_
  rintro e w91 ⟨rfl, hS91⟩
  have HS91 := Go.Lib.hid hS91
  clear hS91
  refine ⟨_, rfl, ?_⟩
  refine hK.out _ _ ⟨HS91.out.cell 0 _ _ _ rfl 0, HS91.out.cell 0 _ _ _ rfl 1, HS91.out.cell 0 _ _ _ rfl 2, HS91.out.cell 0 _ _ _ rfl 3, HS91.out.cell 0 _ _ _ rfl 4, HS91.out.cell 0 _ _ _ rfl 5, HS91.out.cell 0 _ _ _ rfl 6, HS91.out.cell 0 _ _ _ rfl 7, HS91.out.cell 0 _ _ _ rfl 8, HS91.out.cell 0 _ _ _ rfl 9, HS91.out.cell 3 _ _ _ rfl 1, HS91.out.cell 3 _ _ _ rfl 2⟩ (fun hHeld => ?_)
  clear hK K
  refine norm_ (a' := ?_) ?_ ?_
  rotate_left
  · show Act.put _ (some 100) _ = _
    simp only [Act.put, List.setIfInBounds_toArray, List.set_cons_zero, List.set_cons_succ, i64_w, i32_w]
    rfl
  refine pure_ (i := 6) (N := some 102) (v := ?_) (a' := ?_) #[true, true, true, true, true, true, true, false, false] rfl rfl (by kernel_rfl) (fun _ _ _ h => h) (Or.inl ⟨by rfl, ?_⟩) ?_ ?_
  rotate_left
  · intro w'
    go_simp
    with_reducible rfl
  rotate_left
  · simp only [Act.put, List.setIfInBounds_toArray, List.set_cons_zero, List.set_cons_succ, i64_w, i32_w]
    rfl
  refine last_ (i := 7) (N := none) #[true, true, true, true, true, true, true, true, false] rfl rfl (by kernel_rfl) (by decide) (fun K hK => ?_)
  obtain ⟨e0, e1, e2, e3, e4, e5, e6, e7, e8, e9⟩ := HS91.out.c10 2 _ _ _ _ _ _ _ _ _ _ _ _ rfl
  obtain ⟨f0, f1, f2, f3, f4, f5, f6, f7, f8, f9⟩ := HS91.out.f10 2 _ _ _ _ _ _ _ _ _ _ _ _ rfl
  refine Sl.storeAll_stp HS91.out 2 g6 76 _ rfl [.int .i64 id, .string name, .bool may, .slice A fst.length c, .int .i64 ((PS.act fst ⟨m0, s0, u0, now0, q0⟩ x1)).mode, .int .i64 ((PS.act fst ⟨m0, s0, u0, now0, q0⟩ x1)).starts, .int .i64 ((PS.act fst ⟨m0, s0, u0, now0, q0⟩ x1)).cause, .slice A fst.length c, .slice A3 ((PS.act fst ⟨m0, s0, u0, now0, q0⟩ x1)).now.length c3, .int .i64 ((PS.act fst ⟨m0, s0, u0, now0, q0⟩ x1)).wr] rfl (by rfl) rfl ?hr ?_
  case hr => first | (go_simp; done) | (go_simp; rfl)
  intro w92 hS92
  have HS92 := Go.Lib.hid hS92
  clear hS92 e0 f0 e1 f1 e2 f2 e3 f3 e4 f4 e5 f5 e6 f6 e7 f7 e8 f8 e9 f9
  refine hK.out _ _ ?_
  clear hK K
  refine pure_ (i := 8) (N := some 7) (v := ?_) (a' := ?_) #[true, true, true, true, true, true, true, true, true] rfl rfl (by kernel_rfl) (fun _ _ _ h => h) (Or.inl ⟨by rfl, ?_⟩) ?_ ?_
  rotate_left
  · intro w'
    go_simp
    with_reducible rfl
  rotate_left
  · simp only [Act.put, List.setIfInBounds_toArray, List.set_cons_zero, List.set_cons_succ, i64_w, i32_w]
    rfl
  refine done_ (by kernel_rfl) ?_
  obtain ⟨d0, d1, d2, d3, d4, d5, d6, d7, d8, d9⟩ := HS92.out.c10 2 _ _ _ _ _ _ _ _ _ _ _ _ rfl
  go_wp2_with fail
  exact bodyPost_ret (v := .tuple #[.agg #[.int .i64 id, .string name, .bool may, .slice A fst.length c, .int .i64 ((PS.act fst ⟨m0, s0, u0, now0, q0⟩ x1)).mode, .int .i64 ((PS.act fst ⟨m0, s0, u0, now0, q0⟩ x1)).starts, .int .i64 ((PS.act fst ⟨m0, s0, u0, now0, q0⟩ x1)).cause, .slice A fst.length c, .slice A3 ((PS.act fst ⟨m0, s0, u0, now0, q0⟩ x1)).now.length c3, .int .i64 ((PS.act fst ⟨m0, s0, u0, now0, q0⟩ x1)).wr], .bool true]) (by simp [results, Try.results46, go_sem, d0, d1, d2, d3, d4, d5, d6, d7, d8, d9]) rfl ⟨_, _, rfl, (((HS92.out.erase 4).erase 3).erase 2).erase 0⟩
set_option maxHeartbeats 3200000 in
set_option maxRecDepth 100000 in
theorem one_0 (h : St (SL.row (Kd.int .u32) 39 (.slice A2 (s).now.length c2) (s).now :: part g id name may fst s :: l) w0 w) (x0 x1 x2 : Int) (k1 : (x0 == 1) = false) (k2 : (x0 == 2) = false) (k3 : (x0 == 3) = false) (k4 : (x0 == 4) = false) (hC : k43.C w0 A fst.length fst) (hl : s.now.length = fst.length) (hs0 : 0 ≤ s.starts) (hs1 : s.starts ≤ 1000000) (hn : fst.length ≤ 1000) (hm0 : 0 ≤ s.mode) (hm1 : s.mode ≤ 3) (hq0 : 0 ≤ s.wr) (hq1 : s.wr ≤ 1000000) :
    Calls Try.prog 46 #[.pointer (some ⟨g, 0, none⟩), .agg #[.int .i64 id, .string name, .bool may, .slice A fst.length c, .int .i64 (s).mode, .int .i64 (s).starts, .int .i64 (s).cause, .slice A fst.length c, .slice A2 (s).now.length c2, .int .i64 (s).wr], .agg #[.int .i64 x0, .int .i64 x1, .int .u32 x2]] w fun e w' => ∃ A3 c3, e = .returned (.tuple #[.agg #[.int .i64 id, .string name, .bool may, .slice A fst.length c, .int .i64 (s).mode, .int .i64 (s).starts, .int .i64 (s).cause, .slice A fst.length c, .slice A3 (s).now.length c3, .int .i64 (s).wr], .bool true]) ∧ St (SL.row (Kd.int .u32) 39 (.slice A3 (s).now.length c3) (s).now :: part g id name may fst (s) :: l) w0 w' := by
  obtain ⟨m0, s0, u0, now0, q0⟩ := s
  have HC := Go.Lib.hid hC
  have HL : Hid (now0.length = fst.length) := Go.Lib.hid hl
  have HS := Go.Lib.hid h
  have hn2 : fst.length ≤ 1000000 := by omega
  have hnn : now0.length ≤ 1000000 := by rw [HL.out]; omega
  clear hC hl h
  go_enter Try.func46, Try.ntmps46
  go_wp2_with (first | ((with_reducible refine gate_dst (N := 4) rfl ?_); refine Sl.box_st HS.out (by rfl) (cs := #[.int .i64 id, .string name, .bool may, .slice A fst.length c, .int .i64 (m0), .int .i64 (s0), .int .i64 (u0), .slice A fst.length c, .slice A2 now0.length c2, .int .i64 (q0)]) (t := 76) ?hr ?_; (case hr => first | (go_simp; done) | (go_simp; rfl)); intro g4 w1_ HSn HBn; clear HBn; replace HS : Hid (St (SL.blk g4 76 #[.int .i64 id, .string name, .bool may, .slice A fst.length c, .int .i64 (m0), .int .i64 (s0), .int .i64 (u0), .slice A fst.length c, .slice A2 now0.length c2, .int .i64 (q0)] :: SL.row (Kd.int .u32) 39 (.slice A2 now0.length c2) now0 :: part g id name may fst ⟨m0, s0, u0, now0, q0⟩ :: l) w0 w1_) := Go.Lib.hid HSn; clear HSn; obtain ⟨c0_0, c0_1, c0_2, c0_3, c0_4, c0_5, c0_6, c0_7, c0_8, c0_9⟩ := HS.out.c10 0 _ _ _ _ _ _ _ _ _ _ _ _ rfl) | ((with_reducible refine gate_dst (N := 5) rfl ?_); refine Sl.box_st HS.out (by rfl) (cs := #[.int .i64 x0, .int .i64 x1, .int .u32 x2]) (t := 67) ?hr ?_; (case hr => first | (go_simp; done) | (go_simp; rfl)); intro g5 w2_ HSn HBn; clear HBn; replace HS : Hid (St (SL.blk g5 67 #[.int .i64 x0, .int .i64 x1, .int .u32 x2] :: SL.blk g4 76 #[.int .i64 id, .string name, .bool may, .slice A fst.length c, .int .i64 (m0), .int .i64 (s0), .int .i64 (u0), .slice A fst.length c, .slice A2 now0.length c2, .int .i64 (q0)] :: SL.row (Kd.int .u32) 39 (.slice A2 now0.length c2) now0 :: part g id name may fst ⟨m0, s0, u0, now0, q0⟩ :: l) w0 w2_) := Go.Lib.hid HSn; clear HSn; clear c0_0 c0_1 c0_2 c0_3 c0_4 c0_5 c0_6 c0_7 c0_8 c0_9; obtain ⟨c0_0, c0_1, c0_2⟩ := HS.out.c3 0 _ _ _ _ _ rfl; obtain ⟨c1_0, c1_1, c1_2, c1_3, c1_4, c1_5, c1_6, c1_7, c1_8, c1_9⟩ := HS.out.c10 1 _ _ _ _ _ _ _ _ _ _ _ _ rfl) | ((with_reducible refine gate_dst (N := 6) rfl ?_); refine Sl.box_st HS.out (by rfl) (cs := #[.int .i64 0, .string ⟨#[]⟩, .bool false, .slice none 0 0, .int .i64 0, .int .i64 0, .int .i64 0, .slice none 0 0, .slice none 0 0, .int .i64 0]) (t := 76) ?hr ?_; (case hr => first | (go_simp; done) | (go_simp; rfl)); intro g6 w3_ HSn HBn; clear HBn; replace HS : Hid (St (SL.blk g6 76 #[.int .i64 0, .string ⟨#[]⟩, .bool false, .slice none 0 0, .int .i64 0, .int .i64 0, .int .i64 0, .slice none 0 0, .slice none 0 0, .int .i64 0] :: SL.blk g5 67 #[.int .i64 x0, .int .i64 x1, .int .u32 x2] :: SL.blk g4 76 #[.int .i64 id, .string name, .bool may, .slice A fst.length c, .int .i64 (m0), .int .i64 (s0), .int .i64 (u0), .slice A fst.length c, .slice A2 now0.length c2, .int .i64 (q0)] :: SL.row (Kd.int .u32) 39 (.slice A2 now0.length c2) now0 :: part g id name may fst ⟨m0, s0, u0, now0, q0⟩ :: l) w0 w3_) := Go.Lib.hid HSn; clear HSn; clear c0_0 c0_1 c0_2 c1_0 c1_1 c1_2 c1_3 c1_4 c1_5 c1_6 c1_7 c1_8 c1_9; obtain ⟨c0_0, c0_1, c0_2, c0_3, c0_4, c0_5, c0_6, c0_7, c0_8, c0_9⟩ := HS.out.c10 0 _ _ _ _ _ _ _ _ _ _ _ _ rfl; obtain ⟨c1_0, c1_1, c1_2⟩ := HS.out.c3 1 _ _ _ _ _ rfl; obtain ⟨c2_0, c2_1, c2_2, c2_3, c2_4, c2_5, c2_6, c2_7, c2_8, c2_9⟩ := HS.out.c10 2 _ _ _ _ _ _ _ _ _ _ _ _ rfl) | ((with_reducible refine gate_store (p := 6) rfl ?_); refine Sl.storeAll_st HS.out 0 g6 76 _ rfl [.int .i64 id, .string name, .bool may, .slice A fst.length c, .int .i64 (m0), .int .i64 (s0), .int .i64 (u0), .slice A fst.length c, .slice A2 now0.length c2, .int .i64 (q0)] rfl (by rfl) (by rfl) ?hr ?_; (case hr => have f_ := HS.out.f10 0 _ _ _ _ _ _ _ _ _ _ _ _ rfl; (try obtain ⟨f0, f1, f2, f3, f4, f5, f6, f7, f8, f9⟩ := f_); first | (go_simp; done) | (go_simp; rfl)); intro w4_ HSn; replace HS : Hid (St (SL.blk g6 76 #[.int .i64 id, .string name, .bool may, .slice A fst.length c, .int .i64 (m0), .int .i64 (s0), .int .i64 (u0), .slice A fst.length c, .slice A2 now0.length c2, .int .i64 (q0)] :: SL.blk g5 67 #[.int .i64 x0, .int .i64 x1, .int .u32 x2] :: SL.blk g4 76 #[.int .i64 id, .string name, .bool may, .slice A fst.length c, .int .i64 (m0), .int .i64 (s0), .int .i64 (u0), .slice A fst.length c, .slice A2 now0.length c2, .int .i64 (q0)] :: SL.row (Kd.int .u32) 39 (.slice A2 now0.length c2) now0 :: part g id name may fst ⟨m0, s0, u0, now0, q0⟩ :: l) w0 w4_) := Go.Lib.hid HSn; clear HSn; clear c0_0 c0_1 c0_2 c0_3 c0_4 c0_5 c0_6 c0_7 c0_8 c0_9 c1_0 c1_1 c1_2 c2_0 c2_1 c2_2 c2_3 c2_4 c2_5 c2_6 c2_7 c2_8 c2_9; obtain ⟨c0_0, c0_1, c0_2, c0_3, c0_4, c0_5, c0_6, c0_7, c0_8, c0_9⟩ := HS.out.c10 0 _ _ _ _ _ _ _ _ _ _ _ _ rfl; obtain ⟨c1_0, c1_1, c1_2⟩ := HS.out.c3 1 _ _ _ _ _ rfl; obtain ⟨c2_0, c2_1, c2_2, c2_3, c2_4, c2_5, c2_6, c2_7, c2_8, c2_9⟩ := HS.out.c10 2 _ _ _ _ _ _ _ _ _ _ _ _ rfl))
  exact bodyPost_ret (v := .tuple #[.agg #[.int .i64 id, .string name, .bool may, .slice A fst.length c, .int .i64 (m0), .int .i64 (s0), .int .i64 (u0), .slice A fst.length c, .slice A2 now0.length c2, .int .i64 (q0)], .bool true]) (by simp [results, Try.results46, go_sem, c0_0, c0_1, c0_2, c0_3, c0_4, c0_5, c0_6, c0_7, c0_8, c0_9]) rfl ⟨_, _, rfl, ((HS.out.erase 2).erase 1).erase 0⟩
set_option maxHeartbeats 3200000 in
set_option maxRecDepth 100000 in
theorem one_2y (h : St (SL.row (Kd.int .u32) 39 (.slice A2 (s).now.length c2) (s).now :: part g id name may fst s :: l) w0 w) (x1 x2 : Int) (hk : s.cell x1 = 0) (hC : k43.C w0 A fst.length fst) (hl : s.now.length = fst.length) (hs0 : 0 ≤ s.starts) (hs1 : s.starts ≤ 1000000) (hn : fst.length ≤ 1000) (hm0 : 0 ≤ s.mode) (hm1 : s.mode ≤ 3) (hq0 : 0 ≤ s.wr) (hq1 : s.wr ≤ 1000000) :
    Calls Try.prog 46 #[.pointer (some ⟨g, 0, none⟩), .agg #[.int .i64 id, .string name, .bool may, .slice A fst.length c, .int .i64 (s).mode, .int .i64 (s).starts, .int .i64 (s).cause, .slice A fst.length c, .slice A2 (s).now.length c2, .int .i64 (s).wr], .agg #[.int .i64 2, .int .i64 x1, .int .u32 x2]] w fun e w' => ∃ A3 c3, e = .returned (.tuple #[.agg #[.int .i64 id, .string name, .bool may, .slice A fst.length c, .int .i64 (s).mode, .int .i64 (s).starts, .int .i64 (s).cause, .slice A fst.length c, .slice A3 (s).now.length c3, .int .i64 (s).wr], .bool true]) ∧ St (SL.row (Kd.int .u32) 39 (.slice A3 (s).now.length c3) (s).now :: part g id name may fst s :: l) w0 w' := by
  have HK : Hid (∀ (l : List SL) (w : World), St (SL.row (Kd.int .u32) 39 (.slice A2 (s).now.length c2) (s).now :: l) w0 w → Calls Try.prog 101 #[.agg #[.int .i64 id, .string name, .bool may, .slice A fst.length c, .int .i64 (s).mode, .int .i64 (s).starts, .int .i64 (s).cause, .slice A fst.length c, .slice A2 (s).now.length c2, .int .i64 (s).wr], .int .i64 x1] w fun e w' => e = .returned (.int .i64 0) ∧ St (SL.row (Kd.int .u32) 39 (.slice A2 (s).now.length c2) (s).now :: l) w0 w') := Go.Lib.hid (fun l w hS => by rw [← hk]; exact rcell_calls hS x1 hm0 hm1)
  have HR : Hid (∀ (l : List SL) (w : World), St (part g id name may fst s :: l) w0 w → Calls Try.prog 98 #[.pointer (some ⟨g, 0, none⟩), .int .i64 x1] w fun e w' => e = .returned (.tuple #[.int .u32 (rd s.now x1), .int .i64 0]) ∧ St (part g id name may fst s :: l) w0 w') := Go.Lib.hid (fun l w hS => by
    have h1 := read_hd hS x1
    rw [hk] at h1
    rw [if_pos rfl] at h1
    exact h1)
  have h01 := cell_zero s x1 hk
  obtain ⟨m0, s0, u0, now0, q0⟩ := s
  have h0 : 0 ≤ x1 := h01.1
  have h1 : x1 < (now0.length : Int) := h01.2
  obtain ⟨A', c', hv, _, hR⟩ := h.rowC 0 rfl
  injection hv with p1 _ p2
  subst p1 p2
  obtain ⟨adn, hadn, _⟩ := Kd.at_int hR x1 h0 h1
  subst hadn
  clear hR h01
  have HS := Go.Lib.hid h
  clear hC hl h hk
  go_enter Try.func46, Try.ntmps46
  go_wp2_with (first | ((with_reducible refine gate_dst (N := 4) rfl ?_); refine Sl.box_st HS.out (by rfl) (cs := #[.int .i64 id, .string name, .bool may, .slice A fst.length c, .int .i64 (m0), .int .i64 (s0), .int .i64 (u0), .slice A fst.length c, .slice (some adn) now0.length c2, .int .i64 (q0)]) (t := 76) ?hr ?_; (case hr => first | (go_simp; done) | (go_simp; rfl)); intro g4 w1_ HSn HBn; clear HBn; replace HS : Hid (St (SL.blk g4 76 #[.int .i64 id, .string name, .bool may, .slice A fst.length c, .int .i64 (m0), .int .i64 (s0), .int .i64 (u0), .slice A fst.length c, .slice (some adn) now0.length c2, .int .i64 (q0)] :: SL.row (Kd.int .u32) 39 (.slice (some adn) now0.length c2) now0 :: part g id name may fst (⟨m0, s0, u0, now0, q0⟩ : PS) :: l) w0 w1_) := Go.Lib.hid HSn; clear HSn; obtain ⟨c0_0, c0_1, c0_2, c0_3, c0_4, c0_5, c0_6, c0_7, c0_8, c0_9⟩ := HS.out.c10 0 _ _ _ _ _ _ _ _ _ _ _ _ rfl) | ((with_reducible refine gate_dst (N := 5) rfl ?_); refine Sl.box_st HS.out (by rfl) (cs := #[.int .i64 2, .int .i64 x1, .int .u32 x2]) (t := 67) ?hr ?_; (case hr => first | (go_simp; done) | (go_simp; rfl)); intro g5 w2_ HSn HBn; clear HBn; replace HS : Hid (St (SL.blk g5 67 #[.int .i64 2, .int .i64 x1, .int .u32 x2] :: SL.blk g4 76 #[.int .i64 id, .string name, .bool may, .slice A fst.length c, .int .i64 (m0), .int .i64 (s0), .int .i64 (u0), .slice A fst.length c, .slice (some adn) now0.length c2, .int .i64 (q0)] :: SL.row (Kd.int .u32) 39 (.slice (some adn) now0.length c2) now0 :: part g id name may fst (⟨m0, s0, u0, now0, q0⟩ : PS) :: l) w0 w2_) := Go.Lib.hid HSn; clear HSn; clear c0_0 c0_1 c0_2 c0_3 c0_4 c0_5 c0_6 c0_7 c0_8 c0_9; obtain ⟨c0_0, c0_1, c0_2⟩ := HS.out.c3 0 _ _ _ _ _ rfl; obtain ⟨c1_0, c1_1, c1_2, c1_3, c1_4, c1_5, c1_6, c1_7, c1_8, c1_9⟩ := HS.out.c10 1 _ _ _ _ _ _ _ _ _ _ _ _ rfl) | ((with_reducible refine gate_dst (N := 6) rfl ?_); refine Sl.box_st HS.out (by rfl) (cs := #[.int .i64 0, .string ⟨#[]⟩, .bool false, .slice none 0 0, .int .i64 0, .int .i64 0, .int .i64 0, .slice none 0 0, .slice none 0 0, .int .i64 0]) (t := 76) ?hr ?_; (case hr => first | (go_simp; done) | (go_simp; rfl)); intro g6 w3_ HSn HBn; clear HBn; replace HS : Hid (St (SL.blk g6 76 #[.int .i64 0, .string ⟨#[]⟩, .bool false, .slice none 0 0, .int .i64 0, .int .i64 0, .int .i64 0, .slice none 0 0, .slice none 0 0, .int .i64 0] :: SL.blk g5 67 #[.int .i64 2, .int .i64 x1, .int .u32 x2] :: SL.blk g4 76 #[.int .i64 id, .string name, .bool may, .slice A fst.length c, .int .i64 (m0), .int .i64 (s0), .int .i64 (u0), .slice A fst.length c, .slice (some adn) now0.length c2, .int .i64 (q0)] :: SL.row (Kd.int .u32) 39 (.slice (some adn) now0.length c2) now0 :: part g id name may fst (⟨m0, s0, u0, now0, q0⟩ : PS) :: l) w0 w3_) := Go.Lib.hid HSn; clear HSn; clear c0_0 c0_1 c0_2 c1_0 c1_1 c1_2 c1_3 c1_4 c1_5 c1_6 c1_7 c1_8 c1_9; obtain ⟨c0_0, c0_1, c0_2, c0_3, c0_4, c0_5, c0_6, c0_7, c0_8, c0_9⟩ := HS.out.c10 0 _ _ _ _ _ _ _ _ _ _ _ _ rfl; obtain ⟨c1_0, c1_1, c1_2⟩ := HS.out.c3 1 _ _ _ _ _ rfl; obtain ⟨c2_0, c2_1, c2_2, c2_3, c2_4, c2_5, c2_6, c2_7, c2_8, c2_9⟩ := HS.out.c10 2 _ _ _ _ _ _ _ _ _ _ _ _ rfl) | (go_at_call 101; refine (HK.out _ _ (HS.out.front 3 _ rfl)).mono ?_; rintro e w4_ ⟨rfl, HSn⟩; replace HS : Hid (St (SL.row (Kd.int .u32) 39 (.slice (some adn) now0.length c2) now0 :: SL.blk g6 76 #[.int .i64 0, .string ⟨#[]⟩, .bool false, .slice none 0 0, .int .i64 0, .int .i64 0, .int .i64 0, .slice none 0 0, .slice none 0 0, .int .i64 0] :: SL.blk g5 67 #[.int .i64 2, .int .i64 x1, .int .u32 x2] :: SL.blk g4 76 #[.int .i64 id, .string name, .bool may, .slice A fst.length c, .int .i64 (m0), .int .i64 (s0), .int .i64 (u0), .slice A fst.length c, .slice (some adn) now0.length c2, .int .i64 (q0)] :: part g id name may fst (⟨m0, s0, u0, now0, q0⟩ : PS) :: l) w0 w4_) := Go.Lib.hid HSn; clear HSn; clear c0_0 c0_1 c0_2 c0_3 c0_4 c0_5 c0_6 c0_7 c0_8 c0_9 c1_0 c1_1 c1_2 c2_0 c2_1 c2_2 c2_3 c2_4 c2_5 c2_6 c2_7 c2_8 c2_9; obtain ⟨c1_0, c1_1, c1_2, c1_3, c1_4, c1_5, c1_6, c1_7, c1_8, c1_9⟩ := HS.out.c10 1 _ _ _ _ _ _ _ _ _ _ _ _ rfl; obtain ⟨c2_0, c2_1, c2_2⟩ := HS.out.c3 2 _ _ _ _ _ rfl; obtain ⟨c3_0, c3_1, c3_2, c3_3, c3_4, c3_5, c3_6, c3_7, c3_8, c3_9⟩ := HS.out.c10 3 _ _ _ _ _ _ _ _ _ _ _ _ rfl) | (go_at_call 98; refine (HR.out _ _ (HS.out.front 4 _ rfl)).mono ?_; rintro e w5_ ⟨rfl, HSn⟩; obtain ⟨Ax_, cx_, hv_, _, hR_⟩ := HSn.rowC 1 rfl; injection hv_ with q1_ _ q2_; subst q1_ q2_; obtain ⟨ax_, hax_, d3⟩ := Kd.at_int hR_ x1 h0 h1; injection hax_ with hax_; subst hax_; clear hR_; replace HS : Hid (St (part g id name may fst (⟨m0, s0, u0, now0, q0⟩ : PS) :: SL.row (Kd.int .u32) 39 (.slice (some adn) now0.length c2) now0 :: SL.blk g6 76 #[.int .i64 0, .string ⟨#[]⟩, .bool false, .slice none 0 0, .int .i64 0, .int .i64 0, .int .i64 0, .slice none 0 0, .slice none 0 0, .int .i64 0] :: SL.blk g5 67 #[.int .i64 2, .int .i64 x1, .int .u32 x2] :: SL.blk g4 76 #[.int .i64 id, .string name, .bool may, .slice A fst.length c, .int .i64 (m0), .int .i64 (s0), .int .i64 (u0), .slice A fst.length c, .slice (some adn) now0.length c2, .int .i64 (q0)] :: l) w0 w5_) := Go.Lib.hid HSn; clear HSn; clear c1_0 c1_1 c1_2 c1_3 c1_4 c1_5 c1_6 c1_7 c1_8 c1_9 c2_0 c2_1 c2_2 c3_0 c3_1 c3_2 c3_3 c3_4 c3_5 c3_6 c3_7 c3_8 c3_9; obtain ⟨c2_0, c2_1, c2_2, c2_3, c2_4, c2_5, c2_6, c2_7, c2_8, c2_9⟩ := HS.out.c10 2 _ _ _ _ _ _ _ _ _ _ _ _ rfl; obtain ⟨c3_0, c3_1, c3_2⟩ := HS.out.c3 3 _ _ _ _ _ rfl; obtain ⟨c4_0, c4_1, c4_2, c4_3, c4_4, c4_5, c4_6, c4_7, c4_8, c4_9⟩ := HS.out.c10 4 _ _ _ _ _ _ _ _ _ _ _ _ rfl) | ((with_reducible refine gate_store (p := 6) rfl ?_); refine Sl.storeAll_st HS.out 2 g6 76 _ rfl [.int .i64 id, .string name, .bool may, .slice A fst.length c, .int .i64 (m0), .int .i64 (s0), .int .i64 (u0), .slice A fst.length c, .slice (some adn) now0.length c2, .int .i64 (q0)] rfl (by rfl) (by rfl) ?hr ?_; (case hr => have f_ := HS.out.f10 2 _ _ _ _ _ _ _ _ _ _ _ _ rfl; (try obtain ⟨f0, f1, f2, f3, f4, f5, f6, f7, f8, f9⟩ := f_); first | (go_simp; done) | (go_simp; rfl)); intro w6_ HSn; replace HS : Hid (St (part g id name may fst (⟨m0, s0, u0, now0, q0⟩ : PS) :: SL.row (Kd.int .u32) 39 (.slice (some adn) now0.length c2) now0 :: SL.blk g6 76 #[.int .i64 id, .string name, .bool may, .slice A fst.length c, .int .i64 (m0), .int .i64 (s0), .int .i64 (u0), .slice A fst.length c, .slice (some adn) now0.length c2, .int .i64 (q0)] :: SL.blk g5 67 #[.int .i64 2, .int .i64 x1, .int .u32 x2] :: SL.blk g4 76 #[.int .i64 id, .string name, .bool may, .slice A fst.length c, .int .i64 (m0), .int .i64 (s0), .int .i64 (u0), .slice A fst.length c, .slice (some adn) now0.length c2, .int .i64 (q0)] :: l) w0 w6_) := Go.Lib.hid HSn; clear HSn; clear c2_0 c2_1 c2_2 c2_3 c2_4 c2_5 c2_6 c2_7 c2_8 c2_9 c3_0 c3_1 c3_2 c4_0 c4_1 c4_2 c4_3 c4_4 c4_5 c4_6 c4_7 c4_8 c4_9; obtain ⟨c2_0, c2_1, c2_2, c2_3, c2_4, c2_5, c2_6, c2_7, c2_8, c2_9⟩ := HS.out.c10 2 _ _ _ _ _ _ _ _ _ _ _ _ rfl; obtain ⟨c3_0, c3_1, c3_2⟩ := HS.out.c3 3 _ _ _ _ _ rfl; obtain ⟨c4_0, c4_1, c4_2, c4_3, c4_4, c4_5, c4_6, c4_7, c4_8, c4_9⟩ := HS.out.c10 4 _ _ _ _ _ _ _ _ _ _ _ _ rfl))
  exact bodyPost_ret (v := .tuple #[.agg #[.int .i64 id, .string name, .bool may, .slice A fst.length c, .int .i64 (m0), .int .i64 (s0), .int .i64 (u0), .slice A fst.length c, .slice (some adn) now0.length c2, .int .i64 (q0)], .bool true]) (by simp [results, Try.results46, go_sem, c2_0, c2_1, c2_2, c2_3, c2_4, c2_5, c2_6, c2_7, c2_8, c2_9]) rfl ⟨_, _, rfl, (((HS.out.erase 4).erase 3).erase 2).swap⟩
set_option maxHeartbeats 3200000 in
set_option maxRecDepth 100000 in
theorem one_2n (h : St (SL.row (Kd.int .u32) 39 (.slice A2 (s).now.length c2) (s).now :: part g id name may fst s :: l) w0 w) (x1 x2 k : Int) (hk : s.cell x1 = k) (hz : (k == 0) = false) (hC : k43.C w0 A fst.length fst) (hl : s.now.length = fst.length) (hs0 : 0 ≤ s.starts) (hs1 : s.starts ≤ 1000000) (hn : fst.length ≤ 1000) (hm0 : 0 ≤ s.mode) (hm1 : s.mode ≤ 3) (hq0 : 0 ≤ s.wr) (hq1 : s.wr ≤ 1000000) :
    Calls Try.prog 46 #[.pointer (some ⟨g, 0, none⟩), .agg #[.int .i64 id, .string name, .bool may, .slice A fst.length c, .int .i64 (s).mode, .int .i64 (s).starts, .int .i64 (s).cause, .slice A fst.length c, .slice A2 (s).now.length c2, .int .i64 (s).wr], .agg #[.int .i64 2, .int .i64 x1, .int .u32 x2]] w fun e w' => ∃ A3 c3, e = .returned (.tuple #[.agg #[.int .i64 id, .string name, .bool may, .slice A fst.length c, .int .i64 (s).mode, .int .i64 (s).starts, .int .i64 (s).cause, .slice A fst.length c, .slice A3 (s).now.length c3, .int .i64 (s).wr], .bool true]) ∧ St (SL.row (Kd.int .u32) 39 (.slice A3 (s).now.length c3) (s).now :: part g id name may fst s :: l) w0 w' := by
  have HK : Hid (∀ (l : List SL) (w : World), St (SL.row (Kd.int .u32) 39 (.slice A2 (s).now.length c2) (s).now :: l) w0 w → Calls Try.prog 101 #[.agg #[.int .i64 id, .string name, .bool may, .slice A fst.length c, .int .i64 (s).mode, .int .i64 (s).starts, .int .i64 (s).cause, .slice A fst.length c, .slice A2 (s).now.length c2, .int .i64 (s).wr], .int .i64 x1] w fun e w' => e = .returned (.int .i64 k) ∧ St (SL.row (Kd.int .u32) 39 (.slice A2 (s).now.length c2) (s).now :: l) w0 w') := Go.Lib.hid (fun l w hS => by rw [← hk]; exact rcell_calls hS x1 hm0 hm1)
  have HR : Hid (∀ (l : List SL) (w : World), St (part g id name may fst s :: l) w0 w → Calls Try.prog 98 #[.pointer (some ⟨g, 0, none⟩), .int .i64 x1] w fun e w' => e = .returned (.tuple #[.int .u32 (0), .int .i64 k]) ∧ St (part g id name may fst s :: l) w0 w') := Go.Lib.hid (fun l w hS => by
    have h1 := read_hd hS x1
    rw [hk] at h1
    rw [if_neg (by simpa using hz)] at h1
    exact h1)
  obtain ⟨m0, s0, u0, now0, q0⟩ := s
  have HS := Go.Lib.hid h
  clear hC hl h hk
  go_enter Try.func46, Try.ntmps46
  go_wp2_with (first | ((with_reducible refine gate_dst (N := 4) rfl ?_); refine Sl.box_st HS.out (by rfl) (cs := #[.int .i64 id, .string name, .bool may, .slice A fst.length c, .int .i64 (m0), .int .i64 (s0), .int .i64 (u0), .slice A fst.length c, .slice A2 now0.length c2, .int .i64 (q0)]) (t := 76) ?hr ?_; (case hr => first | (go_simp; done) | (go_simp; rfl)); intro g4 w1_ HSn HBn; clear HBn; replace HS : Hid (St (SL.blk g4 76 #[.int .i64 id, .string name, .bool may, .slice A fst.length c, .int .i64 (m0), .int .i64 (s0), .int .i64 (u0), .slice A fst.length c, .slice A2 now0.length c2, .int .i64 (q0)] :: SL.row (Kd.int .u32) 39 (.slice A2 now0.length c2) now0 :: part g id name may fst (⟨m0, s0, u0, now0, q0⟩ : PS) :: l) w0 w1_) := Go.Lib.hid HSn; clear HSn; obtain ⟨c0_0, c0_1, c0_2, c0_3, c0_4, c0_5, c0_6, c0_7, c0_8, c0_9⟩ := HS.out.c10 0 _ _ _ _ _ _ _ _ _ _ _ _ rfl) | ((with_reducible refine gate_dst (N := 5) rfl ?_); refine Sl.box_st HS.out (by rfl) (cs := #[.int .i64 2, .int .i64 x1, .int .u32 x2]) (t := 67) ?hr ?_; (case hr => first | (go_simp; done) | (go_simp; rfl)); intro g5 w2_ HSn HBn; clear HBn; replace HS : Hid (St (SL.blk g5 67 #[.int .i64 2, .int .i64 x1, .int .u32 x2] :: SL.blk g4 76 #[.int .i64 id, .string name, .bool may, .slice A fst.length c, .int .i64 (m0), .int .i64 (s0), .int .i64 (u0), .slice A fst.length c, .slice A2 now0.length c2, .int .i64 (q0)] :: SL.row (Kd.int .u32) 39 (.slice A2 now0.length c2) now0 :: part g id name may fst (⟨m0, s0, u0, now0, q0⟩ : PS) :: l) w0 w2_) := Go.Lib.hid HSn; clear HSn; clear c0_0 c0_1 c0_2 c0_3 c0_4 c0_5 c0_6 c0_7 c0_8 c0_9; obtain ⟨c0_0, c0_1, c0_2⟩ := HS.out.c3 0 _ _ _ _ _ rfl; obtain ⟨c1_0, c1_1, c1_2, c1_3, c1_4, c1_5, c1_6, c1_7, c1_8, c1_9⟩ := HS.out.c10 1 _ _ _ _ _ _ _ _ _ _ _ _ rfl) | ((with_reducible refine gate_dst (N := 6) rfl ?_); refine Sl.box_st HS.out (by rfl) (cs := #[.int .i64 0, .string ⟨#[]⟩, .bool false, .slice none 0 0, .int .i64 0, .int .i64 0, .int .i64 0, .slice none 0 0, .slice none 0 0, .int .i64 0]) (t := 76) ?hr ?_; (case hr => first | (go_simp; done) | (go_simp; rfl)); intro g6 w3_ HSn HBn; clear HBn; replace HS : Hid (St (SL.blk g6 76 #[.int .i64 0, .string ⟨#[]⟩, .bool false, .slice none 0 0, .int .i64 0, .int .i64 0, .int .i64 0, .slice none 0 0, .slice none 0 0, .int .i64 0] :: SL.blk g5 67 #[.int .i64 2, .int .i64 x1, .int .u32 x2] :: SL.blk g4 76 #[.int .i64 id, .string name, .bool may, .slice A fst.length c, .int .i64 (m0), .int .i64 (s0), .int .i64 (u0), .slice A fst.length c, .slice A2 now0.length c2, .int .i64 (q0)] :: SL.row (Kd.int .u32) 39 (.slice A2 now0.length c2) now0 :: part g id name may fst (⟨m0, s0, u0, now0, q0⟩ : PS) :: l) w0 w3_) := Go.Lib.hid HSn; clear HSn; clear c0_0 c0_1 c0_2 c1_0 c1_1 c1_2 c1_3 c1_4 c1_5 c1_6 c1_7 c1_8 c1_9; obtain ⟨c0_0, c0_1, c0_2, c0_3, c0_4, c0_5, c0_6, c0_7, c0_8, c0_9⟩ := HS.out.c10 0 _ _ _ _ _ _ _ _ _ _ _ _ rfl; obtain ⟨c1_0, c1_1, c1_2⟩ := HS.out.c3 1 _ _ _ _ _ rfl; obtain ⟨c2_0, c2_1, c2_2, c2_3, c2_4, c2_5, c2_6, c2_7, c2_8, c2_9⟩ := HS.out.c10 2 _ _ _ _ _ _ _ _ _ _ _ _ rfl) | (go_at_call 101; refine (HK.out _ _ (HS.out.front 3 _ rfl)).mono ?_; rintro e w4_ ⟨rfl, HSn⟩; replace HS : Hid (St (SL.row (Kd.int .u32) 39 (.slice A2 now0.length c2) now0 :: SL.blk g6 76 #[.int .i64 0, .string ⟨#[]⟩, .bool false, .slice none 0 0, .int .i64 0, .int .i64 0, .int .i64 0, .slice none 0 0, .slice none 0 0, .int .i64 0] :: SL.blk g5 67 #[.int .i64 2, .int .i64 x1, .int .u32 x2] :: SL.blk g4 76 #[.int .i64 id, .string name, .bool may, .slice A fst.length c, .int .i64 (m0), .int .i64 (s0), .int .i64 (u0), .slice A fst.length c, .slice A2 now0.length c2, .int .i64 (q0)] :: part g id name may fst (⟨m0, s0, u0, now0, q0⟩ : PS) :: l) w0 w4_) := Go.Lib.hid HSn; clear HSn; clear c0_0 c0_1 c0_2 c0_3 c0_4 c0_5 c0_6 c0_7 c0_8 c0_9 c1_0 c1_1 c1_2 c2_0 c2_1 c2_2 c2_3 c2_4 c2_5 c2_6 c2_7 c2_8 c2_9; obtain ⟨c1_0, c1_1, c1_2, c1_3, c1_4, c1_5, c1_6, c1_7, c1_8, c1_9⟩ := HS.out.c10 1 _ _ _ _ _ _ _ _ _ _ _ _ rfl; obtain ⟨c2_0, c2_1, c2_2⟩ := HS.out.c3 2 _ _ _ _ _ rfl; obtain ⟨c3_0, c3_1, c3_2, c3_3, c3_4, c3_5, c3_6, c3_7, c3_8, c3_9⟩ := HS.out.c10 3 _ _ _ _ _ _ _ _ _ _ _ _ rfl) | (go_at_call 98; refine (HR.out _ _ (HS.out.front 4 _ rfl)).mono ?_; rintro e w5_ ⟨rfl, HSn⟩; replace HS : Hid (St (part g id name may fst (⟨m0, s0, u0, now0, q0⟩ : PS) :: SL.row (Kd.int .u32) 39 (.slice A2 now0.length c2) now0 :: SL.blk g6 76 #[.int .i64 0, .string ⟨#[]⟩, .bool false, .slice none 0 0, .int .i64 0, .int .i64 0, .int .i64 0, .slice none 0 0, .slice none 0 0, .int .i64 0] :: SL.blk g5 67 #[.int .i64 2, .int .i64 x1, .int .u32 x2] :: SL.blk g4 76 #[.int .i64 id, .string name, .bool may, .slice A fst.length c, .int .i64 (m0), .int .i64 (s0), .int .i64 (u0), .slice A fst.length c, .slice A2 now0.length c2, .int .i64 (q0)] :: l) w0 w5_) := Go.Lib.hid HSn; clear HSn; clear c1_0 c1_1 c1_2 c1_3 c1_4 c1_5 c1_6 c1_7 c1_8 c1_9 c2_0 c2_1 c2_2 c3_0 c3_1 c3_2 c3_3 c3_4 c3_5 c3_6 c3_7 c3_8 c3_9; obtain ⟨c2_0, c2_1, c2_2, c2_3, c2_4, c2_5, c2_6, c2_7, c2_8, c2_9⟩ := HS.out.c10 2 _ _ _ _ _ _ _ _ _ _ _ _ rfl; obtain ⟨c3_0, c3_1, c3_2⟩ := HS.out.c3 3 _ _ _ _ _ rfl; obtain ⟨c4_0, c4_1, c4_2, c4_3, c4_4, c4_5, c4_6, c4_7, c4_8, c4_9⟩ := HS.out.c10 4 _ _ _ _ _ _ _ _ _ _ _ _ rfl) | ((with_reducible refine gate_store (p := 6) rfl ?_); refine Sl.storeAll_st HS.out 2 g6 76 _ rfl [.int .i64 id, .string name, .bool may, .slice A fst.length c, .int .i64 (m0), .int .i64 (s0), .int .i64 (u0), .slice A fst.length c, .slice A2 now0.length c2, .int .i64 (q0)] rfl (by rfl) (by rfl) ?hr ?_; (case hr => have f_ := HS.out.f10 2 _ _ _ _ _ _ _ _ _ _ _ _ rfl; (try obtain ⟨f0, f1, f2, f3, f4, f5, f6, f7, f8, f9⟩ := f_); first | (go_simp; done) | (go_simp; rfl)); intro w6_ HSn; replace HS : Hid (St (part g id name may fst (⟨m0, s0, u0, now0, q0⟩ : PS) :: SL.row (Kd.int .u32) 39 (.slice A2 now0.length c2) now0 :: SL.blk g6 76 #[.int .i64 id, .string name, .bool may, .slice A fst.length c, .int .i64 (m0), .int .i64 (s0), .int .i64 (u0), .slice A fst.length c, .slice A2 now0.length c2, .int .i64 (q0)] :: SL.blk g5 67 #[.int .i64 2, .int .i64 x1, .int .u32 x2] :: SL.blk g4 76 #[.int .i64 id, .string name, .bool may, .slice A fst.length c, .int .i64 (m0), .int .i64 (s0), .int .i64 (u0), .slice A fst.length c, .slice A2 now0.length c2, .int .i64 (q0)] :: l) w0 w6_) := Go.Lib.hid HSn; clear HSn; clear c2_0 c2_1 c2_2 c2_3 c2_4 c2_5 c2_6 c2_7 c2_8 c2_9 c3_0 c3_1 c3_2 c4_0 c4_1 c4_2 c4_3 c4_4 c4_5 c4_6 c4_7 c4_8 c4_9; obtain ⟨c2_0, c2_1, c2_2, c2_3, c2_4, c2_5, c2_6, c2_7, c2_8, c2_9⟩ := HS.out.c10 2 _ _ _ _ _ _ _ _ _ _ _ _ rfl; obtain ⟨c3_0, c3_1, c3_2⟩ := HS.out.c3 3 _ _ _ _ _ rfl; obtain ⟨c4_0, c4_1, c4_2, c4_3, c4_4, c4_5, c4_6, c4_7, c4_8, c4_9⟩ := HS.out.c10 4 _ _ _ _ _ _ _ _ _ _ _ _ rfl))
  exact bodyPost_ret (v := .tuple #[.agg #[.int .i64 id, .string name, .bool may, .slice A fst.length c, .int .i64 (m0), .int .i64 (s0), .int .i64 (u0), .slice A fst.length c, .slice A2 now0.length c2, .int .i64 (q0)], .bool true]) (by simp [results, Try.results46, go_sem, c2_0, c2_1, c2_2, c2_3, c2_4, c2_5, c2_6, c2_7, c2_8, c2_9]) rfl ⟨_, _, rfl, (((HS.out.erase 4).erase 3).erase 2).swap⟩
/-- One call of both: what it makes. -/
def stepP (fst : List S43) (s : PS) (x : S67) : PS := if x.f0 = 1 then s.setMode fst x.f1 else if x.f0 = 3 then s.write x.f1 x.f2 else if x.f0 = 4 then s.act fst x.f1 else s
theorem one_calls (h : St (SL.row (Kd.int .u32) 39 (.slice A2 (s).now.length c2) (s).now :: part g id name may fst s :: l) w0 w) (x : S67) (hC : k43.C w0 A fst.length fst) (hl : s.now.length = fst.length) (hs0 : 0 ≤ s.starts) (hs1 : s.starts ≤ 1000000) (hn : fst.length ≤ 1000) (hm0 : 0 ≤ s.mode) (hm1 : s.mode ≤ 3) (hq0 : 0 ≤ s.wr) (hq1 : s.wr ≤ 1000000) :
    Calls Try.prog 46 #[.pointer (some ⟨g, 0, none⟩), .agg #[.int .i64 id, .string name, .bool may, .slice A fst.length c, .int .i64 (s).mode, .int .i64 (s).starts, .int .i64 (s).cause, .slice A fst.length c, .slice A2 (s).now.length c2, .int .i64 (s).wr], .agg #[.int .i64 x.f0, .int .i64 x.f1, .int .u32 x.f2]] w fun e w' => ∃ A3 c3, e = .returned (.tuple #[.agg #[.int .i64 id, .string name, .bool may, .slice A fst.length c, .int .i64 (stepP fst s x).mode, .int .i64 (stepP fst s x).starts, .int .i64 (stepP fst s x).cause, .slice A fst.length c, .slice A3 (stepP fst s x).now.length c3, .int .i64 (stepP fst s x).wr], .bool true]) ∧ St (SL.row (Kd.int .u32) 39 (.slice A3 (stepP fst s x).now.length c3) (stepP fst s x).now :: part g id name may fst (stepP fst s x) :: l) w0 w' := by
  obtain ⟨x0, x1, x2⟩ := x
  unfold stepP
  by_cases k1 : x0 = 1
  · subst k1; rw [if_pos rfl]; exact one_1 h 0 x1 x2 hC hl hs0 hs1 hn hm0 hm1 hq0 hq1
  · rw [if_neg k1]
    by_cases k3 : x0 = 3
    · subst k3; rw [if_pos rfl]; exact one_3 h 0 x1 x2 hC hl hs0 hs1 hn hm0 hm1 hq0 hq1
    · rw [if_neg k3]
      by_cases k4 : x0 = 4
      · subst k4; rw [if_pos rfl]; exact one_4 h 0 x1 x2 hC hl hs0 hs1 hn hm0 hm1 hq0 hq1
      · rw [if_neg k4]
        by_cases k2 : x0 = 2
        · subst k2
          by_cases hk : s.cell x1 = 0
          · exact one_2y h x1 x2 hk hC hl hs0 hs1 hn hm0 hm1 hq0 hq1
          · exact one_2n h x1 x2 _ rfl (beq_eq_false_iff_ne.2 hk) hC hl hs0 hs1 hn hm0 hm1 hq0 hq1
        · exact one_0 h x0 x1 x2 (beq_eq_false_iff_ne.2 k1) (beq_eq_false_iff_ne.2 k2) (beq_eq_false_iff_ne.2 k3) (beq_eq_false_iff_ne.2 k4) hC hl hs0 hs1 hn hm0 hm1 hq0 hq1
end Go.Proofs.Ytkmhgolohppliaa.Prt
