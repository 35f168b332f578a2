/- Clock: sums and products that end are the document's: the law ClockSums. -/
import Derived.Test.YtomhhaaogenedaaClk1
namespace Go.Proofs.Ytomhhaaogenedaa.Clk
open Go.RowKit Go.Proofs.YtomhhaaogenedaaW.PrintWords Go.Proofs.YtomhhaaogenedaaW.PrintLast Go.Proofs.YtomhhaaogenedaaW.PrintMore
set_option linter.unusedVariables false

attribute [local go_sem] max2_int min2_int max_two min_two max_three min_three max_four min_four
set_option linter.unusedSimpArgs false
/-! ### clock_Sum: function 45 -/
def clock_Sum.f (a0 : Int) (a1 : Int) : Option (Int) := if a0 > (IntKind.u64.wrap (18446744073709551615 - a1)) then (some 18446744073709551615) else (some (IntKind.u64.wrap (a0 + a1)))
set_option maxHeartbeats 8000000 in
set_option maxRecDepth 100000 in
theorem clock_Sum.calls (a0 : Int) (a1 : Int) (r : Int) (w : World) (h : clock_Sum.f a0 a1 = some r) :
    Calls Try.prog 45 #[.int .u64 a0, .int .u64 a1] w fun e w' => e = .returned (.int .u64 r) ∧ Drawn0 w w' := by
  have H : (if a0 > (IntKind.u64.wrap (18446744073709551615 - a1)) then (some 18446744073709551615) else (some (IntKind.u64.wrap (a0 + a1)))) = some r := h
  clear h
  by_cases c3 : a0 > (IntKind.u64.wrap (18446744073709551615 - a1))
  · rw [if_pos c3] at H
    have c3b0 : decide ((IntKind.u64.wrap (18446744073709551615 - a1)) < a0) = true := decide_eq_true c3
    clear c3
    obtain rfl := Option.some.inj H
    go_enter Try.func45, Try.ntmps45
    go_wp2
    go_ret
    exact ⟨by first | rfl | (simp; done) | (simp [*]; done), by repeat (first | exact Drawn0.refl _ | apply Drawn0.step)⟩
  · rw [if_neg c3] at H
    have c3b0 : decide ((IntKind.u64.wrap (18446744073709551615 - a1)) < a0) = false := decide_eq_false c3
    clear c3
    obtain rfl := Option.some.inj H
    go_enter Try.func45, Try.ntmps45
    go_wp2
    go_ret
    exact ⟨by first | rfl | (simp; done) | (simp [*]; done), by repeat (first | exact Drawn0.refl _ | apply Drawn0.step)⟩

/-! ### countwheelref04_Sum: function 46 -/
def countwheelref04_Sum.f (a0 : Int) (a1 : Int) : Option (Int) := if (IntKind.u64.wrap (a0 + a1)) < a0 then (some 18446744073709551615) else (some (IntKind.u64.wrap (a0 + a1)))
set_option maxHeartbeats 8000000 in
set_option maxRecDepth 100000 in
theorem countwheelref04_Sum.calls (a0 : Int) (a1 : Int) (r : Int) (w : World) (h : countwheelref04_Sum.f a0 a1 = some r) :
    Calls Try.prog 46 #[.int .u64 a0, .int .u64 a1] w fun e w' => e = .returned (.int .u64 r) ∧ Drawn0 w w' := by
  have H : (if (IntKind.u64.wrap (a0 + a1)) < a0 then (some 18446744073709551615) else (some (IntKind.u64.wrap (a0 + a1)))) = some r := h
  clear h
  by_cases c3 : (IntKind.u64.wrap (a0 + a1)) < a0
  · rw [if_pos c3] at H
    have c3b0 : decide ((IntKind.u64.wrap (a0 + a1)) < a0) = true := decide_eq_true c3
    clear c3
    obtain rfl := Option.some.inj H
    go_enter Try.func46, Try.ntmps46
    go_wp2
    go_ret
    exact ⟨by first | rfl | (simp; done) | (simp [*]; done), by repeat (first | exact Drawn0.refl _ | apply Drawn0.step)⟩
  · rw [if_neg c3] at H
    have c3b0 : decide ((IntKind.u64.wrap (a0 + a1)) < a0) = false := decide_eq_false c3
    clear c3
    obtain rfl := Option.some.inj H
    go_enter Try.func46, Try.ntmps46
    go_wp2
    go_ret
    exact ⟨by first | rfl | (simp; done) | (simp [*]; done), by repeat (first | exact Drawn0.refl _ | apply Drawn0.step)⟩

/-! ### countwheelref04_Product: function 48 -/
def countwheelref04_Product.l0 : Nat → Int → Int → Int → Option (Int)
  | 0, _, _, _ => none
  | k + 1, x0, x1, x5 => if x1 > 0 then (if (Int.tmod x1 2) = 1 then ((countwheelref04_Sum.f x5 x0).bind fun t108 => ((countwheelref04_Sum.f x0 x0).bind fun t109 => (countwheelref04_Product.l0 k t109 (IntKind.u64.wrap (Int.tdiv x1 2)) t108))) else ((countwheelref04_Sum.f x0 x0).bind fun t110 => (countwheelref04_Product.l0 k t110 (IntKind.u64.wrap (Int.tdiv x1 2)) x5))) else (some x5)
def countwheelref04_Product.f (k : Nat) (a0 : Int) (a1 : Int) : Option (Int) := countwheelref04_Product.l0 k a0 a1 0
theorem countwheelref04_Product.mono_l : ∀ k, (∀ y0 y1 y2, LeO (countwheelref04_Product.l0 k y0 y1 y2) (countwheelref04_Product.l0 (k + 1) y0 y1 y2))
  | 0 => fun _ _ _ r h => by simp [countwheelref04_Product.l0] at h
  | k + 1 => by
    have ih0 := countwheelref04_Product.mono_l k
    · intro y0 y1 y2
      unfold countwheelref04_Product.l0
      repeat' first
      | (with_reducible exact ih0 _ _ _)
      | (with_reducible exact LeO.refl _)
      | (with_reducible exact LeO.none _)
      | (with_reducible refine LeO.ite ?_ ?_)
      | (with_reducible refine LeO.bind ?_ (fun _ => ?_))
      | exact ih0 _ _ _
      | exact LeO.none _
      | refine LeO.ite ?_ ?_
      | refine LeO.bind ?_ (fun _ => ?_)
theorem countwheelref04_Product.mono : ∀ a0 a1 k, LeO (countwheelref04_Product.f k a0 a1) (countwheelref04_Product.f (k + 1) a0 a1) := by
  intro a0 a1 k
  have ih0 := countwheelref04_Product.mono_l k
  unfold countwheelref04_Product.f
  repeat' first
      | (with_reducible exact ih0 _ _ _)
      | (with_reducible exact LeO.refl _)
      | (with_reducible exact LeO.none _)
      | (with_reducible refine LeO.ite ?_ ?_)
      | (with_reducible refine LeO.bind ?_ (fun _ => ?_))
      | exact ih0 _ _ _
      | exact LeO.none _
      | refine LeO.ite ?_ ?_
      | refine LeO.bind ?_ (fun _ => ?_)
set_option maxHeartbeats 8000000 in
set_option maxRecDepth 100000 in
theorem countwheelref04_Product.calls (k : Nat) (a0 : Int) (a1 : Int) (r : Int) (w : World) (h : countwheelref04_Product.f k a0 a1 = some r) :
    Calls Try.prog 48 #[.int .u64 a0, .int .u64 a1] w fun e w' => e = .returned (.int .u64 r) ∧ Drawn0 w w' := by
  have H : (countwheelref04_Product.l0 k a0 a1 0) = some r := h
  clear h
  have H' := Aside0.mk H
  clear H
  go_enter Try.func48, Try.ntmps48
  go_wp2
  go_loopg [0, 1, 5] k (fun kq v0 v1 v5 w' => ∃ (x0_1 : Int) (x1_1 : Int) (x5_1 : Int), v0 = .int .u64 x0_1 ∧ v1 = .int .u64 x1_1 ∧ v5 = .int .u64 x5_1 ∧ Aside0 (countwheelref04_Product.l0 kq x0_1 x1_1 x5_1 = some r) ∧ Aside0 (kq ≤ k) ∧ Drawn0 w w')
  case atStart => exact ⟨(a0), (a1), (0), (by first | rfl | (simp; done) | (simp [*]; done)), (by first | rfl | (simp; done) | (simp [*]; done)), (by first | rfl | (simp; done) | (simp [*]; done)), H', ⟨Nat.le_refl _⟩, by repeat (first | exact Drawn0.refl _ | apply Drawn0.step)⟩
  case round =>
    clear H'
    try clear p2
    obtain ⟨x0_1, x1_1, x5_1, rfl, rfl, rfl, HA, HK1, ⟨m1, rfl⟩⟩ := hrel
    cases gk with
    | zero => exact absurd HA.out (by simp [countwheelref04_Product.l0])
    | succ k1 =>
      have H := HA.out
      clear HA
      simp only [countwheelref04_Product.l0] at H
      by_cases c3 : x1_1 > 0
      · rw [if_pos c3] at H
        have c3b0 : decide (0 < x1_1) = true := decide_eq_true c3
        clear c3
        by_cases c4 : (Int.tmod x1_1 2) = 1
        · rw [if_pos c4] at H
          have c4b0 : ((Int.tmod x1_1 2) == 1) = true := beq_iff_eq.mpr c4
          have c4b1 : ((Int.tmod x1_1 2) != 1) = false := bne_eq_false_iff_eq.mpr c4
          clear c4
          replace H := Option.bind_eq_some_iff.mp H
          obtain ⟨t108, A50, H⟩ := H
          replace H : ((countwheelref04_Sum.f x0_1 x0_1).bind fun t109 => (countwheelref04_Product.l0 k1 t109 (IntKind.u64.wrap (Int.tdiv x1_1 2)) t108)) = some r := H
          have A5 := Aside0.mk A50
          clear A50
          replace H := Option.bind_eq_some_iff.mp H
          obtain ⟨t109, A60, H⟩ := H
          replace H : (countwheelref04_Product.l0 k1 t109 (IntKind.u64.wrap (Int.tdiv x1_1 2)) t108) = some r := H
          have A6 := Aside0.mk A60
          clear A60
          have H' := Aside0.mk H
          clear H
          go_wp2_with (first | ((with_reducible refine gate_callee (f := 46) rfl ?_); refine goesL_ (some 13) rfl rfl Try.func46 (by kernel_rfl) rfl #[.int .u64 x5_1, .int .u64 x0_1] rfl (by (try simp only [List.map_toArray, List.map_cons, List.map_nil]); first | done | rfl | (simp only [List.length_drop, List.length_take]; rfl)) ?_; (with_reducible refine (countwheelref04_Sum.calls x5_1 x0_1 t108 _ A5.out).mono ?_); rintro e w' ⟨rfl, ⟨nd, rfl⟩⟩; refine ⟨_, rfl, ?_⟩) | ((with_reducible refine gate_callee (f := 46) rfl ?_); refine goesL_ (some 16) rfl rfl Try.func46 (by kernel_rfl) rfl #[.int .u64 x0_1, .int .u64 x0_1] rfl (by (try simp only [List.map_toArray, List.map_cons, List.map_nil]); first | done | rfl | (simp only [List.length_drop, List.length_take]; rfl)) ?_; (with_reducible refine (countwheelref04_Sum.calls x0_1 x0_1 t109 _ A6.out).mono ?_); rintro e w' ⟨rfl, ⟨nd, rfl⟩⟩; refine ⟨_, rfl, ?_⟩))
          go_roundg k1
          case measure => have := HK1.out; omega
          case rel => exact ⟨(t109), (IntKind.u64.wrap (Int.tdiv x1_1 2)), (t108), (by first | rfl | (simp; done) | (simp [*]; done)), (by first | rfl | (simp; done) | (simp [*]; done)), (by first | rfl | (simp; done) | (simp [*]; done)), H', ⟨by have := HK1.out; omega⟩, by repeat (first | exact Drawn0.refl _ | apply Drawn0.step)⟩
        · rw [if_neg c4] at H
          have c4b0 : ((Int.tmod x1_1 2) == 1) = false := beq_eq_false_iff_ne.mpr c4
          have c4b1 : ((Int.tmod x1_1 2) != 1) = true := bne_iff_ne.mpr c4
          replace H := Option.bind_eq_some_iff.mp H
          obtain ⟨t110, A70, H⟩ := H
          replace H : (countwheelref04_Product.l0 k1 t110 (IntKind.u64.wrap (Int.tdiv x1_1 2)) x5_1) = some r := H
          have A7 := Aside0.mk A70
          clear A70
          have H' := Aside0.mk H
          clear H
          go_wp2_with (first | ((with_reducible refine gate_callee (f := 46) rfl ?_); refine goesL_ (some 16) rfl rfl Try.func46 (by kernel_rfl) rfl #[.int .u64 x0_1, .int .u64 x0_1] rfl (by (try simp only [List.map_toArray, List.map_cons, List.map_nil]); first | done | rfl | (simp only [List.length_drop, List.length_take]; rfl)) ?_; (with_reducible refine (countwheelref04_Sum.calls x0_1 x0_1 t110 _ A7.out).mono ?_); rintro e w' ⟨rfl, ⟨nd, rfl⟩⟩; refine ⟨_, rfl, ?_⟩))
          go_roundg k1
          case measure => have := HK1.out; omega
          case rel => exact ⟨(t110), (IntKind.u64.wrap (Int.tdiv x1_1 2)), (x5_1), (by first | rfl | (simp; done) | (simp [*]; done)), (by first | rfl | (simp; done) | (simp [*]; done)), (by first | rfl | (simp; done) | (simp [*]; done)), H', ⟨by have := HK1.out; omega⟩, by repeat (first | exact Drawn0.refl _ | apply Drawn0.step)⟩
      · rw [if_neg c3] at H
        have c3b0 : decide (0 < x1_1) = false := decide_eq_false c3
        clear c3
        obtain rfl := Option.some.inj H
        go_wp2
        go_ret
        exact ⟨by first | rfl | (simp; done) | (simp [*]; done), by repeat (first | exact Drawn0.refl _ | apply Drawn0.step)⟩


def clock_Product.f (a0 : Int) (a1 : Int) : Option (Int) := if a0 = 0 then (some (IntKind.u64.wrap (a0 * a1))) else (if a1 > (IntKind.u64.wrap ((18446744073709551615 : Int) / a0)) then (some 18446744073709551615) else (some (IntKind.u64.wrap (a0 * a1))))
set_option maxHeartbeats 800000 in
theorem clock_Product.calls (a0 : Int) (a1 : Int) (h0 : 0 ≤ a0) (r : Int) (w : World) (h : clock_Product.f a0 a1 = some r) :
    Calls Try.prog 47 #[.int .u64 a0, .int .u64 a1] w fun e w' => e = .returned (.int .u64 r) ∧ Drawn0 w w' := by
  unfold clock_Product.f at h
  by_cases c3 : a0 = 0
  · rw [if_pos c3] at h
    have c3b0 : (a0 == 0) = true := beq_iff_eq.mpr c3
    have c3b1 : (a0 != 0) = false := bne_eq_false_iff_eq.mpr c3
    clear c3
    obtain rfl := Option.some.inj h
    clear h
    go_enter Try.func47, Try.ntmps47
    go_wp2
    go_ret
    exact ⟨rfl, Drawn0.refl _⟩
  · rw [if_neg c3] at h
    have c3b0 : (a0 == 0) = false := beq_eq_false_iff_ne.mpr c3
    have c3b1 : (a0 != 0) = true := bne_iff_ne.mpr c3
    have hpos : 0 < a0 := by omega
    have hq0 : 0 ≤ (18446744073709551615 : Int) / a0 := Int.ediv_nonneg (by omega) h0
    have hq1 : (18446744073709551615 : Int) / a0 ≤ 18446744073709551615 := Int.ediv_le_self _ (by omega)
    rw [IntWalk.u64_in _ ⟨hq0, hq1⟩] at h
    clear hq0 hq1
    by_cases c4 : a1 > (18446744073709551615 : Int) / a0
    · rw [if_pos c4] at h
      have c4b0 : decide ((18446744073709551615 : Int) / a0 < a1) = true := decide_eq_true c4
      clear c4
      obtain rfl := Option.some.inj h
      clear h
      go_enter Try.func47, Try.ntmps47
      go_wp2
      go_ret
      exact ⟨rfl, Drawn0.refl _⟩
    · rw [if_neg c4] at h
      have c4b0 : decide ((18446744073709551615 : Int) / a0 < a1) = false := decide_eq_false c4
      clear c4
      obtain rfl := Option.some.inj h
      clear h
      go_enter Try.func47, Try.ntmps47
      go_wp2
      go_ret
      exact ⟨rfl, Drawn0.refl _⟩

def sat (x : Int) : Int := if x ≤ 18446744073709551615 then x else 18446744073709551615

theorem sat_le (x : Int) : sat x ≤ 18446744073709551615 := by unfold sat; split <;> omega
theorem sat_nn (x : Int) (h : 0 ≤ x) : 0 ≤ sat x := by unfold sat; split <;> omega
theorem sum_at (a b : Int) (a0 : 0 ≤ a) (a1 : a ≤ 18446744073709551615) (b0 : 0 ≤ b) (b1 : b ≤ 18446744073709551615) : clock_Sum.f a b = some (sat (a + b)) := by
  unfold clock_Sum.f sat
  simp only [IntKind.wrap_u64]
  split <;> split <;> simp <;> omega
theorem rsum_at (a b : Int) (a0 : 0 ≤ a) (a1 : a ≤ 18446744073709551615) (b0 : 0 ≤ b) (b1 : b ≤ 18446744073709551615) : countwheelref04_Sum.f a b = some (sat (a + b)) := by
  unfold countwheelref04_Sum.f sat
  simp only [IntKind.wrap_u64]
  split <;> split <;> simp <;> omega

theorem prod_at (a b : Int) (a0 : 0 ≤ a) (a1 : a ≤ 18446744073709551615) (b0 : 0 ≤ b) (b1 : b ≤ 18446744073709551615) : clock_Product.f a b = some (sat (a * b)) := by
  unfold clock_Product.f
  by_cases h : a = 0
  · subst h
    rw [if_pos rfl]
    simp [IntKind.wrap_u64, sat]
  · have hp : 0 < a := by omega
    rw [if_neg h]
    have hq0 : 0 ≤ (18446744073709551615 : Int) / a := Int.ediv_nonneg (by omega) a0
    have hq1 : (18446744073709551615 : Int) / a ≤ 18446744073709551615 := Int.ediv_le_self _ (by omega)
    have e : IntKind.u64.wrap ((18446744073709551615 : Int) / a) = (18446744073709551615 : Int) / a := IntWalk.u64_in _ ⟨hq0, hq1⟩
    rw [e]
    have key : b ≤ (18446744073709551615 : Int) / a ↔ b * a ≤ 18446744073709551615 := Int.le_ediv_iff_mul_le hp
    have hnn : 0 ≤ a * b := Int.mul_nonneg a0 b0
    unfold sat
    rw [Int.mul_comm b a] at key
    by_cases h2 : b > (18446744073709551615 : Int) / a
    · rw [if_pos h2, if_neg (by omega)]
    · rw [if_neg h2, if_pos (by omega), IntWalk.u64_in _ (by omega)]

/-- Saturated parts make the saturated whole. -/
theorem sat_mix (x y n : Int) (hx : 0 ≤ x) (hy : 0 ≤ y) (hn : 0 ≤ n) : sat (sat x + sat y * n) = sat (x + y * n) := by
  have h1 : 0 ≤ y * n := Int.mul_nonneg hy hn
  have h2 : 0 ≤ sat y * n := Int.mul_nonneg (sat_nn y hy) hn
  by_cases ex : x ≤ 18446744073709551615
  · have sx : sat x = x := by unfold sat; rw [if_pos ex]
    rw [sx]
    by_cases ey : y ≤ 18446744073709551615
    · have sy : sat y = y := by unfold sat; rw [if_pos ey]
      rw [sy]
    · have sy : sat y = 18446744073709551615 := by unfold sat; rw [if_neg ey]
      rw [sy]
      by_cases en : n = 0
      · subst en; simp
      · have hn1 : 1 ≤ n := by omega
        have g1 : 18446744073709551615 * 1 ≤ 18446744073709551615 * n := Int.mul_le_mul_of_nonneg_left hn1 (by omega)
        have g2 : y * 1 ≤ y * n := Int.mul_le_mul_of_nonneg_left hn1 hy
        unfold sat; split <;> split <;> omega
  · have sx : sat x = 18446744073709551615 := by unfold sat; rw [if_neg ex]
    rw [sx]
    unfold sat at *; split <;> split <;> omega

theorem rprod_tell (d : Nat) : ∀ (k : Nat) (a b o : Int), 0 ≤ a → a ≤ 18446744073709551615 → 0 ≤ b → b < 2 ^ d → b ≤ 18446744073709551615 → 0 ≤ o → o ≤ 18446744073709551615 → d < k →
    countwheelref04_Product.l0 k a b o = some (sat (o + a * b)) := by
  induction d with
  | zero =>
    intro k a b o a0 a1 b0 bd b1 o0 o1 hk
    obtain ⟨k, rfl⟩ : ∃ m, k = m + 1 := ⟨k - 1, by omega⟩
    have : b = 0 := by simp at bd; omega
    subst this
    simp only [countwheelref04_Product.l0]
    rw [if_neg (by omega)]
    simp [sat, o1]
  | succ d ih =>
    intro k a b o a0 a1 b0 bd b1 o0 o1 hk
    obtain ⟨k, rfl⟩ : ∃ m, k = m + 1 := ⟨k - 1, by omega⟩
    simp only [countwheelref04_Product.l0]
    by_cases hb : b > 0
    · rw [if_pos hb]
      have e2 : Int.tdiv b 2 = b / 2 := Int.tdiv_eq_ediv_of_nonneg b0
      have e3 : Int.tmod b 2 = b % 2 := Int.tmod_eq_emod_of_nonneg b0
      have e4 : IntKind.u64.wrap (b / 2) = b / 2 := IntWalk.u64_in _ (by omega)
      have hd : b / 2 < 2 ^ d := by
        have : (2 : Int) ^ (d + 1) = 2 * 2 ^ d := by rw [Int.pow_succ]; omega
        omega
      rw [e2, e3, e4]
      have hs := sat_le (a + a)
      have hs0 := sat_nn (a + a) (by omega)
      by_cases hm : b % 2 = 1
      · rw [if_pos hm, rsum_at o a o0 o1 a0 a1]
        simp only [Option.bind_some]
        rw [rsum_at a a a0 a1 a0 a1]
        simp only [Option.bind_some]
        rw [ih k _ _ _ hs0 hs (by omega) hd (by omega) (sat_nn _ (by omega)) (sat_le _) (by omega), sat_mix _ _ _ (by omega) (by omega) (by omega)]
        congr 2
        have : a * b = a * (2 * (b / 2) + 1) := by congr 1; omega
        rw [this, Int.mul_add, Int.mul_one, ← Int.mul_assoc, Int.add_mul, Int.mul_comm a 2]
        have e : 2 * a * (b / 2) = a * (b / 2) + a * (b / 2) := by rw [Int.mul_assoc]; omega
        rw [e]; omega
      · rw [if_neg hm, rsum_at a a a0 a1 a0 a1]
        simp only [Option.bind_some]
        rw [ih k _ _ _ hs0 hs (by omega) hd (by omega) o0 o1 (by omega)]
        have so : o = sat o := by unfold sat; rw [if_pos o1]
        rw [so, sat_mix _ _ _ (by omega) (by omega) (by omega), ← so]
        congr 2
        have : a * b = a * (2 * (b / 2)) := by congr 1; omega
        rw [this, ← Int.mul_assoc, Int.add_mul, Int.mul_comm a 2]
        have e : 2 * a * (b / 2) = a * (b / 2) + a * (b / 2) := by rw [Int.mul_assoc]; omega
        rw [e]
    · rw [if_neg hb]
      have : b = 0 := by omega
      subst this
      simp [sat, o1]

set_option maxHeartbeats 800000 in
theorem sums_calls (a b : Int) (a0 : 0 ≤ a) (a1 : a ≤ 18446744073709551615) (b0 : 0 ≤ b) (b1 : b ≤ 18446744073709551615) (w : World) :
    Calls Try.prog 11 #[.int .u64 a, .int .u64 b] w fun e w' => e = .returned (.bool true) ∧ Below w.heap.size w w' := by
  have S1 := Go.Lib.hid (sum_at a b a0 a1 b0 b1)
  have S2 := Go.Lib.hid (rsum_at a b a0 a1 b0 b1)
  have S3 := Go.Lib.hid (prod_at a b a0 a1 b0 b1)
  have S4 : Hid (countwheelref04_Product.f 65 a b = some (sat (a * b))) := Go.Lib.hid (by
    unfold countwheelref04_Product.f
    rw [rprod_tell 64 65 a b 0 a0 a1 b0 (by omega) b1 (by omega) (by omega) (by omega), Int.zero_add])
  generalize sat (a + b) = s at *
  generalize sat (a * b) = p at *
  go_enter Try.func11, Try.ntmps11
  go_wp2_with fail
  refine (clock_Sum.calls a b s w S1.out).mono ?_
  rintro e w1 ⟨rfl, ⟨n1, rfl⟩⟩
  go_wp2_with fail
  refine (countwheelref04_Sum.calls a b s _ S2.out).mono ?_
  rintro e w1 ⟨rfl, ⟨n2, rfl⟩⟩
  go_wp2_with fail
  refine (clock_Product.calls a b a0 p _ S3.out).mono ?_
  rintro e w1 ⟨rfl, ⟨n3, rfl⟩⟩
  go_wp2_with fail
  refine (countwheelref04_Product.calls 65 a b p _ S4.out).mono ?_
  rintro e w1 ⟨rfl, ⟨n4, rfl⟩⟩
  go_wp2_with fail
  refine (awake_calls _).mono ?_
  rintro e w1 ⟨rfl, hb⟩
  go_wp2_with fail
  go_ret
  exact ⟨rfl, ⟨hb.os, hb.tape, hb.output, hb.size, hb.block⟩⟩

theorem clockSums_walk (w : World) (a : Int) (wa : (Lit.int .u64 a).wf = true) (b : Int) (wb : (Lit.int .u64 b).wf = true) :
    Calls Try.prog 11 #[.int .u64 a, .int .u64 b] w fun e w' => e = .returned (.bool true) ∧ Below w.heap.size w w' := by
  have := bounds_u64 wa; have := bounds_u64 wb
  exact sums_calls a b (by omega) (by omega) (by omega) (by omega) w
end Go.Proofs.Ytomhhaaogenedaa.Clk
