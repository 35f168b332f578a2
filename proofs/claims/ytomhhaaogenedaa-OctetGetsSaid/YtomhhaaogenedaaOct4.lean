/- Octet: the law OctetGets, walked. -/
import Derived.Test.YtomhhaaogenedaaOct2
namespace Go.Proofs.Ytomhhaaogenedaa.Oct
open Go.RowKit Go.Proofs.Ytomhhaaogenedaa.POctetPuts Go.Proofs.YtomhhaaogenedaaW.PrintWords Go.Proofs.YtomhhaaogenedaaW.PrintLast Go.Proofs.YtomhhaaogenedaaW.PrintMore Go.Proofs.Ytomhhaaogenedaa.Mine
set_option linter.unusedVariables false
set_option linter.unusedSimpArgs false
attribute [local go_sem] max2_int min2_int max_two min_two max_three min_three max_four min_four

/-! ### countwheelref01_Get: function 20 -/
mutual
def countwheelref01_Get.j0 : Nat → ByteArray → Int → Int → Bool → Option (Int × Bool)
  | 0, _, _, _, _ => none
  | k + 1, x0, x1, x2, x30 => if x30 = true then (some (0, false)) else (countwheelref01_Get.l0 k x0 x1 x2 0 x1)
def countwheelref01_Get.l0 : Nat → ByteArray → Int → Int → Int → Int → Option (Int × Bool)
  | 0, _, _, _, _, _ => none
  | k + 1, x0, x1, x2, x8, x9 => if x9 < (wrap64 (x1 + x2)) then (if 0 ≤ x9 then (if x9 < (x0.size : Int) then (countwheelref01_Get.l0 k x0 x1 x2 (IntKind.u64.wrap ((IntKind.u64.wrap (256 * x8)) + (IntKind.u64.wrap (bt x0 x9)))) (wrap64 (x9 + 1))) else (none)) else (none)) else (some (x8, true))
end
def countwheelref01_Get.f (k : Nat) (a0 : ByteArray) (a1 : Int) (a2 : Int) : Option (Int × Bool) := (countwheelref01_Size.f a2).bind fun t105 => (if t105 = true then (if a1 < 0 then (countwheelref01_Get.j0 k a0 a1 a2 true) else (if a1 > (a0.size : Int) then (countwheelref01_Get.j0 k a0 a1 a2 true) else (countwheelref01_Get.j0 k a0 a1 a2 (decide (a2 > (wrap64 ((a0.size : Int) - a1))))))) else (countwheelref01_Get.j0 k a0 a1 a2 true))
theorem countwheelref01_Get.mono_l : ∀ k, (∀ y0 y1 y2 y3, LeO (countwheelref01_Get.j0 k y0 y1 y2 y3) (countwheelref01_Get.j0 (k + 1) y0 y1 y2 y3)) ∧ (∀ y0 y1 y2 y3 y4, LeO (countwheelref01_Get.l0 k y0 y1 y2 y3 y4) (countwheelref01_Get.l0 (k + 1) y0 y1 y2 y3 y4))
  | 0 => ⟨fun _ _ _ _ r h => by simp [countwheelref01_Get.j0] at h, fun _ _ _ _ _ r h => by simp [countwheelref01_Get.l0] at h⟩
  | k + 1 => by
    obtain ⟨ih0, ih1⟩ := countwheelref01_Get.mono_l k
    refine ⟨?_, ?_⟩
    · intro y0 y1 y2 y3
      unfold countwheelref01_Get.j0
      repeat' first
      | (with_reducible exact ih0 _ _ _ _)
      | (with_reducible exact ih1 _ _ _ _ _)
      | (with_reducible exact LeO.refl _)
      | (with_reducible exact LeO.none _)
      | (with_reducible refine LeO.ite ?_ ?_)
      | (with_reducible refine LeO.bind ?_ (fun _ => ?_))
      | exact ih0 _ _ _ _
      | exact ih1 _ _ _ _ _
      | exact LeO.none _
      | refine LeO.ite ?_ ?_
      | refine LeO.bind ?_ (fun _ => ?_)
    · intro y0 y1 y2 y3 y4
      unfold countwheelref01_Get.l0
      repeat' first
      | (with_reducible exact ih0 _ _ _ _)
      | (with_reducible exact ih1 _ _ _ _ _)
      | (with_reducible exact LeO.refl _)
      | (with_reducible exact LeO.none _)
      | (with_reducible refine LeO.ite ?_ ?_)
      | (with_reducible refine LeO.bind ?_ (fun _ => ?_))
      | exact ih0 _ _ _ _
      | exact ih1 _ _ _ _ _
      | exact LeO.none _
      | refine LeO.ite ?_ ?_
      | refine LeO.bind ?_ (fun _ => ?_)
theorem countwheelref01_Get.mono : ∀ a0 a1 a2 k, LeO (countwheelref01_Get.f k a0 a1 a2) (countwheelref01_Get.f (k + 1) a0 a1 a2) := by
  intro a0 a1 a2 k
  obtain ⟨ih0, ih1⟩ := countwheelref01_Get.mono_l k
  unfold countwheelref01_Get.f
  repeat' first
      | (with_reducible exact ih0 _ _ _ _)
      | (with_reducible exact ih1 _ _ _ _ _)
      | (with_reducible exact LeO.refl _)
      | (with_reducible exact LeO.none _)
      | (with_reducible refine LeO.ite ?_ ?_)
      | (with_reducible refine LeO.bind ?_ (fun _ => ?_))
      | exact ih0 _ _ _ _
      | exact ih1 _ _ _ _ _
      | exact LeO.none _
      | refine LeO.ite ?_ ?_
      | refine LeO.bind ?_ (fun _ => ?_)
set_option maxHeartbeats 8000000 in
set_option maxRecDepth 100000 in
theorem countwheelref01_Get.calls (k : Nat) (a0 : ByteArray) (a1 : Int) (a2 : Int) (r1 : Int) (r2 : Bool) (w : World) (h : countwheelref01_Get.f k a0 a1 a2 = some (r1, r2)) :
    Calls Try.prog 20 #[.string a0, .int .i64 a1, .int .i64 a2] w fun e w' => e = .returned (.tuple #[.int .u64 r1, .bool r2]) ∧ Drawn0 w w' := by
  have H : ((countwheelref01_Size.f a2).bind fun t105 => (if t105 = true then (if a1 < 0 then (countwheelref01_Get.j0 k a0 a1 a2 true) else (if a1 > (a0.size : Int) then (countwheelref01_Get.j0 k a0 a1 a2 true) else (countwheelref01_Get.j0 k a0 a1 a2 (decide (a2 > (wrap64 ((a0.size : Int) - a1))))))) else (countwheelref01_Get.j0 k a0 a1 a2 true))) = some (r1, r2) := h
  clear h
  have HC4 := Aside0.mk H
  clear H
  go_enter Try.func20, Try.ntmps20
  go_upto_region 1 with (fail)
  go_cut [30] (fun v30 wc => ∃ (kq : Nat) (x30_3 : Bool), v30 = .bool x30_3 ∧ Aside0 (countwheelref01_Get.j0 kq a0 a1 a2 x30_3 = some (r1, r2)) ∧ Aside0 (kq ≤ k) ∧ Drawn0 w wc)
  case first =>
    have H := HC4.out
    clear HC4
    replace H := Option.bind_eq_some_iff.mp H
    obtain ⟨t105, A50, H⟩ := H
    replace H : (if t105 = true then (if a1 < 0 then (countwheelref01_Get.j0 k a0 a1 a2 true) else (if a1 > (a0.size : Int) then (countwheelref01_Get.j0 k a0 a1 a2 true) else (countwheelref01_Get.j0 k a0 a1 a2 (decide (a2 > (wrap64 ((a0.size : Int) - a1))))))) else (countwheelref01_Get.j0 k a0 a1 a2 true)) = some (r1, r2) := H
    have A5 := Aside0.mk A50
    clear A50
    by_cases c6 : t105 = true
    · subst c6
      have H1 : (if a1 < 0 then (countwheelref01_Get.j0 k a0 a1 a2 true) else (if a1 > (a0.size : Int) then (countwheelref01_Get.j0 k a0 a1 a2 true) else (countwheelref01_Get.j0 k a0 a1 a2 (decide (a2 > (wrap64 ((a0.size : Int) - a1))))))) = some (r1, r2) := by rw [if_pos rfl] at H; exact H
      clear H
      have H := H1
      clear H1
      by_cases c7 : a1 < 0
      · rw [if_pos c7] at H
        have c7b0 : decide (a1 < 0) = true := decide_eq_true c7
        clear c7
        (first | rw [c7b0] | (simp only [i64_w, i32_w]; rw [c7b0]) | skip)
        have H' := Aside0.mk H
        clear H
        go_wp2_with (first | ((with_reducible refine gate_callee (f := 57) rfl ?_); refine goesL_ (some 11) rfl rfl Try.func57 (by kernel_rfl) rfl #[.int .i64 a2] rfl (by (try simp only [List.map_toArray, List.map_cons, List.map_nil]); first | done | rfl | (simp only [List.length_drop, List.length_take]; rfl)) ?_; (with_reducible refine (countwheelref01_Size.calls a2 true _ A5.out).mono ?_); rintro e w' ⟨rfl, ⟨nd, rfl⟩⟩; refine ⟨_, rfl, ?_⟩))
        go_meet
        case rel => exact ⟨_, (true), (by first | rfl | (simp; done) | (simp [*]; done)), H', ⟨by first | omega | exact Nat.le_refl _⟩, by repeat (first | exact Drawn0.refl _ | apply Drawn0.step)⟩
      · rw [if_neg c7] at H
        have c7b0 : decide (a1 < 0) = false := decide_eq_false c7
        clear c7
        (first | rw [c7b0] | (simp only [i64_w, i32_w]; rw [c7b0]) | skip)
        by_cases c8 : a1 > (a0.size : Int)
        · rw [if_pos c8] at H
          have c8b0 : decide ((a0.size : Int) < a1) = true := decide_eq_true c8
          clear c8
          have H' := Aside0.mk H
          clear H
          go_wp2_with (first | ((with_reducible refine gate_callee (f := 57) rfl ?_); refine goesL_ (some 11) rfl rfl Try.func57 (by kernel_rfl) rfl #[.int .i64 a2] rfl (by (try simp only [List.map_toArray, List.map_cons, List.map_nil]); first | done | rfl | (simp only [List.length_drop, List.length_take]; rfl)) ?_; (with_reducible refine (countwheelref01_Size.calls a2 true _ A5.out).mono ?_); rintro e w' ⟨rfl, ⟨nd, rfl⟩⟩; refine ⟨_, rfl, ?_⟩))
          go_meet
          case rel => exact ⟨_, (true), (by first | rfl | (simp; done) | (simp [*]; done)), H', ⟨by first | omega | exact Nat.le_refl _⟩, by repeat (first | exact Drawn0.refl _ | apply Drawn0.step)⟩
        · rw [if_neg c8] at H
          have c8b0 : decide ((a0.size : Int) < a1) = false := decide_eq_false c8
          clear c8
          have H' := Aside0.mk H
          clear H
          go_wp2_with (first | ((with_reducible refine gate_callee (f := 57) rfl ?_); refine goesL_ (some 11) rfl rfl Try.func57 (by kernel_rfl) rfl #[.int .i64 a2] rfl (by (try simp only [List.map_toArray, List.map_cons, List.map_nil]); first | done | rfl | (simp only [List.length_drop, List.length_take]; rfl)) ?_; (with_reducible refine (countwheelref01_Size.calls a2 true _ A5.out).mono ?_); rintro e w' ⟨rfl, ⟨nd, rfl⟩⟩; refine ⟨_, rfl, ?_⟩))
          go_meet
          case rel => exact ⟨_, (decide (a2 > (wrap64 ((a0.size : Int) - a1)))), (by first | rfl | (simp; done) | (simp [*]; done)), H', ⟨by first | omega | exact Nat.le_refl _⟩, by repeat (first | exact Drawn0.refl _ | apply Drawn0.step)⟩
    · replace c6 := Bool.eq_false_iff.mpr c6
      subst c6
      have H1 : (countwheelref01_Get.j0 k a0 a1 a2 true) = some (r1, r2) := by rw [if_neg (show ¬ (false = true) by decide)] at H; exact H
      clear H
      have H := H1
      clear H1
      have H' := Aside0.mk H
      clear H
      go_wp2_with (first | ((with_reducible refine gate_callee (f := 57) rfl ?_); refine goesL_ (some 11) rfl rfl Try.func57 (by kernel_rfl) rfl #[.int .i64 a2] rfl (by (try simp only [List.map_toArray, List.map_cons, List.map_nil]); first | done | rfl | (simp only [List.length_drop, List.length_take]; rfl)) ?_; (with_reducible refine (countwheelref01_Size.calls a2 false _ A5.out).mono ?_); rintro e w' ⟨rfl, ⟨nd, rfl⟩⟩; refine ⟨_, rfl, ?_⟩))
      go_meet
      case rel => exact ⟨_, (true), (by first | rfl | (simp; done) | (simp [*]; done)), H', ⟨by first | omega | exact Nat.le_refl _⟩, by repeat (first | exact Drawn0.refl _ | apply Drawn0.step)⟩
  case rest =>
    clear HC4
    try clear c2
    try clear p2
    try clear c5
    try clear c6
    try clear p6
    try clear c7
    try clear c7b0
    try clear c8
    try clear c8b0
    obtain ⟨kq, x30_3, rfl, HA, HJ3, ⟨mc3, rfl⟩⟩ := hcut
    cases kq with
    | zero => exact absurd HA.out (by simp [countwheelref01_Get.j0])
    | succ kj3 =>
      have H := HA.out
      clear HA
      simp only [countwheelref01_Get.j0] at H
      by_cases c9 : x30_3 = true
      · subst c9
        have H1 : (some (0, false)) = some (r1, r2) := by rw [if_pos rfl] at H; exact H
        clear H
        have H := H1
        clear H1
        simp only [Option.some.injEq, Prod.mk.injEq] at H
        obtain ⟨rfl, rfl⟩ := H
        go_wp2
        go_ret2
        exact ⟨by first | rfl | (simp; done) | (simp [*]; done), by repeat (first | exact Drawn0.refl _ | apply Drawn0.step)⟩
      · replace c9 := Bool.eq_false_iff.mpr c9
        subst c9
        have H1 : (countwheelref01_Get.l0 kj3 a0 a1 a2 0 a1) = some (r1, r2) := by rw [if_neg (show ¬ (false = true) by decide)] at H; exact H
        clear H
        have H := H1
        clear H1
        have H' := Aside0.mk H
        clear H
        go_wp2
        go_loopg [8, 9] kj3 (fun kq v8 v9 w' => ∃ (x8_2 : Int) (x9_2 : Int), v8 = .int .u64 x8_2 ∧ v9 = .int .i64 x9_2 ∧ Aside0 (countwheelref01_Get.l0 kq a0 a1 a2 x8_2 x9_2 = some (r1, r2)) ∧ Aside0 (kq ≤ kj3) ∧ Drawn0 w w')
        case atStart => exact ⟨(0), (a1), (by first | rfl | (simp; done) | (simp [*]; done)), (by first | rfl | (simp; done) | (simp [*]; done)), H', ⟨Nat.le_refl _⟩, by repeat (first | exact Drawn0.refl _ | apply Drawn0.step)⟩
        case round =>
          clear H'
          try clear c2
          try clear p2
          try clear c3
          try clear c5
          try clear c6
          try clear p6
          try clear c7
          try clear c7b0
          try clear c8
          try clear c8b0
          try clear c9
          try clear p2
          try clear p6
          obtain ⟨x8_2, x9_2, rfl, rfl, HA, HK2, ⟨m2, rfl⟩⟩ := hrel
          cases gk with
          | zero => exact absurd HA.out (by simp [countwheelref01_Get.l0])
          | succ k2 =>
            have H := HA.out
            clear HA
            simp only [countwheelref01_Get.l0] at H
            by_cases c10 : x9_2 < (wrap64 (a1 + a2))
            · rw [if_pos c10] at H
              have c10b0 : decide (x9_2 < (wrap64 (a1 + a2))) = true := decide_eq_true c10
              clear c10
              by_cases c11 : 0 ≤ x9_2
              · rw [if_pos c11] at H
                have c11b0 : decide (0 ≤ x9_2) = true := decide_eq_true c11
                clear c11
                by_cases c12 : x9_2 < (a0.size : Int)
                · rw [if_pos c12] at H
                  have c12b0 : decide (x9_2 < (a0.size : Int)) = true := decide_eq_true c12
                  clear c12
                  have H' := Aside0.mk H
                  clear H
                  have p13 : 0 ≤ (x9_2 : Int) := of_decide_eq_true (by first | (with_reducible assumption) | assumption)
                  have q13 : x9_2 < (a0.size : Int) := of_decide_eq_true (by first | (with_reducible assumption) | assumption)
                  have hx13 := bt_at a0 x9_2
                  replace p13 := eq_true p13
                  replace q13 := eq_true q13
                  go_wp2
                  go_roundg k2
                  case measure => have := HJ3.out; have := HK2.out; omega
                  case rel => exact ⟨(IntKind.u64.wrap ((IntKind.u64.wrap (256 * x8_2)) + (IntKind.u64.wrap (bt a0 x9_2)))), (wrap64 (x9_2 + 1)), (by first | rfl | (simp; done) | (simp [*]; done)), (by first | rfl | (simp; done) | (simp [*]; done)), H', ⟨by have := HJ3.out; have := HK2.out; omega⟩, by repeat (first | exact Drawn0.refl _ | apply Drawn0.step)⟩
                · rw [if_neg c12] at H
                  exact absurd H (by simp)
              · rw [if_neg c11] at H
                exact absurd H (by simp)
            · rw [if_neg c10] at H
              have c10b0 : decide (x9_2 < (wrap64 (a1 + a2))) = false := decide_eq_false c10
              clear c10
              simp only [Option.some.injEq, Prod.mk.injEq] at H
              obtain ⟨rfl, rfl⟩ := H
              go_wp2
              go_ret2
              exact ⟨by first | rfl | (simp; done) | (simp [*]; done), by repeat (first | exact Drawn0.refl _ | apply Drawn0.step)⟩

theorem rget_tell (s : ByteArray) (p : Int) (n : Nat) (hs : s.size ≤ 1000000) (h0 : 0 ≤ p) (h1 : p + n ≤ s.size) (d : Nat) : ∀ (k i : Nat), i ≤ n → n - i = d → d < k →
    countwheelref01_Get.l0 k s p (n : Int) (gv s p i) (p + (i : Int)) = some (gv s p n, true) := by
  induction d with
  | zero =>
    intro k i hi hd hk
    obtain ⟨k, rfl⟩ : ∃ m, k = m + 1 := ⟨k - 1, by omega⟩
    obtain rfl : i = n := by omega
    have e : wrap64 (p + i) = p + i := by unfold wrap64; omega
    simp only [countwheelref01_Get.l0]; rw [e, if_neg (by omega)]
  | succ d ih =>
    intro k i hi hd hk
    obtain ⟨k, rfl⟩ : ∃ m, k = m + 1 := ⟨k - 1, by omega⟩
    have hb := bt_range s (p + i)
    have ih' := ih k (i + 1) (by omega) (by omega) (by omega)
    have c1 : p + (i : Int) < p + n := by omega
    have c2 : 0 ≤ p + (i : Int) := by omega
    have c3 : p + (i : Int) < (s.size : Int) := by omega
    have e0 : IntKind.u64.wrap ((IntKind.u64.wrap (256 * gv s p i)) + (IntKind.u64.wrap (bt s (p + i)))) = gv s p (i + 1) := by
      show _ = nxt (gv s p i) (bt s (p + i))
      unfold nxt
      rw [Int.mul_comm]
      simp only [IntKind.wrap_u64]; omega
    have e : wrap64 (p + n) = p + n := by unfold wrap64; omega
    have e2 : wrap64 (p + (i : Int) + 1) = p + ((i + 1 : Nat) : Int) := by unfold wrap64; omega
    simp only [countwheelref01_Get.l0]
    rw [e, if_pos c1, if_pos c2, if_pos c3, e0, e2]
    exact ih'

theorem rget_at (s : ByteArray) (p n : Int) (hs : s.size ≤ 1000000) (hp : p ≤ 9223372036854775807) (hp0 : -9223372036854775808 ≤ p) :
    countwheelref01_Get.f 20 s p n = some (if has s p n = true then (gv s p n.toNat, true) else (0, false)) := by
  unfold countwheelref01_Get.f countwheelref01_Size.f has
  have key : ∀ m : Nat, m ≤ 8 → 0 ≤ p → p ≤ s.size → countwheelref01_Get.j0 20 s p (m : Int) (decide ((m : Int) > wrap64 ((s.size : Int) - p))) = some (if (m : Int) ≤ (s.size : Int) - p then (gv s p m, true) else (0, false)) := by
    intro m hm h0 h1
    have e : wrap64 ((s.size : Int) - p) = (s.size : Int) - p := by unfold wrap64; omega
    rw [e]
    clear e
    by_cases h : (m : Int) ≤ (s.size : Int) - p
    · rw [if_pos h]
      have hd : decide ((m : Int) > (s.size : Int) - p) = false := by simp; omega
      have ht := rget_tell s p m hs h0 (by omega) m 19 0 (by omega) (by omega) (by omega)
      rw [hd]
      simp only [countwheelref01_Get.j0]
      rw [if_neg (by simp)]
      have e0 : p + ((0 : Nat) : Int) = p := by simp
      rw [e0] at ht
      exact ht
    · rw [if_neg h]
      have hd : decide ((m : Int) > (s.size : Int) - p) = true := by simp; omega
      rw [hd]
      simp only [countwheelref01_Get.j0]
      rw [if_pos trivial]
  have no : ∀ m : Int, countwheelref01_Get.j0 20 s p m true = some (0, false) := by intro m; simp only [countwheelref01_Get.j0]; rw [if_pos trivial]
  by_cases hn : n = 1 ∨ n = 2 ∨ n = 4 ∨ n = 8
  · by_cases h0 : p < 0
    · rcases hn with rfl | rfl | rfl | rfl <;> simp [h0, no] <;> omega
    · by_cases h1 : p > (s.size : Int)
      · rcases hn with rfl | rfl | rfl | rfl <;> simp [h0, h1, no] <;> omega
      · rcases hn with rfl | rfl | rfl | rfl
        · have := key 1 (by omega) (by omega) (by omega); simp [h0, h1]; simp at this; rw [this]; simp [show 0 ≤ p by omega, show p ≤ (s.size : Int) by omega]
        · have := key 2 (by omega) (by omega) (by omega); simp [h0, h1]; simp at this; rw [this]; simp [show 0 ≤ p by omega, show p ≤ (s.size : Int) by omega]
        · have := key 4 (by omega) (by omega) (by omega); simp [h0, h1]; simp at this; rw [this]; simp [show 0 ≤ p by omega, show p ≤ (s.size : Int) by omega]
        · have := key 8 (by omega) (by omega) (by omega); simp [h0, h1]; simp at this; rw [this]; simp [show 0 ≤ p by omega, show p ≤ (s.size : Int) by omega]
  · have h8 : ¬ n = 8 := by omega
    have h4 : ¬ n = 4 := by omega
    have h2 : ¬ n = 2 := by omega
    have h1 : ¬ n = 1 := by omega
    simp [h8, h4, h2, h1, no]

set_option maxHeartbeats 800000 in
theorem octetGets_walk (w : World) (s : ByteArray) (ws : s.size ≤ 9223372036854775807) (p : Int) (wp : (Lit.int .i64 p).wf = true) (n : Int) (wn : (Lit.int .i64 n).wf = true) :
    Calls Try.prog 4 #[.string s, .int .i64 p, .int .i64 n] w fun e w' => e = .returned (.bool true) ∧ Below w.heap.size w w' := by
  have hp := bounds_i64 wp
  clear wp wn
  by_cases hl : (200 : Int) < (s.size : Int)
  · have hl' : decide ((200 : Int) < (s.size : Int)) = true := by simpa using hl
    clear hp
    go_enter Try.func4, Try.ntmps4
    go_wp2_with fail
    refine (awake_calls w).mono ?_
    rintro e w5 ⟨rfl, hB5⟩
    have HB := Go.Lib.hid hB5
    clear hB5
    go_wp2_with fail
    go_ret
    exact ⟨rfl, HB.out⟩
  · have hl' : decide ((200 : Int) < (s.size : Int)) = false := by simpa using hl
    have R1 := Go.Lib.hid (get_at s p n (by omega) hp.2 hp.1)
    have R2 := Go.Lib.hid (rget_at s p n (by omega) hp.2 hp.1)
    generalize (if has s p n = true then (gv s p n.toNat, true) else (0, false)) = r at *
    obtain ⟨r1, r2⟩ := r
    clear hp hl
    go_enter Try.func4, Try.ntmps4
    go_wp2_with fail
    refine (octet_Get.calls 20 s p n r1 r2 w R1.out).mono ?_
    rintro e w1 ⟨rfl, hd1⟩
    obtain ⟨n1, rfl⟩ := hd1.out
    go_wp2_with fail
    refine (countwheelref01_Get.calls 20 s p n r1 r2 _ R2.out).mono ?_
    rintro e w2 ⟨rfl, hd2⟩
    obtain ⟨n2, rfl⟩ := hd2.out
    go_wp2_with fail
    refine (awake_calls _).mono ?_
    rintro e w5 ⟨rfl, hB5⟩
    have HB := Go.Lib.hid hB5
    clear hB5
    go_wp2_with fail
    go_ret
    exact ⟨rfl, (pw_below_drewN (Below.refl _ _) _).trans (HB.out.mono (Nat.le_refl _))⟩
end Go.Proofs.Ytomhhaaogenedaa.Oct
